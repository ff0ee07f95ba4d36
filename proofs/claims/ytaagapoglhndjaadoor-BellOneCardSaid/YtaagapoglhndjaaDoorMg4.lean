/- Bell: what is written anew. -/
import Derived.Test.YtaagapoglhndjaaDoorMg3
namespace Go.VE
open Go.RowKit Go.Proofs
section
def q0X (me:Int) (f:Fld) (o:Nat):Bool:=!decide ((o:Int)=me)&&(decide (f.no o≠0)&&!q4e me o f)
def q1c (me:Int) (f:Fld) (o:Nat):Bool:=!decide ((o:Int)=me)&&(decide (f.no o≠0)&&q4e me o f)
def q1Q (me:Int) (f:Fld) (o:Nat):Bool:=!decide ((o:Int)=me)&&decide (f.ask o≠0)
def q8G (fld:Int) (f:Fld) (o:Nat):Stk:=(1,fld,(o:Int),f.no o)
def qda (fld:Int) (f:Fld) (o:Nat):Stk:=(3,fld,(o:Int),f.ask o)
def q1u (me fld:Int) (f:Fld) (i:Nat):List Stk:=((rg i).filter (q0X me f)).map (q8G fld f)
def q2p (me fld:Int) (f:Fld) (i:Nat):List Stk:=((rg i).filter (q1c me f)).map (q8G fld f)
def q2W (me fld:Int) (f:Fld) (i:Nat):List Stk:=((rg i).filter (q1Q me f)).map (qda fld f)
def q7B (me fld:Int) (f:Fld):List Stk:=q1u me fld f 0++((if f.wants≠0 then [(2,fld,0,f.wants)] else [])++(q2p me fld f 0++(q2W me fld f 0++(if f.opn=true then [(4,fld,0,1)] else []))))
def q5S (me:Int) (bs:List Brd) (ss:List Stk):List Stk:=bs.flatMap fun e=>q7B me e.1 (q0x me e fd0 ss).1
theorem rg_len (i:Nat):(rg i).length=6 - i:=by simp [rg]
theorem q68 (i:Nat) (p:Nat→Bool) (g:Nat→Stk):(((rg i).filter p).map g).length≤6:=by
 rw [List.length_map]
 exact Nat.le_trans (List.length_filter_le _ _) (by rw [rg_len];omega)
theorem qal (me fld:Int) (f:Fld):(q7B me fld f).length≤20:=by
 have h1:=q68 0 (q0X me f) (q8G fld f)
 have h2:=q68 0 (q1c me f) (q8G fld f)
 have h3:=q68 0 (q1Q me f) (qda fld f)
 have h4:(if f.wants≠0 then [(2,fld,0,f.wants)] else []:List Stk).length≤1:=by split<;>simp
 have h5:(if f.opn=true then [(4,fld,0,1)] else []:List Stk).length≤1:=by split<;>simp
 simp only [q7B,q1u,q2p,q2W,List.length_append]
 omega
theorem qbF {me:Int} {ss:List Stk}:∀ bs:List Brd,(q5S me bs ss).length≤20*bs.length
 | []=>by simp [q5S]
 | e::r=>by
  have h1:=qal me e.1 (q0x me e fd0 ss).1
  have h2:=qbF (me:=me) (ss:=ss) r
  simp only [q5S,List.flatMap_cons,List.length_append,List.length_cons] at h2 ⊢
  omega
theorem qjy {a b c:Nat} (ha:a≤120000) (hb:b≤120000) (hc:c≤32):(a+b)*c≤140737488355328∧a+b≤9223372036854775807:=fitB ha hb hc
end
section
set_option maxRecDepth 100000
theorem q96 {i:Nat} (h:i < 6) (p:Nat→Bool) (g:Nat→Stk):((rg i).filter p).map g=(if p i=true then [g i] else [])++((rg (i+1)).filter p).map g:=by
 rw [q8N h,List.filter_cons]
 split<;>simp
end
section
set_option maxRecDepth 100000
def opN {α:Type}:List α→Option (List α)
 | []=>none
 | a::t=>some (a::t)
theorem q42 {α:Type} (l:List α):(opN l).getD []=l:=by cases l<;>rfl
theorem qgG (n:Nat) {α:Type} (s:Nat) (f:α→List D) (l:List α):(RP n).slN s (l.map f)=dL s f (opN l):=by cases l<;>rfl
end
section
set_option maxRecDepth 100000
end
section
set_option maxRecDepth 100000
def q2n (x m:Int):Int:=(x.tmod m+m).tmod m
theorem q2Z {x m:Int} (hm:0 < m):0≤q2n x m∧q2n x m < m:=by
 have h1:=Int.lt_tmod_of_pos x hm
 have h2:0≤x.tmod m+m:=by omega
 exact ⟨Int.tmod_nonneg _ h2,Int.tmod_lt_of_pos _ hm⟩
def q50 (ss:List Stk) (h left:Int):Nat:=(h+q2n left ((ss.length:Int) - h+1)).toNat
theorem q80 {ss:List Stk} {h left:Int} (h0:0≤h) (h1:h≤ss.length):(h+q2n left ((ss.length:Int) - h+1)=q50 ss h left)∧q50 ss h left≤ss.length:=by
 have:=q2Z (x:=left) (m:=(ss.length:Int) - h+1) (by omega)
 unfold q50
 omega
theorem qgQ {me h:Int} {bs:List Brd} {ss:List Stk} (h1:okP me bs ss h=true):0≤h∧h≤ss.length:=by
 simp only [okP,Bool.and_eq_true] at h1
 have:=h1.2.2.2.1
 simpa [inn] using this
theorem sums {x m:Int} (h0:0 < m) (h1:m≤200):IntKind.i64.wrap (x.tmod m+m)=x.tmod m+m:=by
 have h2:=Int.lt_tmod_of_pos x h0
 have h3:=Int.tmod_lt_of_pos x h0
 exact q3v (by omega) (by omega)
theorem s96 (n:Nat) (x m:Int) (h0:0 < m) (h1:m≤200):FN (n+1) 96 [il x,il m]=some (0,[.d (il (q2n x m))]):=by
 rw [FS,G96_eq]
 simp only [G96,q7M _ _ _ _ (show m≠0 by omega),q0T,sums h0 h1,q0t,q2n]
theorem eL49:@L49_0=@q6g:=rfl
theorem eL51:@L51_0=@q6g:=rfl
theorem s49 (n:Nat) (me h:Int) (b:Option (List Brd)) (o:Option (List Stk)) (hl:(o.getD []).length≤4611686018427387904) (hb:(b.getD []).length≤4611686018427387904) :
  FN (n+6) 49 [il me,dB b,dS o,il h]=if okP me (b.getD []) (o.getD []) h=true then some (0,[.d (il me),.d (dB b),.d (dS (some (o.getD []))),.d (il (o.getD []).length),.d (il 0)]) else noW 92:=by
 rw [FS,G49_eq]
 have hop:qek (RP (n+5)) (il me) (dB b) (dS o) (il h)=_:=op25 (n+1) me h b o hl hb
 unfold G49
 rw [eL49]
 refine q4D hop ?_
 by_cases h1:okP me (b.getD []) (o.getD []) h=true
 ·have ht:((o.getD []).map rS).take (o.getD []).length=(o.getD []).map rS:=List.take_of_length_le (by simp)
  simp only [h1,if_true,q1C,q06,q0a,q0e,q0g,q0h,q0j,q09,q2a,ne_eq,not_true,decide_false,q04,Bool.false_eq_true,if_false,q0v,List.length_map,q0O,q0K,ht,q2N,q1A,q0t]
  rfl
 ·simp [h1,noW,q4L]
theorem s51 (n:Nat) (me h left:Int) (b:Option (List Brd)) (o:Option (List Stk)) (hl:(o.getD []).length≤4611686018427387904) (hb:(b.getD []).length≤4611686018427387904) :
  FN (n+6) 51 [il me,dB b,dS o,il h,il left]=if okP me (b.getD []) (o.getD []) h=true then some (0,[.d (il me),.d (dB b),.d (dS (some ((o.getD []).take (q50 (o.getD []) h left)))),.d (il h),.d (il 0)]) else noW 92:=by
 rw [FS,G51_eq]
 have hop:opn2 (RP (n+5)) (il me) (dB b) (dS o) (il h) (il left)=_:=op2 (n+1) me h b o (il left) hl hb
 unfold G51
 rw [eL51]
 refine q4D hop ?_
 by_cases h1:okP me (b.getD []) (o.getD []) h=true
 ·have hl4:=q54 h1
  have hh:=qgQ h1
  obtain ⟨t1,t2⟩:=q80 (left:=left) hh.1 hh.2
  have hm:((o.getD []).length:Int) - h+1≠0:=by omega
  have w1:IntKind.i64.wrap (((o.getD []).length:Int) - h)=((o.getD []).length:Int) - h:=q3v (by omega) (by omega)
  have w2:IntKind.i64.wrap (((o.getD []).length:Int) - h+1)=((o.getD []).length:Int) - h+1:=q3v (by omega) (by omega)
  have w3:=sums (x:=left) (m:=((o.getD []).length:Int) - h+1) (by omega) (by omega)
  have w4:IntKind.i64.wrap (h+(left.tmod (((o.getD []).length:Int) - h+1)+(((o.getD []).length:Int) - h+1)).tmod (((o.getD []).length:Int) - h+1))=q50 (o.getD []) h left:=by
   have:h+(left.tmod (((o.getD []).length:Int) - h+1)+(((o.getD []).length:Int) - h+1)).tmod (((o.getD []).length:Int) - h+1)=q50 (o.getD []) h left:=t1
   rw [this];exact q3v (by omega) (by omega)
  have hcut:∀ (k:Nat→Nat→Out) (e:Out),(RP (n+5)).cut none (some (il (q50 (o.getD []) h left))) (o.getD []).length k e=k 0 (q50 (o.getD []) h left):=fun k e=>by
   show (if (0:Int)≤0∧(0:Int)≤(q50 (o.getD []) h left:Int)∧(q50 (o.getD []) h left:Int)≤((o.getD []).length:Nat) then (if (0:Int)=0∨(0:Int) < (q50 (o.getD []) h left:Int) then k (0:Int).toNat ((q50 (o.getD []) h left:Int) - 0).toNat else e) else none)=_
   rw [if_pos (by omega),if_pos (by omega)]
   simp
  simp only [h1,if_true,q1C,q06,q0a,q0e,q0g,q0h,q0j,q09,q2a,ne_eq,not_true,decide_false,q04,Bool.false_eq_true,if_false,q1A,qe1,w1,q0T,w2,q7M _ _ _ _ hm,w3,w4,q0v,List.length_map,q0O,hcut,q0K,← List.map_take,q2N,q0t]
  rfl
 ·simp [h1,noW,q4L]
end
section
set_option maxRecDepth 100000
theorem l53_1 (n:Nat) {e:Brd} (me:Int) {bs:List Brd} {fs:List Fld} {j:Nat} {f:Fld} (hx:bix e.1 bs=some j) (hf:fs[j]?=some f) (h6:six e.2) (hno:∀ o:Nat,f.no o≠0→e.2.toNat.testBit o=true) (R:Rr) (m1 m2 m3 n1 n2:Nat) (c1 c2 cB ch z1 z2:D) (out:List Stk) (hl:out.length≤100) :
  q1b [qfK (RP (n+3)) (rB e)] M0 0 [.d (il e.1),.d (il e.2),.d (il 0),.n out.length,.n m1,.n m2,.d c1,.d c2,.m (mapM bs fs),.r R,.r (out.map rS),.n m3,.d (il me),.d cB,.n n1,.n n2,.d ch,.d z1,.d z2]=some (0,[.n (out++q1u me e.1 f 0).length,.n m1,.n m2,.d c1,.d c2,.m (mapM bs fs),.r R,.r ((out++q1u me e.1 f 0).map rS),.n m3,.d (il me),.d cB,.n n1,.n n2,.d ch,.d z1,.d z2]):=by
 have:=q30 (β:=List Stk) 6 (by omega) (qfK (RP (n+3)) (rB e)) (fun i g=>[.d (il e.1),.d (il e.2),.d (il i),.n g.length,.n m1,.n m2,.d c1,.d c2,.m (mapM bs fs),.r R,.r (g.map rS),.n m3,.d (il me),.d cB,.n n1,.n n2,.d ch,.d z1,.d z2]) (fun i g=>g.length≤100+i)
  (fun i g=>some (0,[.n (g++q1u me e.1 f i).length,.n m1,.n m2,.d c1,.d c2,.m (mapM bs fs),.r R,.r ((g++q1u me e.1 f i).map rS),.n m3,.d (il me),.d cB,.n n1,.n n2,.d ch,.d z1,.d z2])) ?_ ?_ out hl
 ·exact this
 ·intro g k _
  simp [qfK,rg,q1u]
 ·rintro i g k hi hg hw ih
  have hle3:3*i≤17:=by omega
  have hle4:3*i≤19:=by omega
  have hlt:(i:Int) < 6:=by omega
  have hd:q1u me e.1 f i=(if q0X me f i=true then [q8G e.1 f i] else [])++q1u me e.1 f (i+1):=q96 hi _ _
  have one:∀ (c:Bool) (x:Stk),(if c=true then [x] else []).length≤1:=fun c x=>by cases c<;>simp
  have ih0:=ih (g++(if q0X me f i=true then [q8G e.1 f i] else [])) (by
   have o1:=one (q0X me f i) (q8G e.1 f i)
   simp only [List.length_append]
   omega)
  have hfit:=qjy (a:=g.length) (b:=1) (c:=32) (by omega) (by omega) (by omega)
  have hcl:q4e me (i:Int) f=(q0C me i (f.no i)&&(odd f.wants&&f.af i)):=by simp only [q4e,Int.toNat_natCast]
  rw [hd,← List.append_assoc,← ih0]
  simp only [qfK,q0X,q8G,hcl,q06,q0a,q0p,q0q,q0e,q0g,q0h,q0j,q09,q0u,q0V,decide_true,q04,if_true,q2a,q0i,q02,q0k,q5U hi,q0n,q1i,q1G,q0U,q1P,q0F,Nat.zero_add,Nat.add_zero,q0s hf,q2U f hi,qf0 f hi,q1s,hlt,s91 _ _ h6,q1k hi,s86,hx,hle3,hle4,Nat.reduceAdd,Nat.reduceLeDiff,q7M _ _ _ _ (show (2:Int)≠0 by decide),q0H,q0o,q0v,List.length_cons,List.length_nil,List.length_map,List.length_append,q0O,q0K,List.take,q0Q,hfit,and_self,q0T,hw,q1h,q0I,q0t,ne_eq,cB0]
  by_cases h1:(i:Int)=me
  ·simp [h1]
  ·by_cases h2:e.2.toNat.testBit i=true
   ·by_cases h3:f.no i=0
    ·simp [h1,h2,h3]
    ·rcases Bool.eq_false_or_eq_true (q0C me (i:Int) (f.no i)) with h4 | h4
     ·by_cases h5:f.wants.tmod 2=1
      ·rcases Bool.eq_false_or_eq_true (f.af i) with h7 | h7<;>simp only [h1,h2,h3,h4,h5,h7,q06,q0a,q0p,q0q,q0e,q0g,q0h,q0j,decide_true,decide_false,q04,if_true,q02,q4p,not_false_eq_true]<;>simp [rS,odd,h5]
      ·simp only [h1,h2,h3,h4,h5,q06,q0a,q0p,q0q,q0e,q0g,q0h,q0j,decide_true,decide_false,q04,if_true,if_false,Bool.false_eq_true,q02,q4p,not_false_eq_true]
       simp [rS,odd,h5]
     ·simp only [h1,h2,h3,h4,q06,q0a,q0p,q0q,q0e,q0g,q0h,q0j,decide_true,decide_false,q04,if_true,if_false,Bool.false_eq_true,q02,q4p,not_false_eq_true]
      simp [rS]
   ·have h3:f.no i=0:=by
     by_cases h:f.no i=0
     ·exact h
     ·exact absurd (hno i h) h2
    simp [h1,h2,h3]
theorem l53_2 (n:Nat) {e:Brd} (me:Int) {bs:List Brd} {fs:List Fld} {j:Nat} {f:Fld} (hx:bix e.1 bs=some j) (hf:fs[j]?=some f) (h6:six e.2) (hno:∀ o:Nat,f.no o≠0→e.2.toNat.testBit o=true) (R:Rr) (y:List Yr) (hy:(RP (n+3)).ld y 8=il e.1) (m1 m2 m3 n1 n2:Nat) (c1 c2 cB ch z1 z2:D) (out:List Stk) (hl:out.length≤100) :
  q1b [qfJ (RP (n+3)) y] M0 0 [.d (il e.1),.d (il e.2),.d (il 0),.n out.length,.r R,.r (out.map rS),.m (mapM bs fs),.n m1,.n m2,.d c1,.d c2,.n m3,.d (il me),.d cB,.n n1,.n n2,.d ch,.d z1,.d z2]=some (0,[.n (out++q2p me e.1 f 0).length,.r R,.r ((out++q2p me e.1 f 0).map rS),.m (mapM bs fs),.n m1,.n m2,.d c1,.d c2,.n m3,.d (il me),.d cB,.n n1,.n n2,.d ch,.d z1,.d z2]):=by
 have:=q30 (β:=List Stk) 6 (by omega) (qfJ (RP (n+3)) y) (fun i g=>[.d (il e.1),.d (il e.2),.d (il i),.n g.length,.r R,.r (g.map rS),.m (mapM bs fs),.n m1,.n m2,.d c1,.d c2,.n m3,.d (il me),.d cB,.n n1,.n n2,.d ch,.d z1,.d z2]) (fun i g=>g.length≤100+i)
  (fun i g=>some (0,[.n (g++q2p me e.1 f i).length,.r R,.r ((g++q2p me e.1 f i).map rS),.m (mapM bs fs),.n m1,.n m2,.d c1,.d c2,.n m3,.d (il me),.d cB,.n n1,.n n2,.d ch,.d z1,.d z2])) ?_ ?_ out hl
 ·exact this
 ·intro g k _
  simp [qfJ,rg,q2p]
 ·rintro i g k hi hg hw ih
  have hle3:3*i≤17:=by omega
  have hle4:3*i≤19:=by omega
  have hlt:(i:Int) < 6:=by omega
  have hd:q2p me e.1 f i=(if q1c me f i=true then [q8G e.1 f i] else [])++q2p me e.1 f (i+1):=q96 hi _ _
  have one:∀ (c:Bool) (x:Stk),(if c=true then [x] else []).length≤1:=fun c x=>by cases c<;>simp
  have ih0:=ih (g++(if q1c me f i=true then [q8G e.1 f i] else [])) (by
   have o1:=one (q1c me f i) (q8G e.1 f i)
   simp only [List.length_append]
   omega)
  have hfit:=qjy (a:=g.length) (b:=1) (c:=32) (by omega) (by omega) (by omega)
  have hcl:q4e me (i:Int) f=(q0C me i (f.no i)&&(odd f.wants&&f.af i)):=by simp only [q4e,Int.toNat_natCast]
  rw [hd,← List.append_assoc,← ih0]
  simp only [qfJ,q1c,q8G,hcl,hy,q06,q0a,q0p,q0q,q0e,q0g,q0h,q0j,q09,q0u,q0V,decide_true,q04,if_true,q2a,q0i,q02,q0k,q5U hi,q0n,q1i,q1G,q0U,q1P,q0F,Nat.zero_add,Nat.add_zero,q0s hf,q2U f hi,qf0 f hi,q1s,hlt,s91 _ _ h6,q1k hi,s86,hx,hle3,hle4,Nat.reduceAdd,Nat.reduceLeDiff,q7M _ _ _ _ (show (2:Int)≠0 by decide),q0H,q0o,q0v,List.length_cons,List.length_nil,List.length_map,List.length_append,q0O,q0K,List.take,q0Q,hfit,and_self,q0T,hw,q1h,q0I,q0t,ne_eq]
  by_cases h1:(i:Int)=me
  ·simp [h1]
  ·by_cases h2:e.2.toNat.testBit i=true
   ·by_cases h3:f.no i=0
    ·simp [h1,h2,h3]
    ·rcases Bool.eq_false_or_eq_true (q0C me (i:Int) (f.no i)) with h4 | h4
     ·by_cases h5:f.wants.tmod 2=1
      ·rcases Bool.eq_false_or_eq_true (f.af i) with h7 | h7<;>simp only [h1,h2,h3,h4,h5,h7,q06,q0a,q0p,q0q,q0e,q0g,q0h,q0j,decide_true,decide_false,q04,if_true,q02,q4p,not_false_eq_true]<;>simp [rS,odd,h5]
      ·simp only [h1,h2,h3,h4,h5,q06,q0a,q0p,q0q,q0e,q0g,q0h,q0j,decide_true,decide_false,q04,if_true,if_false,Bool.false_eq_true,q02,q4p,not_false_eq_true]
       simp [odd,h5]
     ·simp only [h1,h2,h3,h4,q06,q0a,q0p,q0q,q0e,q0g,q0h,q0j,decide_true,decide_false,q04,if_true,if_false,Bool.false_eq_true,q02,q4p,not_false_eq_true]
      simp []
   ·have h3:f.no i=0:=by
     by_cases h:f.no i=0
     ·exact h
     ·exact absurd (hno i h) h2
    simp [h1,h2,h3]
theorem l53_3 (n:Nat) {e:Brd} (me:Int) {bs:List Brd} {fs:List Fld} {j:Nat} {f:Fld} (_:bix e.1 bs=some j) (hf:fs[j]?=some f) (h6:six e.2) (hask:∀ o:Nat,f.ask o≠0→e.2.toNat.testBit o=true) (R:Rr) (n1 n2:Nat) (c1 c2 cB ch z1 _:D) (out:List Stk) (hl:out.length≤100) :
  q1b [qfI (RP (n+3))] M0 0 [.d (il e.1),.d (il e.2),.d (il 0),.n out.length,.d c1,.d c2,.d (il me),.d cB,.n n1,.n n2,.d ch,.d (il e.1),.d z1,.n j,.n 0,.m (mapM bs fs),.r (out.map rS),.r R]=some (0,[.n (out++q2W me e.1 f 0).length,.d c1,.d c2,.d (il me),.d cB,.n n1,.n n2,.d ch,.d (il e.1),.d z1,.n j,.n 0,.m (mapM bs fs),.r ((out++q2W me e.1 f 0).map rS),.r R]):=by
 have:=q30 (β:=List Stk) 6 (by omega) (qfI (RP (n+3))) (fun i g=>[.d (il e.1),.d (il e.2),.d (il i),.n g.length,.d c1,.d c2,.d (il me),.d cB,.n n1,.n n2,.d ch,.d (il e.1),.d z1,.n j,.n 0,.m (mapM bs fs),.r (g.map rS),.r R]) (fun i g=>g.length≤100+i)
  (fun i g=>some (0,[.n (g++q2W me e.1 f i).length,.d c1,.d c2,.d (il me),.d cB,.n n1,.n n2,.d ch,.d (il e.1),.d z1,.n j,.n 0,.m (mapM bs fs),.r ((g++q2W me e.1 f i).map rS),.r R])) ?_ ?_ out hl
 ·exact this
 ·intro g k _
  simp [qfI,rg,q2W]
 ·rintro i g k hi hg hw ih
  have hle3:3*i≤17:=by omega
  have hle4:3*i≤19:=by omega
  have hlt:(i:Int) < 6:=by omega
  have hd:q2W me e.1 f i=(if q1Q me f i=true then [qda e.1 f i] else [])++q2W me e.1 f (i+1):=q96 hi _ _
  have one:∀ (c:Bool) (x:Stk),(if c=true then [x] else []).length≤1:=fun c x=>by cases c<;>simp
  have ih0:=ih (g++(if q1Q me f i=true then [qda e.1 f i] else [])) (by
   have o1:=one (q1Q me f i) (qda e.1 f i)
   simp only [List.length_append]
   omega)
  have hfit:=qjy (a:=g.length) (b:=1) (c:=32) (by omega) (by omega) (by omega)
  have hcl:q4e me (i:Int) f=(q0C me i (f.no i)&&(odd f.wants&&f.af i)):=by simp only [q4e,Int.toNat_natCast]
  rw [hd,← List.append_assoc,← ih0]
  simp only [qfI,q1Q,qda,q06,q0a,q0p,q0q,q0e,q0g,q0h,q0j,q09,q0V,decide_true,q04,if_true,q2a,q0i,q02,q0k,q5U hi,q0n,q1i,q1G,q0U,q0F,Nat.zero_add,Nat.add_zero,q0s hf,q65 f hi,hlt,s91 _ _ h6,q1k hi,hle3,Nat.reduceLeDiff,q0o,q0v,List.length_cons,List.length_nil,List.length_map,List.length_append,q0O,q0K,List.take,q0Q,hfit,and_self,q0T,hw,q1h,q0I,q0t,ne_eq]
  by_cases h1:(i:Int)=me
  ·simp [h1]
  ·by_cases h2:e.2.toNat.testBit i=true
   ·by_cases h3:f.ask i=0
    ·simp [h1,h2,h3]
    ·simp only [h1,h2,h3,decide_true,decide_false,if_true,not_false_eq_true]
     simp [rS]
   ·have h3:f.ask i=0:=by
     by_cases h:f.ask i=0
     ·exact h
     ·exact absurd (hask i h) h2
    simp [h1,h2,h3]
end
section
set_option maxRecDepth 100000
theorem qhh {me P:Int} {f g:Fld} {s:Stk} (h:q0N me P f s=some g) (hf:∀ o:Nat,f.no o≠0→P.toNat.testBit o=true):∀ o:Nat,g.no o≠0→P.toNat.testBit o=true:=by
 unfold q0N at h
 repeat' split at h
 all_goals first
  | (cases h;done)
  | (simp only [Option.some.injEq] at h;subst h;exact hf)
  | skip
 ·rename_i hc
  simp only [Option.some.injEq] at h
  subst h
  intro o ho
  simp only [upN] at ho
  by_cases he:o=s.2.2.1.toNat
  ·have hp:q3h P s.2.2.1=true:=by
    cases hh:q3h P s.2.2.1 with
    | true=>rfl
    | false=>simp [hh] at hc
   have:=q16.1 (q3r hp)
   rw [he,← q1k (P:=P) (q4q (q3r hp)),Int.toNat_of_nonneg this.1]
   exact hp
  ·rw [if_neg (fun h=>he h.symm)] at ho
   exact hf o ho
theorem q6I (me:Int) (b:Brd):∀ (ss:List Stk) (f:Fld),(∀ o:Nat,f.no o≠0→b.2.toNat.testBit o=true)→∀ o:Nat,(q0x me b f ss).1.no o≠0→b.2.toNat.testBit o=true
 | [],_,hf=>hf
 | s::r,f,hf=>by
  unfold q0x
  split
  ·cases hs:q0N me b.2 f s with
   | none=>exact hf
   | some g=>exact q6I me b r g (qhh hs hf)
  ·exact q6I me b r f hf
theorem l53_5 (n:Nat) {me h:Int} (b:Option (List Brd)) {ss:List Stk} (h1:okP me (b.getD []) ss h=true) (R:Rr) (n1 n2:Nat) (ch z1 z2:D) :
  q1b [qfH (RP (n+3))] M0 0 [.d (dB b),.d (il (b.getD []).length),.d (il 0),.m (mapM (b.getD []) (pg me (b.getD []) ss)),.r R,.r [],.n 0,.d (il me),.d (dB b),.n n1,.n n2,.d ch,.d z1,.d z2] =
   some (0,[.m (mapM (b.getD []) (pg me (b.getD []) ss)),.r R,.r ((q5S me (b.getD []) ss).map rS),.n (q5S me (b.getD []) ss).length,.d (il me),.d (dB b),.n n1,.n n2,.d ch,.d z1,.d z2]):=by
 have hb4:=q8b h1
 have hr:=q12 h1
 have h66:=q2O h1
 have:=q0L (β:=List Stk) (b.getD []) (by omega) (qfH (RP (n+3))) (fun i g=>[.d (dB b),.d (il (b.getD []).length),.d (il i),.m (mapM (b.getD []) (pg me (b.getD []) ss)),.r R,.r (g.map rS),.n g.length,.d (il me),.d (dB b),.n n1,.n n2,.d ch,.d z1,.d z2])
  (fun i g=>g.length≤20*i)
  (fun i r g=>some (0,[.m (mapM (b.getD []) (pg me (b.getD []) ss)),.r R,.r ((g++q5S me r ss).map rS),.n (g++q5S me r ss).length,.d (il me),.d (dB b),.n n1,.n n2,.d ch,.d z1,.d z2])) ?_ ?_ M0 [] (by simp) (q2K (by omega))
 ·simpa using this
 ·intro g k _
  simp [qfH,q5S]
 ·intro i e r g k hi hd hlt hw hg ih
  have hlt':(i:Int) < ((b.getD []).length:Int):=by omega
  have h6:=h66 e (List.mem_of_getElem? hi)
  have hx:=qhG hr hi
  have hff:fl me (b.getD []) ss i=(q0x me e fd0 ss).1:=by
   simp only [fl]
   rw [q2Q _ hi]
  have hf:(pg me (b.getD []) ss)[i]?=some (q0x me e fd0 ss).1:=by rw [q7O h1 hlt,hff]
  have hno:=q6I me e ss fd0 (by simp [fd0])
  have hask:=q5C me e ss fd0 (by simp [fd0])
  have hal:=qal me e.1 (q0x me e fd0 ss).1
  have ih0:=ih (g++q7B me e.1 (q0x me e fd0 ss).1) (by rw [List.length_append];omega)
  simp only [q5S,List.flatMap_cons] at ih0 ⊢
  rw [←List.append_assoc,← ih0]
  unfold q7B
  generalize (q0x me e fd0 ss).1=f at hf hno hask
  have a1:=q68 0 (q0X me f) (q8G e.1 f)
  have a2:=q68 0 (q1c me f) (q8G e.1 f)
  have a3:=q68 0 (q1Q me f) (qda e.1 f)
  change (q1u me e.1 f 0).length≤6 at a1
  change (q2p me e.1 f 0).length≤6 at a2
  change (q2W me e.1 f 0).length≤6 at a3
  have fit1:=qjy (a:=(g++q1u me e.1 f 0).length) (b:=1) (c:=32) (by rw [List.length_append];omega) (by omega) (by omega)
  simp only [qfH,q06,q0a,q0p,q0q,q0e,q0g,q0h,q0j,q0V,hlt',decide_true,q04,if_true,q6y hi,cB0,cB1,q1P,hx,q10,q09,q0k]
  rw [l53_1 n me hx hf h6 hno R i 0 g.length n1 n2 (il e.1) (il e.2) (dB b) ch z1 z2 g (by omega)]
  simp only [q02,q06,q0a,q0p,q0q,q0e,q0g,q0h,q0j,q0U,q0s hf,q0n,q1G,Nat.zero_add,Nat.reduceAdd,Nat.reduceLeDiff,if_true,q0F,q1s,q2a,q04]
  by_cases h0:f.wants=0
  ·simp only [h0,ne_eq,not_true,decide_false,Bool.false_eq_true,if_false,q0t,q02,q06,q0a,q0p,q0q,q0e,q0g,q0h,q0j,List.nil_append]
   rw [l53_2 n me hx hf h6 hno R _ rfl i 0 _ n1 n2 (il e.1) (il e.2) (dB b) ch z1 z2 (g++q1u me e.1 f 0) (by simp only [List.length_append];omega)]
   simp only [q02,q06,q0a,q0p,q0q,q0e,q0g,q0h,q0j]
   rw [l53_3 n me hx hf h6 hask R n1 n2 z1 z2 (dB b) ch (il e.2) (il e.2) ((g++q1u me e.1 f 0)++q2p me e.1 f 0) (by simp only [List.length_append];omega)]
   have g4l:(((g++q1u me e.1 f 0)++q2p me e.1 f 0)++q2W me e.1 f 0).length≤1000:=by simp only [List.length_append];omega
   generalize hg4:(((g++q1u me e.1 f 0)++q2p me e.1 f 0)++q2W me e.1 f 0)=G at g4l
   have fit2:=qjy (a:=G.length) (b:=1) (c:=32) (by omega) (by omega) (by omega)
   have hN:G.length≤9223372036854775806:=by omega
   rcases Bool.eq_false_or_eq_true f.opn with ho | ho
   all_goals
    simp only [ho,Bool.false_eq_true,if_false,q02,q06,q0a,q0p,q0q,q0e,q0g,q0h,q0j,q0U,q0s hf,Nat.zero_add,Nat.reduceAdd,Nat.reduceLeDiff,if_true,q1W,q04,q0T,hw,q0o,q0v,List.length_cons,List.length_nil,List.length_map,q0O,q0K,List.take,q0Q,fit2.1,hN,and_self,q0I,q1h]
    subst hg4
    simp [rS,Nat.add_assoc,Nat.add_comm,Nat.add_left_comm]
  ·simp only [h0,ne_eq,not_false_eq_true,decide_true,if_true,q0o,q0v,List.length_cons,List.length_nil,List.length_map,q0O,Nat.zero_add,q0K,List.take,q0Q,fit1,and_self,q0I,q0t,q02,q06,q0a,q0p,q0q,q0e,q0g,q0h,q0j]
   have hap:(g++q1u me e.1 f 0).map rS++[[il 2,il e.1,il 0,il f.wants]]=(g++q1u me e.1 f 0++[((2,e.1,0,f.wants):Stk)]).map rS:=by simp [rS]
   have hln:(g++q1u me e.1 f 0).length+1=(g++q1u me e.1 f 0++[((2,e.1,0,f.wants):Stk)]).length:=by simp [Nat.add_assoc]
   rw [hap,hln]
   rw [l53_2 n me hx hf h6 hno R _ rfl i 0 _ n1 n2 (il e.1) (il e.2) (dB b) ch z1 z2 (g++q1u me e.1 f 0++[(2,e.1,0,f.wants)]) (by simp only [List.length_append,List.length_cons,List.length_nil];omega)]
   simp only [q02,q06,q0a,q0p,q0q,q0e,q0g,q0h,q0j]
   rw [l53_3 n me hx hf h6 hask R n1 n2 z1 z2 (dB b) ch (il e.2) (il e.2) ((g++q1u me e.1 f 0++[(2,e.1,0,f.wants)])++q2p me e.1 f 0) (by simp only [List.length_append,List.length_cons,List.length_nil];omega)]
   have g4l:(((g++q1u me e.1 f 0++[(2,e.1,0,f.wants)])++q2p me e.1 f 0)++q2W me e.1 f 0).length≤1000:=by simp only [List.length_append,List.length_cons,List.length_nil];omega
   generalize hg4:(((g++q1u me e.1 f 0++[(2,e.1,0,f.wants)])++q2p me e.1 f 0)++q2W me e.1 f 0)=G at g4l
   have fit2:=qjy (a:=G.length) (b:=1) (c:=32) (by omega) (by omega) (by omega)
   have hN:G.length≤9223372036854775806:=by omega
   rcases Bool.eq_false_or_eq_true f.opn with ho | ho
   all_goals
    simp only [ho,Bool.false_eq_true,if_false,q02,q06,q0a,q0p,q0q,q0e,q0g,q0h,q0j,q0U,q0s hf,Nat.zero_add,Nat.reduceAdd,Nat.reduceLeDiff,if_true,q1W,q04,q0T,hw,List.length_map,fit2.1,hN,and_self,q1h]
    subst hg4
    simp [rS,Nat.add_assoc,Nat.add_comm,Nat.add_left_comm]
theorem eL53:@L53_0=@q6g:=rfl
theorem s53 (n:Nat) (me h:Int) (b:Option (List Brd)) (o:Option (List Stk)) (hl:(o.getD []).length≤4611686018427387904) (hb:(b.getD []).length≤4611686018427387904) :
  FN (n+6) 53 [il me,dB b,dS o,il h]=if okP me (b.getD []) (o.getD []) h=true then some (0,[.d (il me),.d (dB b),.d (dS (opN (q5S me (b.getD []) (o.getD [])))),.d (il (q5S me (b.getD []) (o.getD [])).length),.d (il 0)]) else noW 92:=by
 rw [FS,G53_eq]
 have hop:qek (RP (n+5)) (il me) (dB b) (dS o) (il h)=_:=op25 (n+1) me h b o hl hb
 unfold G53
 rw [eL53]
 refine q4D hop ?_
 by_cases h1:okP me (b.getD []) (o.getD []) h=true
 ·simp only [h1,if_true,q1C,q06,q0a,q0p,q0q,q0e,q0g,q0h,q0j,q09,q2a,ne_eq,not_true,decide_false,q04,Bool.false_eq_true,if_false,q5c,q10,q0o,q0k]
  rw [l53_5 (n+2) b h1]
  simp only [q02,q06,q0a,q0e,q0g,q0h,q0j,q0v,List.length_map,q0O,if_true,qgG,q1A,q0t]
 ·simp [h1,noW,q4L]
end
section
def rf (me:Int) (e:Brd) (ss:List Stk):Fld:=(q0x me e fd0 ss).1
def rk (me:Int) (e:Brd) (ss:List Stk):Bool:=(q0x me e fd0 ss).2
theorem q1U {me:Int} {e:Brd}:∀ {l1:List Stk} {f:Fld} {l2:List Stk},(q0x me e f l1).2=true→q0x me e f (l1++l2)=q0x me e (q0x me e f l1).1 l2
 | [],f,l2,_=>rfl
 | s::r,f,l2,h=>by
  simp only [List.cons_append]
  rw [q0x,q0x]
  rw [q0x] at h
  split
  ·rename_i hs
   rw [if_pos hs] at h
   cases hf:q0N me e.2 f s with
   | none=>rw [hf] at h;cases h
   | some g =>
    rw [hf] at h
    exact q1U h
  ·rename_i hs
   rw [if_neg hs] at h
   exact q1U h
theorem q5B {me:Int} {e:Brd}:∀ {l1:List Stk} {f:Fld} {l2:List Stk},(q0x me e f (l1++l2)).2=true→(q0x me e f l1).2=true
 | [],f,l2,_=>rfl
 | s::r,f,l2,h=>by
  simp only [List.cons_append] at h
  rw [q0x] at h ⊢
  split
  ·rename_i hs
   rw [if_pos hs] at h
   cases hf:q0N me e.2 f s with
   | none=>rw [hf] at h;cases h
   | some g =>
    rw [hf] at h
    exact q5B h
  ·rename_i hs
   rw [if_neg hs] at h
   exact q5B h
theorem q46 {me:Int} {e:Brd}:∀ {l:List Stk} {f:Fld},(∀ s∈l,s.2.1≠e.1)→q0x me e f l=(f,true)
 | [],_,_=>rfl
 | s::r,f,h=>by
  rw [q0x,if_neg (h s (by simp))]
  exact q46 fun x hx=>h x (by simp [hx])
theorem q8k {α:Type} {me:Int} {e:Brd} {key:α→Int} {g:α→List Stk} (hg:∀ x,∀ s∈g x,s.2.1=key x):∀ {l:List α} {f:Fld},(∀ x∈l,key x≠e.1)→q0x me e f (l.flatMap g)=(f,true):=by
 intro l f h
 refine q46 fun s hs=>?_
 obtain ⟨x,hx,hs⟩:=List.mem_flatMap.1 hs
 rw [hg x s hs]
 exact h x hx
theorem q47 {α:Type} {me:Int} {e:Brd} {key:α→Int} {g:α→List Stk} (hg:∀ x,∀ s∈g x,s.2.1=key x):∀ {l:List α} {f:Fld} {x:α},(l.Pairwise fun a b=>key a≠key b)→x∈l→key x=e.1→q0x me e f (l.flatMap g)=q0x me e f (g x)
 | [],_,_,_,hx,_=>by cases hx
 | y::r,f,x,hp,hx,hk=>by
  cases hp with
  | cons h1 h2 =>
   rw [List.flatMap_cons]
   rcases List.mem_cons.1 hx with rfl | hx
   ·cases hb:(q0x me e f (g x)).2 with
    | true =>
     rw [q1U hb,q8k hg (fun y hy=>by have:=h1 y hy;rw [hk] at this;exact fun h=>this h.symm)]
     exact Prod.ext rfl hb.symm
    | false =>
     have:∀ {l1:List Stk} {f:Fld} {l2:List Stk},(q0x me e f l1).2=false→q0x me e f (l1++l2)=q0x me e f l1:=by
      intro l1
      induction l1 with
      | nil=>intro f l2 h;cases h
      | cons s t ih =>
       intro f l2 h
       simp only [List.cons_append]
       rw [q0x] at h
       rw [q0x,q0x]
       split
       ·rename_i hs
        rw [if_pos hs] at h
        cases hf:q0N me e.2 f s with
        | none=>rfl
        | some g=>rw [hf] at h;exact ih h
       ·rename_i hs
        rw [if_neg hs] at h
        exact ih h
     exact this hb
   ·have hne:key y≠e.1:=by have:=h1 x hx;rwa [hk] at this
    have ho:q0x me e f (g y)=(f,true):=q46 fun s hs=>by rw [hg y s hs];exact hne
    rw [q1U (by rw [ho]),ho]
    exact q47 hg h2 hx hk
theorem qhg {me P:Int} {f g:Fld} {s:Stk} (h:q0N me P f s=some g) (o:Nat):f.no o≤g.no o:=by
 unfold q0N at h
 repeat' split at h
 all_goals first
  | (cases h;done)
  | (simp only [Option.some.injEq] at h;subst h;exact Int.le_refl _)
  | skip
 rename_i hc
 simp only [Option.some.injEq] at h
 subst h
 simp only [upN]
 split
 ·rename_i he
  subst he
  simp only [Bool.or_eq_true,decide_eq_true_eq,not_or] at hc
  omega
 ·exact Int.le_refl _
theorem q5A {me:Int} {e:Brd} (o:Nat):∀ {l:List Stk} {f:Fld},f.no o≤(q0x me e f l).1.no o
 | [],_=>Int.le_refl _
 | s::r,f=>by
  rw [q0x]
  split
  ·cases hf:q0N me e.2 f s with
   | none=>exact Int.le_refl _
   | some g=>exact Int.le_trans (qhg hf o) (q5A o)
  ·exact q5A o
theorem q4y {me:Int} {e:Brd}:∀ {l:List Stk} {f:Fld} {o:Nat},(q0x me e f l).1.no o≠f.no o→((1,e.1,(o:Int),(q0x me e f l).1.no o):Stk)∈l
 | [],_,_,h=>absurd rfl h
 | s::r,f,o,h=>by
  rw [q0x] at h ⊢
  split
  ·rename_i he
   rw [if_pos he] at h
   cases hf:q0N me e.2 f s with
   | none=>rw [hf] at h;exact absurd rfl h
   | some g =>
    rw [hf] at h
    simp only at h ⊢
    by_cases hg:(q0x me e g r).1.no o=g.no o
    ·rw [hg] at h ⊢
     have hgf:g.no o≠f.no o:=h
     unfold q0N at hf
     repeat' split at hf
     all_goals first
      | (cases hf;done)
      | (simp only [Option.some.injEq] at hf;subst hf;exact absurd rfl hgf)
      | skip
     rename_i h1 hc
     simp only [Option.some.injEq] at hf
     subst hf
     simp only [upN] at hgf ⊢
     split at hgf
     ·rename_i ho
      rw [if_pos ho]
      simp only [Bool.or_eq_true,decide_eq_true_eq,not_or,Bool.not_eq_true'] at hc
      have hp:par s.2.2.1=true:=q3r (by simpa using hc.1.1.2)
      have:=q16.1 hp
      refine List.mem_cons.2 (.inl ?_)
      obtain ⟨a,b,c,d⟩:=s
      simp only at h1 he ho this ⊢
      rw [h1,he,← ho]
      simp only [Prod.mk.injEq,true_and,and_true]
      omega
     ·exact absurd rfl hgf
    ·exact List.mem_cons_of_mem _ (q4y hg)
  ·rename_i he
   rw [if_neg he] at h
   exact List.mem_cons_of_mem _ (q4y h)
theorem qf4 {me P:Int} {f g:Fld} {s:Stk} (h:q0N me P f s=some g) (hf:f.opn=true→q3x me P f=[]):g.opn=true→q3x me P g=[]:=by
 unfold q0N at h
 repeat' split at h
 all_goals first
  | (cases h;done)
  | skip
 ·rename_i hc
  simp only [Option.some.injEq] at h
  subst h
  intro ho
  simp only [Bool.or_eq_true,not_or] at hc
  exact absurd ho hc.1.2
 ·simp only [Option.some.injEq] at h;subst h;exact hf
 ·simp only [Option.some.injEq] at h;subst h;exact hf
 ·rename_i hc
  simp only [Option.some.injEq] at h
  subst h
  intro ho
  simp only at ho
  simp only [Bool.or_eq_true,not_or,ho,Bool.true_and,Bool.not_eq_true',Bool.not_eq_false] at hc
  have:=hc.2
  have e:q3x me P f=[]:=by simpa using this
  exact e
theorem q7i {me:Int} {e:Brd}:∀ {l:List Stk} {f:Fld},(f.opn=true→q3x me e.2 f=[])→(q0x me e f l).1.opn=true→q3x me e.2 (q0x me e f l).1=[]
 | [],_,hf=>hf
 | s::r,f,hf=>by
  rw [q0x]
  split
  ·cases hs:q0N me e.2 f s with
   | none=>exact hf
   | some g=>exact q7i (qf4 hs hf)
  ·exact q7i hf
end
section
theorem q3w {me h:Int} {bs:List Brd} {ss:List Stk}:okP me bs ss h=true↔par me=true∧q1T me bs=true∧ss.length≤120∧(0≤h∧h≤ss.length)∧(∀ s∈ss,qg7 bs s=true)∧∀ e∈bs,rk me e ss=true:=by
 rw [okP_W,okW]
 simp only [Bool.and_eq_true,decide_eq_true_eq,inn,List.all_eq_true,rk]
theorem qdN {bs:List Brd} (h:qat bs) {a b:Brd} (ha:a∈bs) (hb:b∈bs) (he:a.1=b.1):a=b:=by
 induction bs with
 | nil=>cases ha
 | cons c r ih =>
  cases h with
  | cons h1 h2 =>
   rcases List.mem_cons.1 ha with ha' | ha'<;>rcases List.mem_cons.1 hb with hb' | hb'
   ·rw [ha',hb']
   ·have:=h1 b hb';rw [ha'] at he;omega
   ·have:=h1 a ha';rw [hb'] at he;omega
   ·exact ih h2 ha' hb'
theorem qaP {me h:Int} {bs:List Brd} {ss L:List Stk} (h1:okP me bs ss h=true) (hs:∀ s∈L,qg7 bs s=true) (hr:∀ e∈bs,(q0x me e (rf me e ss) L).2=true) (hl:ss.length+L.length≤120):okP me bs (ss++L) h=true:=by
 obtain ⟨a1,a2,a3,a4,a5,a6⟩:=q3w.1 h1
 refine q3w.2 ⟨a1,a2,by rw [List.length_append];exact hl,⟨a4.1,by rw [List.length_append];omega⟩,fun s hm=>?_,fun e he=>?_⟩
 ·rcases List.mem_append.1 hm with hm | hm
  ·exact a5 s hm
  ·exact hs s hm
 ·unfold rk
  rw [q1U (a6 e he)]
  exact hr e he
theorem q6f {fld:Int} {bs:List Brd} {j:Nat} (hx:bix fld bs=some j):bs.getD j (0,0)∈bs∧(bs.getD j (0,0)).1=fld:=by
 obtain ⟨e,h1,h2,h3,_⟩:=q4C hx
 rw [h3]
 exact ⟨List.mem_of_getElem? h1,h2⟩
theorem fl_rf {me:Int} {bs:List Brd} {ss:List Stk} {j:Nat}:fl me bs ss j=rf me (bs.getD j (0,0)) ss:=rfl
theorem q8T {bs:List Brd} {s:Stk} {j:Nat} (h1:okS s=true) (h2:bix s.2.1 bs=some j):qg7 bs s=true:=by simp [qg7,h1,h2]
theorem q8V {me h fld:Int} {bs:List Brd} {ss L:List Stk} {j:Nat} (h1:okP me bs ss h=true) (hx:bix fld bs=some j) (hs:∀ s∈L,okS s=true∧s.2.1=fld) (hr:(q0x me (bs.getD j (0,0)) (fl me bs ss j) L).2=true) (hl:ss.length+L.length≤120):okP me bs (ss++L) h=true:=by
 have hm:=q6f hx
 refine qaP h1 (fun s hs'=>q8T (hs s hs').1 (by rw [(hs s hs').2];exact hx)) (fun e he=>?_) hl
 by_cases hef:e.1=fld
 ·have:e=bs.getD j (0,0):=qdN (q12 h1) he hm.1 (by rw [hef,hm.2])
  rw [this];exact hr
 ·rw [q46 fun s hs'=>by rw [(hs s hs').2];exact fun h=>hef h.symm]
theorem q13 {me:Int} {e:Brd} {f g:Fld} {s:Stk} {r:List Stk} (h1:s.2.1=e.1) (h2:q0N me e.2 f s=some g):q0x me e f (s::r)=q0x me e g r:=by
 rw [q0x,if_pos h1,h2]
theorem qiI {me h fld:Int} {bs:List Brd} {ss:List Stk} {j:Nat} (h1:okP me bs ss h=true) (hx:bix fld bs=some j) (hw:(q6M fld (fl me bs ss j)).1=0) (hl:ss.length+(q6M fld (fl me bs ss j)).2.length≤120):okP me bs (ss++(q6M fld (fl me bs ss j)).2) h=true∧∀ s∈(q6M fld (fl me bs ss j)).2,s.1≠1:=by
 have hm:=q6f hx
 have hfl:=q4r h1 hx
 have hrng:=q5E h1 j
 generalize hf:fl me bs ss j=f at hw hl hrng ⊢
 unfold q6M at hw hl ⊢
 split at hw
 ·cases hw
 ·rename_i ho
  rw [if_neg ho] at hl ⊢
  split at hw
  ·rename_i hd
   rw [if_pos hd] at hl ⊢
   exact ⟨by simpa using h1,by simp⟩
  ·rename_i hd
   rw [if_neg hd] at hl ⊢
   have hodd:f.wants≠99999:=by
    intro he
    rw [he] at hd
    exact hd rfl
   refine ⟨q8V h1 hx (fun s hs=>?_) ?_ hl,fun s hs=>by simp only [List.mem_singleton] at hs;subst hs;simp⟩
   ·simp only [List.mem_singleton] at hs
    subst hs
    have:=hrng.1
    simp only [okS,hfl,Bool.true_and]
    simp [inn]
    omega
   ·rw [hf,q13 (g:={ f with wants:=f.wants+1,af:=fun _=>false }) hm.2.symm]
    ·rfl
    ·simp [q0N]
     omega
theorem qiQ {me h fld:Int} {bs:List Brd} {ss:List Stk} {j:Nat} (h1:okP me bs ss h=true) (hx:bix fld bs=some j) (hw:(q51 me (bs.getD j (0,0)).2 fld (fl me bs ss j)).1=0) (hl:ss.length+(q51 me (bs.getD j (0,0)).2 fld (fl me bs ss j)).2.length≤120):okP me bs (ss++(q51 me (bs.getD j (0,0)).2 fld (fl me bs ss j)).2) h=true∧∀ s∈(q51 me (bs.getD j (0,0)).2 fld (fl me bs ss j)).2,s.1≠1:=by
 have hm:=q6f hx
 have hfl:=q4r h1 hx
 have hrng:=q5E h1 j
 generalize hf:fl me bs ss j=f at hw hl hrng ⊢
 unfold q51 at hw hl ⊢
 split at hw
 ·cases hw
 ·rename_i ho
  rw [if_neg ho] at hl ⊢
  split at hw
  ·rename_i hmi
   rw [if_pos hmi] at hl ⊢
   split at hw
   ·cases hw
   ·rename_i h9
    rw [if_neg h9] at hl ⊢
    have hmi':q3x me (bs.getD j (0,0)).2 f=[]:=by simpa using hmi
    have hst:q0N me (bs.getD j (0,0)).2 f (4,fld,0,1)=some { f with opn:=true }:=by
     generalize (bs.getD j (0,0)).2=P at hmi'
     simp [q0N,ho,hmi']
    have ok4:okS (4,fld,0,1)=true:=by simp [okS,hfl];decide
    simp only at hl ⊢
    split at hl
    ·rename_i hd
     rw [if_pos hd]
     have ok2:okS (2,fld,0,f.wants+1)=true:=by
      have:=hrng.1
      simp only [okS,hfl,Bool.true_and]
      simp [inn]
      omega
     refine ⟨q8V h1 hx (fun s hs=>?_) ?_ hl,fun s hs=>?_⟩
     ·simp only [List.mem_cons,List.not_mem_nil,or_false] at hs
      rcases hs with rfl | rfl
      ·exact ⟨ok4,rfl⟩
      ·exact ⟨ok2,rfl⟩
     ·rw [hf,q13 hm.2.symm hst,q13 (g:={ f with opn:=true,wants:=f.wants+1,af:=fun _=>false }) hm.2.symm]
      ·rfl
      ·simp [q0N]
       omega
     ·simp only [List.mem_cons,List.not_mem_nil,or_false] at hs
      rcases hs with rfl | rfl<;>simp
    ·rename_i hd
     rw [if_neg hd]
     refine ⟨q8V h1 hx (fun s hs=>?_) ?_ hl,fun s hs=>?_⟩
     ·simp only [List.mem_cons,List.not_mem_nil,or_false] at hs
      subst hs
      exact ⟨ok4,rfl⟩
     ·rw [hf,q13 hm.2.symm hst]
      rfl
     ·simp only [List.mem_cons,List.not_mem_nil,or_false] at hs
      subst hs
      simp
  ·cases hw
theorem qiK {me h fld:Int} {bs:List Brd} {ss:List Stk} {j:Nat} (h1:okP me bs ss h=true) (hx:bix fld bs=some j) (hw:(q7K fld (fl me bs ss j)).1=0) (hl:ss.length+(q7K fld (fl me bs ss j)).2.length≤120):okP me bs (ss++(q7K fld (fl me bs ss j)).2) h=true∧∀ s∈(q7K fld (fl me bs ss j)).2,s.1≠1:=by
 have hm:=q6f hx
 have hfl:=q4r h1 hx
 generalize hf:fl me bs ss j=f at hw hl ⊢
 unfold q7K at hw hl ⊢
 split at hw
 ·rename_i ho
  rw [if_pos ho] at hl ⊢
  refine ⟨q8V h1 hx (fun s hs=>?_) ?_ hl,fun s hs=>by simp only [List.mem_singleton] at hs;subst hs;simp⟩
  ·simp only [List.mem_singleton] at hs
   subst hs
   exact ⟨by simp [okS,hfl];decide,rfl⟩
  ·rw [hf,q13 (g:={ f with opn:=false }) hm.2.symm]
   ·rfl
   ·simp [q0N,ho]
 ·cases hw
end
section
theorem qb1 {P:Int} {o:Nat} (ho:o < 6) (h:P.toNat.testBit o=true):q3h P (o:Int)=true:=by rw [q1k ho];exact h
theorem qaX {me o x:Int} (h:q0C me o x=true):q0C me o (x+1)=false:=by
 unfold q0C at h ⊢
 by_cases h1:me < o<;>by_cases h2:x % 2=0
 ·have:¬ (x+1) % 2=0:=by omega
  simp [h1,this]
 ·simp [h1,h2] at h
 ·simp [h1,h2] at h
 ·have:(x+1) % 2=0:=by omega
  simp [h1,this]
theorem q81 {me:Int} {e:Brd} {f:Fld}:∀ (l:List Nat) (g:Fld),l.Nodup→(∀ o∈l,o < 6∧q2P me e.2 f o=true∧g.no o=f.no o)→g.opn=false→(q0x me e g (l.map fun (o:Nat)=>(1,e.1,(o:Int),f.no o+1))).2=true
 | [],_,_,_,_=>rfl
 | o::r,g,hn,hg,ho=>by
  simp only [List.nodup_cons] at hn
  obtain ⟨h6,hgv,hno⟩:=hg o (by simp)
  simp only [q2P,Bool.and_eq_true,Bool.not_eq_true',decide_eq_false_iff_not] at hgv
  have hP:q3h e.2 (o:Int)=true:=qb1 h6 hgv.2.1
  rw [List.map_cons,q13 (g:={ g with no:=upN g.no o (f.no o+1),af:=upN g.af o true }) rfl]
  ·refine q81 r _ hn.2 (fun q hq=>?_) ho
   obtain ⟨q1,q2,q3⟩:=hg q (by simp [hq])
   refine ⟨q1,q2,?_⟩
   simp only [upN]
   rw [if_neg (fun h:o=q=>hn.1 (by rw [h];exact hq)),q3]
  ·simp [q0N,hgv.1,hP,ho,hno]
   omega
theorem q5Q {me:Int} {e:Brd} {f:Fld}:∀ s∈q5g me e f,s.2.1=e.1∧s.1=1∧∃ o:Nat,o < 6∧q2P me e.2 f o=true∧s=(1,e.1,(o:Int),f.no o+1):=by
 intro s hs
 unfold q5g at hs
 split at hs
 ·cases hs
 ·obtain ⟨o,ho,rfl⟩:=List.mem_map.1 hs
  obtain ⟨h1,h2⟩:=List.mem_filter.1 ho
  exact ⟨rfl,rfl,o,List.mem_range.1 h1,h2,rfl⟩
theorem qdO {me h:Int} {bs:List Brd} {ss:List Stk} (h1:okP me bs ss h=true) {e:Brd} (he:e∈bs):qdL (rf me e ss):=by
 obtain ⟨j,hj,rfl⟩:=List.mem_iff_getElem.1 he
 have:=q5E h1 j
 rw [fl_rf,q2Q _ (List.getElem?_eq_getElem hj)] at this
 exact this
theorem qbV {me h:Int} {bs:List Brd} {ss:List Stk} (h1:okP me bs ss h=true) {e:Brd} (he:e∈bs):inn e.1 1 99=true∧∃ j,bix e.1 bs=some j∧bs.getD j (0,0)=e:=by
 obtain ⟨j,hj,rfl⟩:=List.mem_iff_getElem.1 he
 have hx:=qcn (q12 h1) hj
 exact ⟨q4r h1 hx,j,hx,q2Q _ (List.getElem?_eq_getElem hj)⟩
theorem qdM {bs:List Brd} (h:qat bs):bs.Pairwise fun a b=>a.1≠b.1:=List.Pairwise.imp (fun h=>by omega) h
theorem qgo {me h:Int} {bs:List Brd} {ss:List Stk} (h1:okP me bs ss h=true) (hl:ss.length+(q37 me bs ss).length≤120):okP me bs (ss++q37 me bs ss) h=true∧∀ s∈q37 me bs ss,s.1=1→q0C me s.2.2.1 s.2.2.2=false:=by
 have hr:=q12 h1
 refine ⟨qaP h1 (fun s hs=>?_) (fun e he=>?_) hl,fun s hs _=>?_⟩
 ·obtain ⟨e,he,hs⟩:=List.mem_flatMap.1 hs
  obtain ⟨a1,_,o,a3,a4,rfl⟩:=q5Q s hs
  obtain ⟨b1,j,b2,_⟩:=qbV h1 he
  exact q8T (qa2 a3 a4 (qdO h1 he) b1) b2
 ·unfold q37
  rw [q47 (key:=fun e:Brd=>e.1) (fun x s hs=>(q5Q s hs).1) (qdM hr) he rfl]
  show (q0x me e (rf me e ss) (q5g me e (rf me e ss))).2=true
  unfold q5g
  split
  ·rfl
  ·rename_i ho
   refine q81 _ _ (List.nodup_range.filter _) (fun o ho=>?_) (by simpa using ho)
   obtain ⟨b1,b2⟩:=List.mem_filter.1 ho
   exact ⟨List.mem_range.1 b1,b2,rfl⟩
 ·obtain ⟨e,he,hs⟩:=List.mem_flatMap.1 hs
  obtain ⟨_,_,o,a3,a4,rfl⟩:=q5Q s hs
  simp only [q2P,Bool.and_eq_true] at a4
  exact qaX a4.2.2.2.1
theorem q5z {me a:Int} {bs:List Brd} {ss:List Stk} {t:Tld}:∀ s∈qeT me a bs ss t,s.2.1=t.1∧∃ j,bix t.1 bs=some j∧q3h (bs.getD j (0,0)).2 a=true∧s∈qa0 me a t (fl me bs ss j):=by
 intro s hs
 unfold qeT at hs
 split at hs
 ·cases hs
 ·rename_i j hx
  split at hs
  ·rename_i hh
   refine ⟨?_,j,hx,hh,hs⟩
   unfold qa0 at hs
   rcases List.mem_append.1 hs with hs | hs
   ·split at hs
    ·simp only [List.mem_singleton] at hs;rw [hs]
    ·cases hs
   ·split at hs
    ·simp only [List.mem_singleton] at hs;rw [hs]
    ·cases hs
  ·cases hs
theorem qjt {me h a to:Int} {bs:List Brd} {ss:List Stk} {l:List Tld} (h1:okP me bs ss h=true) (h2:qcL a to l=true) (hto:to=me) (hl:ss.length+(q6v me a bs ss l).length≤120) :
  okP me bs (ss++q6v me a bs ss l) h=true∧∀ s∈q6v me a bs ss l,s.1=1→∃ t∈l,s=(1,t.1,a,t.2.1):=by
 have hr:=q12 h1
 have h2':=h2
 simp only [qcL,Bool.and_eq_true,decide_eq_true_eq,Bool.not_eq_true',decide_eq_false_iff_not] at h2'
 obtain ⟨pa,pt,hne,h4,hL⟩:=h2'
 have hne':a≠me:=by rw [←hto];exact hne
 have hpw:=q8W hL
 have hokt:∀ t∈l,qbU t=true:=by
  have:∀ {l:List Tld} {p:Option Int},okL qbU (·.1) p l=true→∀ t∈l,qbU t=true:=by
   intro l
   induction l with
   | nil=>intro p _ t ht;cases ht
   | cons x r ih =>
    intro p hp t ht
    simp only [okL,Bool.and_eq_true] at hp
    rcases List.mem_cons.1 ht with rfl | ht
    ·exact hp.1
    ·exact ih hp.2.2 t ht
  exact this hL
 refine ⟨qaP h1 (fun s hs=>?_) (fun e he=>?_) hl,fun s hs h1s=>?_⟩
 ·obtain ⟨t,ht,hs⟩:=List.mem_flatMap.1 hs
  obtain ⟨a1,j,hx,hh,hs⟩:=q5z s hs
  have hfl:=q4r h1 hx
  have hrng:=q5E h1 j
  have ok:=hokt t ht
  simp only [qbU,inn,Bool.and_eq_true,decide_eq_true_eq] at ok
  refine q8T ?_ (by rw [a1];exact hx)
  unfold qa0 at hs
  rcases List.mem_append.1 hs with hs | hs
  ·split at hs
   ·rename_i hw
    simp only [List.mem_singleton] at hs;subst hs
    exact q6G (.inr rfl) hfl pa (by have:=(hrng.2 a.toNat).2;omega) (by omega)
   ·cases hs
  ·split at hs
   ·rename_i hw
    simp only [List.mem_singleton] at hs;subst hs
    exact q6G (.inl rfl) hfl pa (by have:=(hrng.2 a.toNat).1;have:=hw.1;omega) (by omega)
   ·cases hs
 ·unfold q6v
  by_cases hex:∃ t∈l,t.1=e.1
  ·obtain ⟨t,ht,hte⟩:=hex
   rw [q47 (key:=fun t:Tld=>t.1) (fun x s hs=>(q5z s hs).1) (List.Pairwise.imp (fun h=>by omega) hpw) ht hte]
   obtain ⟨_,j,hx,hj⟩:=qbV h1 he
   unfold qeT
   rw [hte,hx]
   simp only
   split
   ·rename_i hh
    rw [hj] at hh
    have hf:fl me bs ss j=rf me e ss:=by rw [fl_rf,hj]
    rw [hf]
    generalize rf me e ss=f
    unfold qa0
    split
    ·rename_i hw
     rw [List.singleton_append,q13 hte (q8i hne' hh hw t.1)]
     split
     ·rename_i hc
      rw [q13 hte (q62 hne' hh (by exact hc.1) (by exact hc.2.2) t.1)]
      rfl
     ·rfl
    ·rw [List.nil_append]
     split
     ·rename_i hc
      rw [q13 hte (q62 hne' hh hc.1 hc.2.2 t.1)]
      rfl
     ·rfl
   ·rfl
  ·rw [q8k (key:=fun t:Tld=>t.1) (fun x s hs=>(q5z s hs).1) (fun t ht h=>hex ⟨t,ht,h⟩)]
 ·obtain ⟨t,ht,hs⟩:=List.mem_flatMap.1 hs
  obtain ⟨a1,j,hx,hh,hs⟩:=q5z s hs
  refine ⟨t,ht,?_⟩
  unfold qa0 at hs
  rcases List.mem_append.1 hs with hs | hs
  ·split at hs
   ·simp only [List.mem_singleton] at hs;subst hs;simp at h1s
   ·cases hs
  ·split at hs
   ·simp only [List.mem_singleton] at hs;exact hs
   ·cases hs
end
end Go.VE
