/- Bell: Want and Shut, by the program. -/
import Derived.Test.YtaagapoglhndjaaDoorMg1
import Derived.Test.YtaagapoglhndjaaDoorMg2
namespace Go.VE
open Go.RowKit Go.Proofs
section
set_option maxRecDepth 100000
theorem eL23:@L23_0=@qap:=rfl
theorem eL21:@L21_0=@qap:=rfl
theorem eL25:@L25_0=@q6g:=rfl
theorem eL27:@L27_0=@q6g:=rfl
theorem qjz {a b:Nat} (ha:a≤120000) (hb:b≤120000):(a+b)*32≤140737488355328∧a+b≤9223372036854775807:=by omega
section
variable {n:Nat}
theorem q41 (a:List Value) (b:Rr) (k:Mr→Out):(RP n).asM true (.mp true a b) k=k (a,b):=rfl
end
theorem q6L (l:List Stk) (s:List Stk):(l.map rS++s.map rS).take (l.length+s.length)=(l++s).map rS:=by
 rw [List.map_append];exact List.take_of_length_le (by simp)
theorem q58 (l:List Stk):dS (some l)=.sl 4 (l.map rS):=rfl
theorem q54 {me h:Int} {bs:List Brd} {ss:List Stk} (ho:okP me bs ss h=true):ss.length≤120:=by
 simp only [okP,Bool.and_eq_true,decide_eq_true_eq] at ho
 exact ho.2.2.1
theorem q2O {me h:Int} {bs:List Brd} {ss:List Stk} (ho:okP me bs ss h=true):∀ c∈bs,six c.2:=by
 simp only [okP,Bool.and_eq_true] at ho
 exact q1M ho.2.1
theorem s19 (n:Nat) (me h:Int) (b:Option (List Brd)) (o:Option (List Stk)) (fld:Int) (hl:(o.getD []).length≤4611686018427387904) (hb:(b.getD []).length≤4611686018427387904) :
  FN (n+6) 19 [il me,dB b,dS o,il h,il fld]=ofR me (b.getD []) (o.getD []) h fld noW fun j=>q6q me h b (o.getD []) (q6M fld (fl me (b.getD []) (o.getD []) j)):=by
 rw [FS,G19_eq]
 have hop:opn9 (RP (n+5)) (il me) (dB b) (dS o) (il h) (il fld)=_:=op9 (n+1) me h b o (il fld) hl hb
 unfold G19
 refine q4D hop ?_
 unfold ofR
 by_cases h1:okP me (b.getD []) (o.getD []) h=true
 ·simp only [h1,if_true,q02,q1C,q06,q0a,q0p,q0q,q0e,q0g,q0h,q0j,q09,q2a,q0V,ne_eq,not_true,decide_false,q04,Bool.false_eq_true,if_false,if_true,q0t,q0i,q1B,qby _ _ hb,q3d,decide_eq_true_eq]
  cases hx:bix fld (b.getD []) with
  | none=>simp [noW,q4L]
  | some j =>
   obtain ⟨e,he,hfld,hg,hj⟩:=q4C hx
   have h6:=q2O h1 e (List.mem_of_getElem? he)
   have hf:=q7O h1 hj
   have hr:=q5E h1 j
   have hlen:=q54 h1
   have hN:¬ ((120:Int) < ((o.getD []).length:Int)):=by omega
   have hN1:((120:Int) < (((o.getD []).length+1:Nat):Int))↔120 < (o.getD []).length+1:=by omega
   have hsl:((o.getD []).map rS).take (o.getD []).length=(o.getD []).map rS:=List.take_of_length_le (by simp)
   simp only [reduceCtorEq,if_false,q9X hx,q6y he,q1P,hx,q0U,q0s hf,q0n,q0k,q1G,q0F,Nat.reduceAdd,Nat.reduceLeDiff,if_true,Nat.zero_add,q1W,q1s]
   generalize hf0:fl me (b.getD []) (o.getD []) j=f at hf hr ⊢
   by_cases g1:f.opn=true
   ·simp [q6M,g1,q6q,noW,q4L]
   ·have g1':f.opn=false:=by simpa using g1
    have hw:IntKind.i64.wrap (f.wants+1)=f.wants+1:=by have:=hr.1;exact q3v (by omega) (by omega)
    have hc:=q3Z (n+1) b hb (q2O h1) [(2,fld,0,f.wants+1)] (by simp) ((o.getD []).map rS) me (il h) (o.getD []).length (o.getD []).length (pg me (b.getD []) (o.getD [])) (q6m (q12 h1) _)
    have hap:=q6L (o.getD []) [(2,fld,0,f.wants+1)]
    have hfit:=qjz (a:=(o.getD []).length) (b:=1) (by omega) (by omega)
    simp only [List.length_cons,List.length_nil,Nat.zero_add,List.map_cons,List.map_nil,rS] at hc hap
    by_cases g2:f.wants.tmod 2=1
    ·have g3:odd f.wants=true:=by simp [odd,g2]
     have g5:¬ (120 < (o.getD []).length):=by omega
     simp [q6M,g1',g2,g3,q6q,hN,g5,q58,q7M _ _ _ _ (show (2:Int)≠0 by decide)]
     exact hsl
    ·have g3:odd f.wants=false:=by simp [odd,g2]
     simp only [q6M,g1',g3,Bool.false_eq_true,if_false,q6q,q7M _ _ _ _ (show (2:Int)≠0 by decide),q0H,g2,decide_false,q04,q0T,hw,List.length_cons,List.length_nil,Nat.zero_add,if_true]
     simp only [q1A,q2N,q4O,mapM,q0o,hc,q02,q06,q0a,q1O,q41,qaK,q0v,List.length_map,List.length_cons,List.length_nil,Nat.zero_add,q0O,if_true,q0Q,hfit,and_self,q2s,hN1,q04,decide_eq_true_eq,q0I,q0K,List.length_append,hap]
     by_cases g4:120 < (o.getD []).length+1
     ·simp [g4,noW,q4L]
     ·simp [g4,q58,rS]
 ·simp [h1,noW,q4L]
theorem s23 (n:Nat) (me h:Int) (b:Option (List Brd)) (o:Option (List Stk)) (fld:Int) (hl:(o.getD []).length≤4611686018427387904) (hb:(b.getD []).length≤4611686018427387904) :
  FN (n+6) 23 [il me,dB b,dS o,il h,il fld]=ofR me (b.getD []) (o.getD []) h fld noW fun j=>q6q me h b (o.getD []) (q7K fld (fl me (b.getD []) (o.getD []) j)):=by
 rw [FS,G23_eq]
 have hop:opn9 (RP (n+5)) (il me) (dB b) (dS o) (il h) (il fld)=_:=op9 (n+1) me h b o (il fld) hl hb
 unfold G23
 rw [eL23]
 refine q4D hop ?_
 unfold ofR
 by_cases h1:okP me (b.getD []) (o.getD []) h=true
 ·simp only [h1,if_true,q02,q1C,q06,q0a,q0p,q0q,q0e,q0g,q0h,q0j,q09,q2a,q0V,ne_eq,not_true,decide_false,q04,Bool.false_eq_true,if_false,if_true,q0t,q0i,q1B,qby _ _ hb,q3d,decide_eq_true_eq]
  cases hx:bix fld (b.getD []) with
  | none=>simp [noW,q4L]
  | some j =>
   obtain ⟨e,he,hfld,hg,hj⟩:=q4C hx
   have h6:=q2O h1 e (List.mem_of_getElem? he)
   have hf:=q7O h1 hj
   have hr:=q5E h1 j
   have hlen:=q54 h1
   have hN:¬ ((120:Int) < ((o.getD []).length:Int)):=by omega
   have hN1:((120:Int) < (((o.getD []).length+1:Nat):Int))↔120 < (o.getD []).length+1:=by omega
   have hsl:((o.getD []).map rS).take (o.getD []).length=(o.getD []).map rS:=List.take_of_length_le (by simp)
   simp only [reduceCtorEq,if_false,q9X hx,q6y he,q1P,hx,q0U,q0s hf,q0n,q0k,q1G,q0F,Nat.reduceAdd,Nat.reduceLeDiff,if_true,Nat.zero_add,q1W]
   generalize hf0:fl me (b.getD []) (o.getD []) j=f at hf hr ⊢
   by_cases g1:f.opn=true
   ·have hc:=q3Z (n+1) b hb (q2O h1) [(4,fld,0,0)] (by simp) ((o.getD []).map rS) me (il h) (o.getD []).length (o.getD []).length (pg me (b.getD []) (o.getD [])) (q6m (q12 h1) _)
    have hap:=q6L (o.getD []) [(4,fld,0,0)]
    have hfit:=qjz (a:=(o.getD []).length) (b:=1) (by omega) (by omega)
    simp only [List.length_cons,List.length_nil,Nat.zero_add,List.map_cons,List.map_nil,rS] at hc hap
    simp only [q7K,g1,if_true,q6q,q0E,Bool.not_true,Bool.false_eq_true,if_false,q04,List.length_cons,List.length_nil,Nat.zero_add]
    simp only [q1A,q2N,q4O,mapM,q0o,hc,q02,q06,q0a,q1O,q41,qaK,q0v,List.length_map,List.length_cons,List.length_nil,Nat.zero_add,q0O,if_true,q0Q,hfit,and_self,q2s,hN1,q04,decide_eq_true_eq,q0I,q0K,List.length_append,hap]
    by_cases g4:120 < (o.getD []).length+1
    ·simp [g4,noW,q4L]
    ·simp [g4,q58,rS]
   ·simp [q7K,g1,q6q,noW,q4L,q0E]
 ·simp [h1,noW,q4L]
end
section
set_option maxRecDepth 100000
theorem q5o {me:Int} {bs:List Brd} {fs:List Fld} {s:Stk} {j:Nat} {f g:Fld} (hs:okS s=true) (hx:bix s.2.1 bs=some j) (hf:fs[j]?=some f) (hg:q0N me (bs.getD j (0,0)).2 f s=some g):q19 me bs fs [s]=(fs.set j g,true):=by
 have e:fs.getD j fd0=f:=q2Q _ hf
 simp only [q19,hs,if_true,hx,e,hg]
theorem q4r {me h:Int} {bs:List Brd} {ss:List Stk} (ho:okP me bs ss h=true) {fld:Int} {j:Nat} (hx:bix fld bs=some j):inn fld 1 99=true:=by
 obtain ⟨e,he,rfl,-,-⟩:=q4C hx
 simp only [okP,q1T,Bool.and_eq_true] at ho
 have:=(q5X ho.2.1.1 e (List.mem_of_getElem? he)).1
 simp only [qj9,okB,Bool.and_eq_true] at this
 exact this.1.1
theorem l21 (n:Nat) {e:Brd} (me:Int) {bs:List Brd} {fs:List Fld} {j:Nat} {f:Fld} (hx:bix e.1 bs=some j) (hf:fs[j]?=some f) (h6:six e.2) (c1 c2 cB ch z1 z2:D) (R:Rr) (n1 n2:Nat) :
  q1b [qfT (RP (n+3)) (rB e),qfS (RP (n+3)) (rB e)] M0 0 [.d (il e.1),.d (il e.2),.d (il 0),.d c1,.d c2,.m (mapM bs fs),.r R,.d (il me),.d cB,.n n1,.n n2,.d ch,.d z1,.d z2]=qhN (some (0,[.d c1,.d c2,.m (mapM bs fs),.r R,.d (il me),.d cB,.n n1,.n n2,.d ch,.d z1,.d z2])) (fun acc=>some (1,[.r acc,.n acc.length,.n acc.length,.d c1,.d c2,.m (mapM bs fs),.r R,.d (il me),.d cB,.n n1,.n n2,.d ch,.d z1,.d z2])) ((q3x me e.2 f).map rN):=by
 have hmm:=qjc me e.2 f
 unfold qjd at hmm
 have:=qct 6 (by omega) (qdK (fun (o:Nat)=>!decide ((o:Int)=me)&&(e.2.toNat.testBit o&&!q0C me o (f.no o))) rN) (qfT (RP (n+3)) (rB e)) (qfS (RP (n+3)) (rB e)) (fun i=>[.d (il e.1),.d (il e.2),.d (il i),.d c1,.d c2,.m (mapM bs fs),.r R,.d (il me),.d cB,.n n1,.n n2,.d ch,.d z1,.d z2])
  (fun i acc=>[.d (il e.1),.d (il e.2),.d (il i),.r acc,.n acc.length,.n acc.length,.d c1,.d c2,.m (mapM bs fs),.r R,.d (il me),.d cB,.n n1,.n n2,.d ch,.d z1,.d z2]) (some (0,[.d c1,.d c2,.m (mapM bs fs),.r R,.d (il me),.d cB,.n n1,.n n2,.d ch,.d z1,.d z2])) (fun acc=>some (1,[.r acc,.n acc.length,.n acc.length,.d c1,.d c2,.m (mapM bs fs),.r R,.d (il me),.d cB,.n n1,.n n2,.d ch,.d z1,.d z2])) ?_ ?_ ?_ ?_
 ·rw [q7o,hmm] at this
  exact this
 ·intro k;simp [qfT]
 ·intro k a t _;simp [qfS]
 ·intro i k hi hw
  have hle:3*i+1≤20:=by omega
  simp only [qfT,show ((i:Int) < 6) by omega,fit0 8 (by decide),hle,q2U _ hi,s86,cB0,q06,q0a,q0p,q0q,q0e,q0g,q0h,q0j,q09,q0V,decide_true,q04,if_true,q2a,q0i,q02,q0E,q0k,q5U hi,q0n,q1i,q1G,q0U,q1P,q0s hf,q0F,Nat.zero_add,Nat.add_zero,q0o,q0v,List.length_cons,List.length_nil,q0O,q0K,List.take,q0Q,and_self,q0T,hw,q1h,hx,qdK,rN,s91 _ _ h6,q1k hi,q5l]
  by_cases h1:(i:Int)=me
  ·simp [h1]
  ·by_cases h2:e.2.toNat.testBit i=true
   ·by_cases h3:q0C me i (f.no i)=true<;>simp [h1,h2,h3]
   ·simp [h1,h2]
 ·intro i k a t hi ha hw
  simp only [List.length_cons] at ha
  have hfit:=fit1 (n:=t.length) 8 (by decide) (by omega)
  have hle:3*i+1≤20:=by omega
  simp only [qfS,show ((i:Int) < 6) by omega,hfit,q0I,hle,q2U _ hi,s86,cB0,q06,q0a,q0p,q0q,q0e,q0g,q0h,q0j,q09,q0V,decide_true,q04,if_true,q2a,q0i,q02,q0E,q0k,q5U hi,q0n,q1i,q1G,q0U,q1P,q0s hf,q0F,Nat.zero_add,Nat.add_zero,q0o,q0v,List.length_cons,List.length_nil,q0O,q0K,List.take,q0Q,and_self,q0T,hw,q1h,hx,qdK,rN,s91 _ _ h6,q1k hi]
  by_cases h1:(i:Int)=me
  ·simp [h1]
  ·by_cases h2:e.2.toNat.testBit i=true
   ·by_cases h3:q0C me i (f.no i)=true<;>simp [h1,h2,h3]
   ·simp [h1,h2]
theorem s21 (n:Nat) (me h:Int) (b:Option (List Brd)) (o:Option (List Stk)) (fld:Int) (hl:(o.getD []).length≤4611686018427387904) (hb:(b.getD []).length≤4611686018427387904) :
  FN (n+6) 21 [il me,dB b,dS o,il h,il fld]=ofR me (b.getD []) (o.getD []) h fld noW fun j=>q6q me h b (o.getD []) (q51 me ((b.getD []).getD j (0,0)).2 fld (fl me (b.getD []) (o.getD []) j)):=by
 rw [FS,G21_eq]
 have hop:opn9 (RP (n+5)) (il me) (dB b) (dS o) (il h) (il fld)=_:=op9 (n+1) me h b o (il fld) hl hb
 unfold G21
 rw [eL21]
 refine q4D hop ?_
 unfold ofR
 by_cases h1:okP me (b.getD []) (o.getD []) h=true
 ·simp only [h1,if_true,q02,q1C,q06,q0a,q0p,q0q,q0e,q0g,q0h,q0j,q09,q2a,q0V,ne_eq,not_true,decide_false,q04,Bool.false_eq_true,if_false,if_true,q0t,q0i,q1B,qby _ _ hb,q3d,decide_eq_true_eq]
  cases hx:bix fld (b.getD []) with
  | none=>simp [noW,q4L]
  | some j =>
   obtain ⟨e,he,hfld,hg,hj⟩:=q4C hx
   have h6:=q2O h1 e (List.mem_of_getElem? he)
   have hf:=q7O h1 hj
   have hr:=q5E h1 j
   have hlen:=q54 h1
   have hN:¬ ((120:Int) < ((o.getD []).length:Int)):=by omega
   have hN1:((120:Int) < (((o.getD []).length+1:Nat):Int))↔120 < (o.getD []).length+1:=by omega
   have hsl:((o.getD []).map rS).take (o.getD []).length=(o.getD []).map rS:=List.take_of_length_le (by simp)
   simp only [reduceCtorEq,if_false,q9X hx,q6y he,q1P,hx,q0U,q0s hf,q0n,q0k,q1G,q0F,Nat.reduceAdd,Nat.reduceLeDiff,if_true,Nat.zero_add,q1W]
   have h21:=l21 (n+2) me (e:=e) (by rw [hfld];exact hx) hf h6 (il e.1) (il e.2) (dB b) (il h) (il 0) (il 0) ((o.getD []).map rS) (o.getD []).length (o.getD []).length
   rw [hg]
   generalize hf0:fl me (b.getD []) (o.getD []) j=f at hf hr h21 ⊢
   by_cases g1:f.opn=true
   ·simp [q51,g1,q6q,noW,q4L]
   ·have g1':f.opn=false:=by simpa using g1
    have hw:IntKind.i64.wrap (f.wants+1)=f.wants+1:=by have:=hr.1;exact q3v (by omega) (by omega)
    simp only [g1,cB0,cB1,q10]
    rw [h21]
    cases hm:q3x me e.2 f with
    | cons a t =>
     simp [q51,g1',hm,qhN,q6q,noW,q4L]
    | nil =>
     simp only [List.map_nil,qhN,q02,q2s,show ¬ ((0:Int) < 0) by decide,decide_false,q04,Bool.false_eq_true,if_false,q06,q0a,q0p,q0q,q0e,q0g,q0h,q0j,q0U,q0s hf,q1s,q0H]
     by_cases g2:f.wants=99999
     ·simp [q51,g1',hm,g2,q6q,noW,q4L]
     ·simp only [g2,decide_false,Bool.false_eq_true,if_false]
      have hok:okS (4,fld,0,1)=true:=by
       simpa [okS,inn] using q4r h1 hx
      have hst:q0N me ((b.getD []).getD j (0,0)).2 f (4,fld,0,1)=some { f with opn:=true }:=by
       rw [hg];simp [q0N,g1',hm]
      have hp:=q5o hok hx hf hst
      have hc:=q3Z (n+1) b hb (q2O h1) [(4,fld,0,1)] (by simp) ((o.getD []).map rS) me (il h) (o.getD []).length (o.getD []).length (pg me (b.getD []) (o.getD [])) (q6m (q12 h1) _)
      have hc2:=q3Z (n+1) b hb (q2O h1) [(2,fld,0,f.wants+1)] (by simp) ((o.getD []++[(4,fld,0,1)]).map rS) me (il h) ((o.getD []).length+1) ((o.getD []).length+1) ((pg me (b.getD []) (o.getD [])).set j { f with opn:=true }) (by rw [q3W];exact q6m (q12 h1) _)
      have hap:=q6L (o.getD []) [(4,fld,0,1)]
      have hap2:=q6L (o.getD []) [(4,fld,0,1),(2,fld,0,f.wants+1)]
      have hfit:=qjz (a:=(o.getD []).length) (b:=1) (by omega) (by omega)
      have hfit2:=qjz (a:=(o.getD []).length+1) (b:=1) (by omega) (by omega)
      have hq1:(o.getD []).length≤9223372036854775806:=by omega
      have hq2:(o.getD []).length+1≤9223372036854775806:=by omega
      have hrow:∀ k:List D→Out,(RP (n+5)).rowAt 20 (((pg me (b.getD []) (o.getD [])).set j { f with opn:=true }).map q1g) j k=k (q1g { f with opn:=true }):=fun k=>q0s (q2R hf _) k
      rw [hp] at hc
      simp only [List.length_cons,List.length_nil,Nat.zero_add,List.map_cons,List.map_nil,rS,List.map_append] at hc hc2 hap hap2
      simp only [q1A,q2N,q4O,mapM,q0o,q02,q06,q0a,q1O,q41,qaK,q0v,List.length_map,List.length_cons,List.length_nil,Nat.zero_add,q0O,if_true,q0Q,and_self,q2s,q04,decide_eq_true_eq,q0I,q0K,hc,hfit,hq1,q11,hrow,Nat.reduceLeDiff,q1s,q7M _ _ _ _ (show (2:Int)≠0 by decide),q0H]
      by_cases g3:f.wants.tmod 2=1
      ·have g4:odd f.wants=true:=by simp [odd,g3]
       have hN2:((120:Int) < (((o.getD []).length+1+1:Nat):Int))↔120 < (o.getD []).length+2:=by omega
       have hap3:(((o.getD []).map rS)++[[il 4,il fld,il 0,il 1],[il 2,il fld,il 0,il (f.wants+1)]]).take ((o.getD []).length+1+1)=(o.getD []).map rS++[[il 4,il fld,il 0,il 1],[il 2,il fld,il 0,il (f.wants+1)]]:=List.take_of_length_le (by simp)
       simp only [g3,if_true,q02,q06,q0a,q0e,q0g,q0h,q0j,q1O,q41,qaK,List.length_map,List.length_cons,List.length_nil,Nat.zero_add,if_true,and_self,List.length_append,q0T,hw,hc2,hfit2,hq2,hN2,hap3,List.append_assoc,List.cons_append,List.nil_append]
       by_cases g5:120 < (o.getD []).length+2
       ·simp [g5,q51,g1',hm,g2,g4,q6q,noW,q4L]
       ·simp [g5,q51,g1',hm,g2,g4,q6q,q58,rS]
      ·have g4:odd f.wants=false:=by simp [odd,g3]
       simp only [g3,if_false,q02,q06,q0a,q0e,q0g,q0h,q0j,List.length_map,List.length_cons,List.length_nil,Nat.zero_add,if_true,List.length_append,hN1,hap]
       by_cases g5:120 < (o.getD []).length+1
       ·simp [g5,q51,g1',hm,g2,g4,q6q,noW,q4L]
       ·simp [g5,q51,g1',hm,g2,g4,q6q,q58,rS]
 ·simp [h1,noW,q4L]
end
section
set_option maxRecDepth 100000
def q93 (f:Fld) (o:Nat):Fld:={ f with no:=upN f.no o (f.no o+1),af:=upN f.af o true }
def qgl (me:Int) (e:Brd):List Nat→Fld→Fld
 | [],f=>f
 | o::r,f=>if q2P me e.2 f o=true then qgl me e r (q93 f o) else qgl me e r f
def q9g (me:Int) (e:Brd):List Nat→Fld→List Stk
 | [],_=>[]
 | o::r,f=>if q2P me e.2 f o=true then (1,e.1,(o:Int),f.no o+1)::q9g me e r (q93 f o) else q9g me e r f
theorem qhd {me P:Int} {f g:Fld} {o:Nat} (h:f.no o=g.no o∧f.af o=g.af o∧f.ask o=g.ask o) (h4:f.wants=g.wants):q2P me P f o=q2P me P g o:=by
 simp only [q2P,q4e,Int.toNat_natCast,h.1,h.2.1,h.2.2,h4]
theorem qau {me:Int} {e:Brd}:∀ (l:List Nat) (f g:Fld),l.Nodup→(∀ o∈l,f.no o=g.no o∧f.af o=g.af o∧f.ask o=g.ask o)→f.wants=g.wants→q9g me e l f=(l.filter (q2P me e.2 g)).map fun (o:Nat)=>(1,e.1,(o:Int),g.no o+1)
 | [],_,_,_,_,_=>rfl
 | o::r,f,g,hd,h,hw=>by
  have h0:=h o List.mem_cons_self
  have hr:=fun q (hq:q∈r)=>h q (List.mem_cons_of_mem _ hq)
  obtain ⟨hn,hd⟩:=List.nodup_cons.1 hd
  rw [q9g,qhd h0 hw,List.filter_cons]
  by_cases hg:q2P me e.2 g o=true
  ·rw [if_pos hg,if_pos hg,List.map_cons,h0.1]
   refine congrArg _ (qau r (q93 f o) g hd (fun q hq=>?_) hw)
   have hne:o≠q:=fun he=>hn (he ▸ hq)
   simpa [q93,upN,hne] using hr q hq
  ·rw [if_neg hg,if_neg hg]
   exact qau r f g hd hr hw
theorem q8I (me:Int) (e:Brd):∀ (l:List Nat) (f:Fld),(q9g me e l f).length≤l.length
 | [],_=>by simp [q9g]
 | o::r,f=>by
  rw [q9g]
  split
  ·simpa using q8I me e r (q93 f o)
  ·exact Nat.le_succ_of_le (q8I me e r f)
theorem qcZ {me P:Int} {f:Fld} {o:Nat} (ho:o < 6) (hg:q2P me P f o=true) (hn:f.opn=false) (fld:Int):q0N me P f (1,fld,(o:Int),f.no o+1)=some (q93 f o):=by
 simp only [q2P,Bool.and_eq_true,Bool.not_eq_true',decide_eq_false_iff_not] at hg
 have h1:q3h P (o:Int)=true:=by rw [q1k ho];exact hg.2.1
 simp [q0N,q93,hn,h1,hg.1]
 omega
theorem qa2 {me P:Int} {f:Fld} {o:Nat} (ho:o < 6) (hg:q2P me P f o=true) (hr:qdL f) {fld:Int} (hf:inn fld 1 99=true):okS (1,fld,(o:Int),f.no o+1)=true:=by
 simp only [q2P,Bool.and_eq_true,decide_eq_true_eq] at hg
 have:=(hr.2 o).1
 simp only [inn,Bool.and_eq_true,decide_eq_true_eq] at hf
 simp [okS,inn,par]
 omega
theorem l25_1 (n:Nat) {e:Brd} (me:Int) (b:Option (List Brd)) (hb:(b.getD []).length≤4611686018427387904) (h66:∀ c∈b.getD [],six c.2) (fs0:List Fld) (hlen:fs0.length=(b.getD []).length) {j:Nat} {f0:Fld} (hx:bix e.1 (b.getD [])=some j) (he:(b.getD []).getD j (0,0)=e) (hf0:fs0[j]?=some f0) (h6:six e.2) (hfl:inn e.1 1 99=true) (ho:f0.opn=false) (hr:qdL f0) (c2 ch z1 z2:D) (ss:List Stk) (hl:ss.length≤60000) :
  q1b [qfR (RP (n+5))] M0 0 [.d (il e.1),.d (il e.2),.d (il 0),.n j,.n 0,.d (il e.1),.d c2,.m (mapM (b.getD []) fs0),.r (ss.map rS),.d (il me),.d (dB b),.n ss.length,.n ss.length,.d ch,.d z1,.d z2] =
   some (0,[.n j,.n 0,.d (il e.1),.d c2,.m (mapM (b.getD []) (fs0.set j (qgl me e (rg 0) f0))),.r ((ss++q9g me e (rg 0) f0).map rS),.d (il me),.d (dB b),.n (ss++q9g me e (rg 0) f0).length,.n (ss++q9g me e (rg 0) f0).length,.d ch,.d z1,.d z2]):=by
 have:=q30 (β:=Fld×List Stk) 6 (by omega) (qfR (RP (n+5))) (fun i g=>[.d (il e.1),.d (il e.2),.d (il i),.n j,.n 0,.d (il e.1),.d c2,.m (mapM (b.getD []) (fs0.set j g.1)),.r (g.2.map rS),.d (il me),.d (dB b),.n g.2.length,.n g.2.length,.d ch,.d z1,.d z2]) (fun i g=>qdL g.1∧g.1.opn=false∧g.2.length≤60000+i)
  (fun i g=>some (0,[.n j,.n 0,.d (il e.1),.d c2,.m (mapM (b.getD []) (fs0.set j (qgl me e (rg i) g.1))),.r ((g.2++q9g me e (rg i) g.1).map rS),.d (il me),.d (dB b),.n (g.2++q9g me e (rg i) g.1).length,.n (g.2++q9g me e (rg i) g.1).length,.d ch,.d z1,.d z2])) ?_ ?_ (f0,ss) ⟨hr,ho,hl⟩
 ·have e0:fs0.set j f0=fs0:=by
   apply List.ext_getElem?
   intro i
   rw [List.getElem?_set]
   split
   ·subst_vars;split<;>simp_all
   ·rfl
  simp only [e0] at this
  exact this
 ·intro g k _
  simp [qfR,rg,qgl,q9g]
 ·rintro i ⟨f,l⟩ k hi ⟨hrf,hof,hll⟩ hw ih
  simp only at hrf hof hll
  have hf:=q2R hf0 f
  have hle3:3*i≤17:=by omega
  have hlt:(i:Int) < 6:=by omega
  simp only [q8N hi,qgl,q9g]
  have hgd:q2P me e.2 f i=(!decide ((i:Int)=me)&&(e.2.toNat.testBit i&&(odd (f.ask i)&&(q0C me i (f.no i)&&(!(q0C me i (f.no i)&&(odd f.wants&&f.af i))&&decide (f.no i < 99999)))))):=by simp only [q2P,q4e,Int.toNat_natCast]
  have ih0:=ih (f,l) ⟨hrf,hof,by simp only;omega⟩
  simp only [q1h] at ih0
  simp only [qfR,q06,q0a,q0p,q0q,q0e,q0g,q0h,q0j,q09,q0u,q0V,decide_true,q04,if_true,q2a,q0i,q02,q0k,q5U hi,q0n,q1i,q1G,q0U,q1P,q0F,Nat.zero_add,Nat.add_zero,q0s hf,q65 f hi,q2U f hi,qf0 f hi,q1s,hlt,s91 _ _ h6,q1k hi,s86,hx,hle3,Nat.reduceAdd,Nat.reduceLeDiff,q7M _ _ _ _ (show (2:Int)≠0 by decide),q0H,q0T,hw]
  by_cases h1:(i:Int)=me
  ·have hg:q2P me e.2 f i=false:=by rw [hgd];simp [h1]
   simp only [h1,hg,ne_eq,not_true,decide_false,Bool.false_eq_true,if_false] at ih0 ⊢
   exact ih0
  ·cases h2:e.2.toNat.testBit i with
   | false =>
    have hg:q2P me e.2 f i=false:=by rw [hgd];simp [h2]
    simp only [h1,hg,ne_eq,not_false_eq_true,decide_true,if_true,Bool.false_eq_true,if_false] at ih0 ⊢
    exact ih0
   | true =>
    by_cases h3:(f.ask i).tmod 2=1
    ·have h3':odd (f.ask i)=true:=by simp [odd,h3]
     cases h4:q0C me i (f.no i) with
     | false =>
      have hg:q2P me e.2 f i=false:=by rw [hgd];simp [h4]
      simp only [h1,h3,hg,ne_eq,not_false_eq_true,decide_true,if_true,Bool.false_eq_true,if_false] at ih0 ⊢
      exact ih0
     | true =>
      by_cases h5:f.wants.tmod 2=1∧f.af i=true
      ·have hg:q2P me e.2 f i=false:=by rw [hgd];simp [h4,odd,h5.1,h5.2]
       simp only [h1,h3,h5.1,h5.2,hg,ne_eq,not_false_eq_true,decide_true,if_true,Bool.not_true,Bool.false_eq_true,if_false,q0t,q06,q0a,q0p,q0q,q0e,q0g,q0h,q0j,decide_true,q04,if_true,q02,q0E] at ih0 ⊢
       exact ih0
      ·have h5':∀ k:Out→Out,(k (if decide (f.wants.tmod 2=1)=true then some (0,[.d (bl (f.af i)),.m (mapM (b.getD []) (fs0.set j f)),.r (l.map rS),.d (il me),.d (dB b),.n l.length,.n l.length,.d ch]) else some (0,[.d (bl false),.m (mapM (b.getD []) (fs0.set j f)),.r (l.map rS),.d (il me),.d (dB b),.n l.length,.n l.length,.d ch])))=k (some (0,[.d (bl false),.m (mapM (b.getD []) (fs0.set j f)),.r (l.map rS),.d (il me),.d (dB b),.n l.length,.n l.length,.d ch])):=by
        intro k
        by_cases q1:f.wants.tmod 2=1
        ·have q2:f.af i=false:=by cases hq:f.af i<;>simp_all
         simp [q2]
        ·simp [q1]
       simp only [h1,h3,ne_eq,not_false_eq_true,decide_true,if_true,q0t]
       rw [h5' (fun o=>(RP (n+5)).bnd o _)]
       simp only [q06,q0a,q0p,q0q,q0e,q0g,q0h,q0j,q04,if_true,q02,q0E,Bool.not_false,if_true]
       by_cases h7:f.no i < 99999
       ·have hg:q2P me e.2 f i=true:=by
         rw [hgd]
         cases q1:odd f.wants<;>cases q2:f.af i<;>simp_all [odd]
        have hwn:IntKind.i64.wrap (f.no i+1)=f.no i+1:=by have:=(hrf.2 i).1;exact q3v (by omega) (by omega)
        have hp:=q5o (me:=me) (bs:=b.getD []) (qa2 hi hg hrf hfl) hx hf (by rw [he];exact qcZ hi hg hof e.1)
        have hc:=q3Z (n+1) b hb h66 [(1,e.1,(i:Int),f.no i+1)] (by simp) (l.map rS) me ch l.length l.length (fs0.set j f) (by rw [q3W];exact hlen)
        rw [hp,List.set_set] at hc
        have ih1:=ih (q93 f i,l++[(1,e.1,(i:Int),f.no i+1)]) ⟨?_,hof,by simp only [List.length_append,List.length_cons,List.length_nil];omega⟩
        ·have hq1:l.length≤9223372036854775806:=by omega
         have hfit:=qjz (a:=l.length) (b:=1) (by omega) (by omega)
         simp only [q1h,List.map_append,List.map_cons,List.map_nil,rS,List.length_append,List.length_cons,List.length_nil,Nat.zero_add,List.append_assoc,List.cons_append,List.nil_append] at hc ih1
         simp only [h7,decide_true,if_true,hwn,q1A,q2N,q4O,mapM,q0o,hc,q06,q0a,decide_true,if_true,q02,Nat.zero_add,q1O,q41,qaK,q0v,List.length_map,List.length_cons,List.length_nil,q0O,q0Q,hfit,and_self,q0I,hg]
         simp only [mapM] at ih1
         rw [ih1]
         simp [rS]
        ·refine ⟨hrf.1,fun q=>⟨?_,(hrf.2 q).2⟩⟩
         simp only [q93,upN]
         have:=hrf.2 i
         split
         ·omega
         ·exact (hrf.2 q).1
       ·have hg:q2P me e.2 f i=false:=by rw [hgd];simp [h7]
        simp only [h7,decide_false,hg,Bool.false_eq_true,if_false] at ih0 ⊢
        exact ih0
    ·have hg:q2P me e.2 f i=false:=by rw [hgd];simp [odd,h3]
     simp only [h1,h3,hg,ne_eq,not_false_eq_true,decide_true,decide_false,if_true,Bool.false_eq_true,if_false] at ih0 ⊢
     exact ih0
end
section
set_option maxRecDepth 100000
def qdl (me:Int):Nat→List Brd→List Fld→List Fld×List Stk
 | _,[],fs=>(fs,[])
 | i,e::r,fs=>if (fs.getD i fd0).opn=true then qdl me (i+1) r fs else
  ((qdl me (i+1) r (fs.set i (qgl me e (rg 0) (fs.getD i fd0)))).1,q9g me e (rg 0) (fs.getD i fd0)++(qdl me (i+1) r (fs.set i (qgl me e (rg 0) (fs.getD i fd0)))).2)
theorem qcC (me:Int) (e:Brd) (f:Fld) (h:f.opn=false):q9g me e (rg 0) f=q5g me e f:=by
 rw [q5g,h,qau (rg 0) f f (List.nodup_range' ..) (fun _ _=>⟨rfl,rfl,rfl⟩) rfl]
 rfl
theorem qav {me:Int} {bs:List Brd} {ss:List Stk}:∀ (r:List Brd) (i:Nat) (fs:List Fld),bs.drop i=r→(∀ k,i≤k→k < bs.length→fs[k]?=some (fl me bs ss k))→(qdl me i r fs).2=r.flatMap fun e=>q5g me e (q0x me e fd0 ss).1
 | [],_,_,_,_=>rfl
 | e::r,i,fs,hd,hf=>by
  have hi:i < bs.length:=by
   rcases Nat.lt_or_ge i bs.length with h | h
   ·exact h
   ·rw [List.drop_eq_nil_of_le h] at hd;cases hd
  rw [List.drop_eq_getElem_cons hi] at hd
  injection hd with h1 h2
  have h3:=hf i (Nat.le_refl _) hi
  have he:fl me bs ss i=(q0x me e fd0 ss).1:=by
   simp only [fl,List.getD_eq_getElem?_getD,List.getElem?_eq_getElem hi,Option.getD_some,h1]
  have hg:fs.getD i fd0=(q0x me e fd0 ss).1:=by rw [q2Q _ h3,he]
  rw [qdl,hg,List.flatMap_cons]
  by_cases ho:(q0x me e fd0 ss).1.opn=true
  ·rw [if_pos ho,qav r (i+1) fs h2 (fun k hk hk2=>hf k (by omega) hk2)]
   simp [q5g,ho]
  ·rw [if_neg ho,qcC _ _ _ (by simpa using ho)]
   refine congrArg _ (qav r (i+1) _ h2 fun k hk hk2=>?_)
   rw [List.getElem?_set_ne (by omega)]
   exact hf k (by omega) hk2
theorem l25_2 (n:Nat) {me h:Int} (b:Option (List Brd)) {ss:List Stk} (h1:okP me (b.getD []) ss h=true) (z1 z2:D) :
  q1b [qfQ (RP (n+5))] M0 0 [.d (dB b),.d (il (b.getD []).length),.d (il 0),.m (mapM (b.getD []) (pg me (b.getD []) ss)),.r (ss.map rS),.d (il me),.d (dB b),.n ss.length,.n ss.length,.d (il h),.d z1,.d z2] =
   some (0,[.m (mapM (b.getD []) (qdl me 0 (b.getD []) (pg me (b.getD []) ss)).1),.r ((ss++q37 me (b.getD []) ss).map rS),.d (il me),.d (dB b),.n (ss++q37 me (b.getD []) ss).length,.n (ss++q37 me (b.getD []) ss).length,.d (il h),.d z1,.d z2]):=by
 have hb4:(b.getD []).length≤4:=by
  simp only [okP,q1T,Bool.and_eq_true,decide_eq_true_eq] at h1
  exact h1.2.1.2
 have hl:=q54 h1
 have hr:=q12 h1
 have h66:=q2O h1
 have:=q0L (β:=List Fld×List Stk) (b.getD []) (by omega) (qfQ (RP (n+5))) (fun i g=>[.d (dB b),.d (il (b.getD []).length),.d (il i),.m (mapM (b.getD []) g.1),.r (g.2.map rS),.d (il me),.d (dB b),.n g.2.length,.n g.2.length,.d (il h),.d z1,.d z2])
  (fun i g=>g.1.length=(b.getD []).length∧(∀ k,i≤k→k < (b.getD []).length→g.1[k]?=some (fl me (b.getD []) ss k))∧g.2.length≤120+6*i)
  (fun i r g=>some (0,[.m (mapM (b.getD []) (qdl me i r g.1).1),.r ((g.2++(qdl me i r g.1).2).map rS),.d (il me),.d (dB b),.n (g.2++(qdl me i r g.1).2).length,.n (g.2++(qdl me i r g.1).2).length,.d (il h),.d z1,.d z2])) ?_ ?_ M0 (pg me (b.getD []) ss,ss) ⟨q6m hr ss,fun k _ hk=>q7O h1 hk,by omega⟩ (q2K (by omega))
 ·simp only [qav (ss:=ss) (b.getD []) 0 (pg me (b.getD []) ss) (by simp) (fun k _ hk=>q7O h1 hk)] at this
  exact this
 ·intro g k _
  simp [qfQ,qdl]
 ·rintro i e r ⟨fs,l⟩ k hi hd hlt hw ⟨hlen,hfs,hll⟩ ih
  simp only at hlen hfs hll
  have hlt':(i:Int) < ((b.getD []).length:Int):=by omega
  have hf:=hfs i (Nat.le_refl _) hlt
  have hx:=qhG hr hi
  have hge:(b.getD []).getD i (0,0)=e:=q2Q _ hi
  have h6:=h66 e (List.mem_of_getElem? hi)
  have hfl:=q4r h1 hx
  have hrng:=q5E h1 i
  have hgf:fs.getD i fd0=fl me (b.getD []) ss i:=q2Q _ hf
  generalize fl me (b.getD []) ss i=f at hf hrng hgf
  simp only [qdl,hgf]
  simp only [qfQ,q06,q0a,q0p,q0q,q0e,q0g,q0h,q0j,q09,q0V,decide_true,q04,if_true,q0k,q0n,q1G,q0U,q1P,q0F,Nat.zero_add,Nat.add_zero,hlt',q6y hi,cB0,cB1,hx,q0s hf,Nat.reduceAdd,Nat.reduceLeDiff,q1W,q0T,hw]
  cases ho:f.opn with
  | true =>
   have ih0:=ih (fs,l) ⟨hlen,fun k hk hk2=>hfs k (by omega) hk2,by simp only;omega⟩
   simp only [q1h] at ih0
   simp only [if_true]
   exact ih0
  | false =>
   have h25:=l25_1 n me b (by omega) h66 fs hlen hx hge hf h6 hfl ho hrng (il e.2) (il h) z1 z2 l (by omega)
   have ih1:=ih (fs.set i (qgl me e (rg 0) f),l++q9g me e (rg 0) f) ⟨by rw [q3W];exact hlen,fun k hk hk2=>by
    simp only
    rw [List.getElem?_set_ne (by omega)]
    exact hfs k (by omega) hk2,by
    have:=q8I me e (rg 0) f
    have h6':(rg 0).length=6:=rfl
    simp only [List.length_append]
    omega⟩
   simp only [q1h,List.append_assoc] at ih1
   simp only [Bool.false_eq_true,if_false,q10]
   rw [h25]
   simp only [q06,q0a,q0p,q0q,q0e,q0g,q0h,q0j,q02]
   exact ih1
theorem s25 (n:Nat) (me h:Int) (b:Option (List Brd)) (o:Option (List Stk)) (hl:(o.getD []).length≤4611686018427387904) (hb:(b.getD []).length≤4611686018427387904) :
  FN (n+6) 25 [il me,dB b,dS o,il h]=if okP me (b.getD []) (o.getD []) h=true then q6q me h b (o.getD []) (0,q37 me (b.getD []) (o.getD [])) else noW 92:=by
 rw [FS,G25_eq]
 have hop:qek (RP (n+5)) (il me) (dB b) (dS o) (il h)=_:=op25 (n+1) me h b o hl hb
 unfold G25
 rw [eL25]
 refine q4D hop ?_
 by_cases h1:okP me (b.getD []) (o.getD []) h=true
 ·have h25:=l25_2 n b h1 (il 0) (il 0)
  simp only [h1,if_true,q1C,q06,q0a,q0p,q0q,q0e,q0g,q0h,q0j,q09,q04,if_true,q2a,ne_eq,not_true,decide_false,Bool.false_eq_true,if_false,q5c,q10]
  rw [h25]
  have hN:((120:Int) < (((o.getD []++q37 me (b.getD []) (o.getD [])).length:Nat):Int))↔120 < (o.getD []).length+(q37 me (b.getD []) (o.getD [])).length:=by rw [List.length_append];omega
  have htk:((o.getD []++q37 me (b.getD []) (o.getD [])).map rS).take (o.getD []++q37 me (b.getD []) (o.getD [])).length=(o.getD []++q37 me (b.getD []) (o.getD [])).map rS:=List.take_of_length_le (by rw [List.length_map];exact Nat.le_refl _)
  simp only [q06,q0a,q0e,q0g,q0h,q0j,q04,if_true,q02,q2s,q1A,hN,decide_eq_true_eq,q0v,List.length_map,q0O,q0t,q0K,q2N,htk,q6q]
  by_cases g:120 < (o.getD []).length+(q37 me (b.getD []) (o.getD [])).length
  ·simp [g,noW,q4L]
  ·simp [g,q58]
 ·simp [h1,noW,q4L]
end
section
set_option maxRecDepth 100000
theorem q8W {α:Type} {ok:α→Bool} {src:α→Int}:∀ {l:List α} {p:Option Int},okL ok src p l=true→l.Pairwise fun a b=>src a < src b
 | [],_,_=>.nil
 | b::r,p,h=>by
  simp only [okL,Bool.and_eq_true] at h
  refine .cons (fun c hc=>?_) (q8W h.2.2)
  simpa [ltO] using (q5X h.2.2 c hc).2
def q4b (a:Int) (t:Tld) (f:Fld):Fld:=if f.ask a.toNat < t.2.2 then { f with ask:=upN f.ask a.toNat t.2.2 } else f
def qh9 (me a:Int) (t:Tld) (f:Fld):Fld:=if f.no a.toNat < t.2.1∧q0C me a t.2.1=true∧f.opn=false then { q4b a t f with no:=upN f.no a.toNat t.2.1,af:=upN f.af a.toNat true } else q4b a t f
def hrB (me a:Int) (bs:List Brd):List Tld→List Fld→List Fld×List Stk
 | [],fs=>(fs,[])
 | t::r,fs=>match bix t.1 bs with
  | none=>hrB me a bs r fs
  | some j=>if q3h (bs.getD j (0,0)).2 a=true then ((hrB me a bs r (fs.set j (qh9 me a t (fs.getD j fd0)))).1,qa0 me a t (fs.getD j fd0)++(hrB me a bs r (fs.set j (qh9 me a t (fs.getD j fd0)))).2) else hrB me a bs r fs
theorem qiy {bs:List Brd} {x y:Int} {i j:Nat} (hx:bix x bs=some i) (hy:bix y bs=some j) (h:x≠y):i≠j:=by
 rintro rfl
 exact h ((q2k hx).2.symm.trans (q2k hy).2)
theorem qc3 {me a:Int} {bs:List Brd} {ss:List Stk}:∀ (l:List Tld) (fs:List Fld),(l.Pairwise fun a b=>a.1 < b.1)→(∀ t∈l,∀ j,bix t.1 bs=some j→fs[j]?=some (fl me bs ss j))→(hrB me a bs l fs).2=q6v me a bs ss l
 | [],_,_,_=>rfl
 | t::r,fs,hp,hf=>by
  obtain ⟨h1,h2⟩:=List.pairwise_cons.1 hp
  have h0:=hf t List.mem_cons_self
  have hr:=fun q (hq:q∈r)=>hf q (List.mem_cons_of_mem _ hq)
  rw [hrB,q6v,List.flatMap_cons,qeT]
  cases hx:bix t.1 bs with
  | none=>exact qc3 r fs h2 hr
  | some j =>
   have hj:=h0 j hx
   have hg:fs.getD j fd0=fl me bs ss j:=q2Q _ hj
   simp only
   by_cases hh:q3h (bs.getD j (0,0)).2 a=true
   ·rw [if_pos hh,if_pos hh,hg]
    refine congrArg _ (qc3 r _ h2 fun q hq i hi=>?_)
    have hlt:=h1 q hq
    rw [List.getElem?_set_ne (qiy hx hi (by omega))]
    exact hr q hq i hi
   ·rw [if_neg hh,if_neg hh]
    exact qc3 r fs h2 hr
theorem q8i {me P a:Int} {f:Fld} {t:Tld} (hne:a≠me) (hP:q3h P a=true) (hw:f.ask a.toNat < t.2.2) (fld:Int):q0N me P f (3,fld,a,t.2.2)=some { f with ask:=upN f.ask a.toNat t.2.2 }:=by
 simp [q0N,hne,hP]
 omega
theorem q62 {me P a:Int} {f:Fld} {x:Int} (hne:a≠me) (hP:q3h P a=true) (hw:f.no a.toNat < x) (ho:f.opn=false) (fld:Int):q0N me P f (1,fld,a,x)=some { f with no:=upN f.no a.toNat x,af:=upN f.af a.toNat true }:=by
 simp [q0N,hne,hP,ho]
 omega
theorem q6G {k fld a x:Int} (hk:k=1∨k=3) (hf:inn fld 1 99=true) (hp:par a=true) (h1:1≤x) (h2:x≤99999):okS (k,fld,a,x)=true:=by
 simp only [okS,hf,hp,hk,if_true,Bool.true_and]
 simp only [inn,Bool.and_eq_true,decide_eq_true_eq]
 exact ⟨h1,h2⟩
theorem qgn {fs:List Fld} {j:Nat} {f:Fld} (h:fs[j]?=some f):fs.set j f=fs:=by
 apply List.ext_getElem?
 intro i
 rw [List.getElem?_set]
 split
 ·subst_vars;split<;>simp_all
 ·rfl
theorem qcT (a:Int) (t:Tld) (f:Fld):(q4b a t f).no=f.no∧(q4b a t f).af=f.af∧(q4b a t f).opn=f.opn:=by
 unfold q4b;split<;>exact ⟨rfl,rfl,rfl⟩
theorem l27 (n:Nat) {me h a to:Int} (b:Option (List Brd)) {ss:List Stk} (h1:okP me (b.getD []) ss h=true) (o:Option (List Tld)) (hpl:qcL a to (o.getD [])=true) (hto:to=me) (z1 z2:D) :
  q1b [qfP (RP (n+5))] M0 0 [.d (il a),.d (il to),.d (dT o),.d (dT o),.d (il (o.getD []).length),.d (il 0),.m (mapM (b.getD []) (pg me (b.getD []) ss)),.r (ss.map rS),.d (il me),.d (dB b),.n ss.length,.n ss.length,.d (il h),.d z1,.d z2] =
   some (0,[.m (mapM (b.getD []) (hrB me a (b.getD []) (o.getD []) (pg me (b.getD []) ss)).1),.r ((ss++q6v me a (b.getD []) ss (o.getD [])).map rS),.d (il me),.d (dB b),.n (ss++q6v me a (b.getD []) ss (o.getD [])).length,.n (ss++q6v me a (b.getD []) ss (o.getD [])).length,.d (il h),.d z1,.d z2]):=by
 have hb4:(b.getD []).length≤4:=by
  simp only [okP,q1T,Bool.and_eq_true,decide_eq_true_eq] at h1
  exact h1.2.1.2
 have hl:=q54 h1
 have hr:=q12 h1
 have h66:=q2O h1
 simp only [qcL,Bool.and_eq_true,decide_eq_true_eq,Bool.not_eq_true',decide_eq_false_iff_not] at hpl
 obtain ⟨hpa,-,hne,hl4,hpl⟩:=hpl
 have hne':a≠me:=hto ▸ hne
 have hlt:=q4q hpa
 have hpair:=q8W hpl
 have:=q0L (β:=List Fld×List Stk) (o.getD []) (by omega) (qfP (RP (n+5))) (fun i g=>[.d (il a),.d (il to),.d (dT o),.d (dT o),.d (il (o.getD []).length),.d (il i),.m (mapM (b.getD []) g.1),.r (g.2.map rS),.d (il me),.d (dB b),.n g.2.length,.n g.2.length,.d (il h),.d z1,.d z2])
  (fun i g=>g.1.length=(b.getD []).length∧(∀ t∈(o.getD []).drop i,∀ j,bix t.1 (b.getD [])=some j→g.1[j]?=some (fl me (b.getD []) ss j))∧g.2.length≤120+2*i)
  (fun _ r g=>some (0,[.m (mapM (b.getD []) (hrB me a (b.getD []) r g.1).1),.r ((g.2++(hrB me a (b.getD []) r g.1).2).map rS),.d (il me),.d (dB b),.n (g.2++(hrB me a (b.getD []) r g.1).2).length,.n (g.2++(hrB me a (b.getD []) r g.1).2).length,.d (il h),.d z1,.d z2])) ?_ ?_ M0 (pg me (b.getD []) ss,ss) ⟨q6m hr ss,fun t _ j hj=>q7O h1 (q2k hj).1,by omega⟩ (q2K (by omega))
 ·simp only [qc3 (ss:=ss) (o.getD []) (pg me (b.getD []) ss) hpair (fun t _ j hj=>q7O h1 (q2k hj).1)] at this
  exact this
 ·intro g k _
  simp [qfP,hrB]
 ·rintro i t r ⟨fs,l⟩ k hi hd hlti hw ⟨hlen,hfs,hll⟩ ih
  simp only at hlen hfs hll
  have hlt':(i:Int) < ((o.getD []).length:Int):=by omega
  have hdr:(o.getD []).drop (i+1)=r:=by
   have:=List.drop_eq_getElem_cons hlti
   rw [hd] at this
   exact (List.cons.inj this).2.symm
  have hpr:∀ q∈r,t.1 < q.1:=by
   have hp2:=List.Pairwise.drop (i:=i) hpair
   rw [hd] at hp2
   exact (List.pairwise_cons.1 hp2).1
  have htd:=(q5X hpl t (List.mem_of_getElem? hi)).1
  simp only [qbU,inn,Bool.and_eq_true,decide_eq_true_eq] at htd
  have hfs':∀ q∈(o.getD []).drop (i+1),∀ j,bix q.1 (b.getD [])=some j→fs[j]?=some (fl me (b.getD []) ss j):=fun q hq=>by
   rw [hdr] at hq
   exact hfs q (by rw [hd];exact List.mem_cons_of_mem _ hq)
  have ih0:=ih (fs,l) ⟨hlen,hfs',by simp only;omega⟩
  simp only [q1h] at ih0
  rw [hrB]
  simp only [qfP,q06,q0a,q0p,q0q,q0e,q0g,q0h,q0j,q09,q0V,decide_true,q04,if_true,q0i,q02,q0k,q0n,q1i,q1G,q0U,q1P,q0F,Nat.zero_add,Nat.add_zero,hlt',rowT hi,cT0,cT1,cT2,q1B,qby _ _ (show (b.getD []).length≤4611686018427387904 by omega),q3d,decide_eq_true_eq,q0T,hw]
  cases hx:bix t.1 (b.getD []) with
  | none=>simpa using ih0
  | some j =>
   obtain ⟨e,he,hfld,hg,hj⟩:=q4C hx
   have h6:=h66 e (List.mem_of_getElem? he)
   have hfl:=q4r h1 hx
   have hrng:=q5E h1 j
   have hf:=hfs t (by rw [hd];exact List.mem_cons_self) j hx
   have hgf:fs.getD j fd0=fl me (b.getD []) ss j:=q2Q _ hf
   have hfs2:∀ g:Fld,∀ q∈(o.getD []).drop (i+1),∀ j',bix q.1 (b.getD [])=some j'→(fs.set j g)[j']?=some (fl me (b.getD []) ss j'):=fun g q hq j' hj'=>by
    have hq':=hq
    rw [hdr] at hq'
    have hlt:=hpr q hq'
    rw [List.getElem?_set_ne (qiy hx hj' (by omega))]
    exact hfs' q hq j' hj'
   generalize fl me (b.getD []) ss j=f at hf hrng hgf
   simp only [reduceCtorEq,if_false,q9X hx,q6y he,cB0,cB1,q06,q04,q02,q0E,s91 _ _ h6,hg,hgf]
   cases hh:q3h e.2 a with
   | false=>simpa using ih0
   | true =>
    have hle0:3*a.toNat≤19:=by omega
    have hle2:3*a.toNat≤17:=by omega
    have hq1:l.length≤9223372036854775806:=by omega
    have hfit:=qjz (a:=l.length) (b:=1) (by omega) (by omega)
    simp only [Bool.not_true,Bool.false_eq_true,if_false,if_true,q9D hpa,q0s hf,q2s,q65 f hlt,q04,if_true,Nat.reduceLeDiff,hle2]
    have hc0:=q3Z (n+1) b (by omega) h66 [(3,t.1,a,t.2.2)] (by simp) (l.map rS) me (il h) l.length l.length fs hlen
    refine q4D (X':=some (0,[.d (il a),.d (il to),.d (dT o),.n j,.n 0,.d (dT o),.d (il (o.getD []).length),.d (il i),.r ((l++(if f.ask a.toNat < t.2.2 then [(3,t.1,a,t.2.2)] else [])).map rS),.m (mapM (b.getD []) (fs.set j (q4b a t f))),.d (il t.1),.d (il t.2.1),.d (il t.2.2),.d (il me),.d (dB b),.n (l++(if f.ask a.toNat < t.2.2 then [(3,t.1,a,t.2.2)] else [])).length,.n (l++(if f.ask a.toNat < t.2.2 then [(3,t.1,a,t.2.2)] else [])).length,.d (il h),.d z1,.d z2])) ?_ ?_
    ·by_cases w1:f.ask a.toNat < t.2.2
     ·have hp:=q5o (me:=me) (bs:=b.getD []) (q6G (x:=t.2.2) (.inr rfl) hfl hpa (by have:=(hrng.2 a.toNat).2;omega) (by omega)) hx hf (by rw [hg];exact q8i hne' hh w1 t.1)
      rw [hp] at hc0
      simp only [List.map_cons,List.map_nil,rS] at hc0
      simp only [w1,decide_true,if_true,mapM,q1A,q2N,q4O,mapM,q0o,q1O,q41,qaK,q0v,List.length_map,List.length_cons,List.length_nil,q0O,q0Q,and_self,q0I,q0t,hc0,q06,q0a,decide_true,if_true,q02,Nat.zero_add,hfit,q4b]
      simp [rS]
     ·simp only [w1,decide_false,Bool.false_eq_true,if_false,q4b,qgn hf,List.append_nil,q0t]
    ·generalize hl1:l++(if f.ask a.toNat < t.2.2 then [(3,t.1,a,t.2.2)] else [])=l1
     have hll1:l1.length≤l.length+1:=by rw [←hl1];split<;>simp
     obtain ⟨g1,g2,g3⟩:=qcT a t f
     have hF:qa0 me a t f=(if f.ask a.toNat < t.2.2 then [(3,t.1,a,t.2.2)] else [])++(if f.no a.toNat < t.2.1∧q0C me a t.2.1=true∧f.opn=false then [(1,t.1,a,t.2.1)] else []):=rfl
     have hG:qh9 me a t f=if f.no a.toNat < t.2.1∧q0C me a t.2.1=true∧f.opn=false then { q4b a t f with no:=upN f.no a.toNat t.2.1,af:=upN f.af a.toNat true } else q4b a t f:=rfl
     generalize q4b a t f=f1 at g1 g2 g3 hG ⊢
     have hf1:=q2R hf f1
     have ihn:=fun hc=>ih (fs.set j f1,l1) ⟨by rw [q3W];exact hlen,hfs2 f1,hc⟩
     have ih1:=ihn (by simp only;omega)
     simp only [q1h] at ih1
     simp only [q06,q0a,q0p,q0q,q0e,q0g,q0h,q0j,q04,if_true,q02,q0E,q0U,Nat.zero_add,q9D hpa,q0s hf1,q2U _ hlt,q1W,q2s,g1,g3,hle0,Nat.le_refl,s86]
     by_cases c1:f.no a.toNat < t.2.1
     ·cases c2:q0C me a t.2.1 with
      | false =>
       have hn:¬ (f.no a.toNat < t.2.1∧q0C me a t.2.1=true∧f.opn=false):=by simp [c2]
       rw [if_neg hn] at hF hG
       rw [hF,hG,List.append_nil,← List.append_assoc,hl1]
       simp only [c1,decide_true,if_true,Bool.false_eq_true,if_false,q0T,hw]
       exact ih1
      | true =>
       cases c3:f.opn with
       | true =>
        have hn:¬ (f.no a.toNat < t.2.1∧q0C me a t.2.1=true∧f.opn=false):=by simp [c3]
        rw [if_neg hn] at hF hG
        rw [hF,hG,List.append_nil,← List.append_assoc,hl1]
        simp only [c1,decide_true,if_true,Bool.not_true,Bool.false_eq_true,if_false,q0T,hw]
        exact ih1
       | false =>
        have hy:(f.no a.toNat < t.2.1∧q0C me a t.2.1=true∧f.opn=false):=⟨c1,c2,c3⟩
        rw [if_pos hy] at hF hG
        have hp:=q5o (me:=me) (bs:=b.getD []) (q6G (x:=t.2.1) (.inl rfl) hfl hpa (by have:=(hrng.2 a.toNat).1;omega) (by omega)) hx hf1 (by rw [hg];exact q62 hne' hh (by rw [g1];exact c1) (by rw [g3];exact c3) t.1)
        have hc1:=q3Z (n+1) b (by omega) h66 [(1,t.1,a,t.2.1)] (by simp) (l1.map rS) me (il h) l1.length l1.length (fs.set j f1) (by rw [q3W];exact hlen)
        rw [hp,List.set_set,g1,g2,← hG] at hc1
        have hq2:l1.length≤9223372036854775806:=by omega
        have hfit1:=qjz (a:=l1.length) (b:=1) (by omega) (by omega)
        have ih2:=ih (fs.set j (qh9 me a t f),l1++[(1,t.1,a,t.2.1)]) ⟨by rw [q3W];exact hlen,hfs2 _,by simp only [List.length_append,List.length_cons,List.length_nil];omega⟩
        simp only [q1h,List.map_append,List.map_cons,List.map_nil,rS,List.length_append,List.length_cons,List.length_nil,Nat.zero_add,mapM] at hc1 ih2
        rw [hF,← List.append_assoc,← List.append_assoc,hl1]
        simp only [c1,decide_true,if_true,Bool.not_false,mapM,q1A,q2N,q4O,mapM,q0o,q1O,q41,qaK,q0v,List.length_map,List.length_cons,List.length_nil,q0O,q0Q,and_self,q0I,hc1,q06,q0a,decide_true,if_true,q02,Nat.zero_add,hfit1,q0T,hw]
        rw [ih2]
        simp [rS]
        omega
     ·have hn:¬ (f.no a.toNat < t.2.1∧q0C me a t.2.1=true∧f.opn=false):=fun hh=>c1 hh.1
      rw [if_neg hn] at hF hG
      rw [hF,hG,List.append_nil,← List.append_assoc,hl1]
      simp only [c1,decide_false,Bool.false_eq_true,if_false,q0T,hw]
      exact ih1
theorem s27 (n:Nat) (me h a to:Int) (b:Option (List Brd)) (o:Option (List Stk)) (t:Option (List Tld)) (hl:(o.getD []).length≤4611686018427387904) (hb:(b.getD []).length≤4611686018427387904) (ht:(t.getD []).length≤4611686018427387904) :
  FN (n+6) 27 [il me,dB b,dS o,il h,il a,il to,dT t]=if okP me (b.getD []) (o.getD []) h=true then (if qcL a to (t.getD [])=true∧to=me then q6q me h b (o.getD []) (0,q6v me a (b.getD []) (o.getD []) (t.getD [])) else noW 93) else noW 92:=by
 rw [FS,G27_eq]
 have hop:qj8 (RP (n+5)) (il me) (dB b) (dS o) (il h) (il a) (il to) (dT t)=_:=op27 (n+1) me h b o (il a) (il to) (dT t) hl hb
 unfold G27
 rw [eL27]
 refine q4D hop ?_
 have hln:∀ k:D→Out,(RP (n+5)).lenD (dT t) k=k (il (t.getD []).length):=fun k=>q5c _ _ _ k
 by_cases h1:okP me (b.getD []) (o.getD []) h=true
 ·by_cases h2:qcL a to (t.getD [])=true
  ·by_cases h3:to=me
   ·have h27:=l27 n b h1 t h2 h3 (il 0) (il 0)
    simp only [h1,h2,if_true,q1C,q06,q0a,q0p,q0q,q0e,q0g,q0h,q0j,q09,q04,if_true,q2a,q0i,q02,s16 _ _ _ _ ht,ne_eq,not_true,decide_false,Bool.false_eq_true,if_false,hln,q10]
    simp only [h3,not_true,decide_false,Bool.false_eq_true,if_false,and_self,if_true]
    rw [h3] at h27
    rw [h27]
    generalize q6v me a (b.getD []) (o.getD []) (t.getD [])=w
    have hN:((120:Int) < (((o.getD []++w).length:Nat):Int))↔120 < (o.getD []).length+w.length:=by rw [List.length_append];omega
    have htk:((o.getD []++w).map rS).take (o.getD []++w).length=(o.getD []++w).map rS:=List.take_of_length_le (by rw [List.length_map];exact Nat.le_refl _)
    simp only [q06,q0a,q0e,q0g,q0h,q0j,q04,if_true,q02,q2s,q1A,hN,decide_eq_true_eq,q0v,List.length_map,q0O,q0t,q0K,q2N,htk,q6q]
    by_cases g:120 < (o.getD []).length+w.length
    ·simp [g,noW,q4L]
    ·simp [g,q58]
   ·simp only [h1,h2,if_true,q1C,q06,q0a,q0p,q0q,q0e,q0g,q0h,q0j,q09,q04,if_true,q2a,q0i,q02,s16 _ _ _ _ ht]
    simp [h3,noW,q4L]
  ·simp only [h1,h2,if_true,q1C,q06,q0a,q0p,q0q,q0e,q0g,q0h,q0j,q09,q04,if_true,q2a,q0i,q02,s16 _ _ _ _ ht]
   simp [noW,q4L]
 ·simp [h1,noW,q4L]
end
section
set_option maxRecDepth 100000
theorem fitB {a b c:Nat} (ha:a≤120000) (hb:b≤120000) (hc:c≤32):(a+b)*c≤140737488355328∧a+b≤9223372036854775807:=by
 have:(a+b)*c≤240000*32:=Nat.mul_le_mul (by omega) hc
 omega
theorem q8b {me h:Int} {bs:List Brd} {ss:List Stk} (h1:okP me bs ss h=true):bs.length≤4:=by
 simp only [okP,q1T,Bool.and_eq_true,decide_eq_true_eq] at h1
 exact h1.2.1.2
end
section
set_option maxRecDepth 100000
end
section
set_option maxRecDepth 100000
end
section
set_option maxRecDepth 100000
section
variable {Fn:Nat→List D→Out} {FnD:D→List Sh→List D→Out} {m:Nat}
end
end
section
set_option maxRecDepth 100000
end
end Go.VE
