/- Bell: reading strokes, as the program does. -/
import Derived.Test.YtaagapoglhndjaaDoorMg0
set_option maxRecDepth 20000
namespace Go.VE
open Go.RowKit Go.Proofs
section
def enL (N:Nat) (bs:List Brd) (r:Rr) (c1 c2 c5:D) (c3 c4:Nat) (i:Nat) (fs:List Fld):List Yr:=[.n N,.n N,.d (il N),.d (il i),.m (mapM bs fs),.r r,.d c1,.d c2,.n c3,.n c4,.d c5]
def q4i (bs:List Brd) (r:Rr) (c1 c2 c5:D) (c3 c4:Nat) (q:List Fld×Bool):Out:=if q.2=true then some (1,[.m (mapM bs q.1),.r r,.d c1,.d c2,.n c3,.n c4,.d c5]) else some (0,[.d (bl false),.m (mapM bs q.1),.r r,.d c1,.d c2,.n c3,.n c4,.d c5])
theorem q3W (fs:List Fld) (j:Nat) (g:Fld):(fs.set j g).length=fs.length:=List.length_set ..
section
variable {Fn:Nat→List D→Out} {FnD:D→List Sh→List D→Out} {m:Nat}
theorem qe2 {l:List Stk} {i:Nat} {s:Stk} (h:l[i]?=some s) (k:List D→Out):(q01 Fn FnD m).rowAt 4 (l.map rS) i k=k (rS s):=by
 rw [q3n,List.getElem?_map,h];rfl
theorem q1B (f:Int):(q01 Fn FnD m).fnD 113 [(q01 Fn FnD m).dpD [il f] 0]=.fn 113 [.dp [il f] 0]:=rfl
end
theorem l95 (n:Nat) (b:Option (List Brd)) (hb:(b.getD []).length≤4611686018427387904) (h6:∀ c∈b.getD [],six c.2) (l:List Stk) (hl:l.length≤4611686018427387904) (me:Int) (c5:D) (c3 c4:Nat) (fs:List Fld) (hf:fs.length=(b.getD []).length) :
  q1b [q2x (RP (n+3))] M0 0 (enL l.length (b.getD []) (l.map rS) (il me) (dB b) c5 c3 c4 0 fs)=q4i (b.getD []) (l.map rS) (il me) (dB b) c5 c3 c4 (q19 me (b.getD []) fs l):=by
 have:=q0L (β:=List Fld) l hl (q2x (RP (n+3))) (fun i fs=>enL l.length (b.getD []) (l.map rS) (il me) (dB b) c5 c3 c4 i fs) (fun _ fs=>fs.length=(b.getD []).length)
  (fun _ r fs=>q4i (b.getD []) (l.map rS) (il me) (dB b) c5 c3 c4 (q19 me (b.getD []) fs r)) ?_ ?_ M0 fs hf (q2K hl)
 ·exact this
 ·intro fs k _
  simp [q2x,enL,q4i,q19]
 ·intro i s r fs k hi hd hlt hw hfs ih
  have hlt':(i:Int) < (l.length:Int):=by omega
  have hin:0≤(i:Int)∧(i:Int) < (l.length:Nat):=by omega
  rw [q19]
  by_cases hs:okS s=true
  ·rw [if_pos hs]
   cases hx:bix s.2.1 (b.getD []) with
   | none =>
    have hneg:ixI s.2.1 (b.getD []) < 0:=q3d.2 hx
    simp only [enL,q2x,q06,q0a,q0p,q0q,q0e,q0g,q0h,q0j,q0V,hlt',decide_true,q04,if_true,q0v,List.length_map,q0O,q1K,hin,and_self,Int.toNat_natCast,qe2 hi,cS0,cS1,cS2,cS3,q0i,qgr,q02,hs,q0E,Bool.not_true,Bool.false_eq_true,if_false,q1B,qby _ _ hb,q09,hneg,q0u,q0t,q0H,q5m,q4i]
    simp
   | some j =>
    obtain ⟨hj1,hj2⟩:=q2k hx
    have hnn:¬ (ixI s.2.1 (b.getD []) < 0):=by rw [q3d,hx];simp
    have hix:ixI s.2.1 (b.getD [])=(j:Int):=by simp [ixI,hx]
    obtain ⟨e,he⟩:∃ e,(b.getD [])[j]?=some e:=⟨_,List.getElem?_eq_getElem hj1⟩
    have hP:six e.2:=h6 e (List.mem_of_getElem? he)
    have hge:(b.getD []).getD j (0,0)=e:=by simp [List.getD_eq_getElem?_getD,he]
    obtain ⟨f,hf⟩:∃ f,fs[j]?=some f:=⟨_,List.getElem?_eq_getElem (by omega)⟩
    have hgf:fs.getD j fd0=f:=by simp [List.getD_eq_getElem?_getD,hf]
    simp only
    rw [hge,hgf]
    have ihs:∀ g,k 0 (enL l.length (b.getD []) (l.map rS) (il me) (dB b) c5 c3 c4 (i+1) (fs.set j g))=q4i (b.getD []) (l.map rS) (il me) (dB b) c5 c3 c4 (q19 me (b.getD []) (fs.set j g) r):=fun g=>ih _ (by rw [q3W];exact hfs)
    simp only [enL,q1h] at ihs
    simp only [enL,q2x,q06,q0a,q0p,q0q,q0e,q0g,q0h,q0j,q0V,hlt',decide_true,q04,if_true,q0v,List.length_map,q0O,q1K,hin,and_self,Int.toNat_natCast,qe2 hi,cS0,cS1,cS2,cS3,q0i,qgr,q02,hs,q0E,Bool.not_true,Bool.false_eq_true,if_false,q1B,qby _ _ hb,q09,hnn,decide_false,q0u,q0t]
    rw [hix,q6y he]
    simp only [cB0,cB1,q02,q06,q0a,q0p,q0q,q0e,q0g,q0h,q0j]
    rcases q8U hs with ⟨h1,ho⟩ | h1 | ⟨h1,ho⟩ | h1
    ·have hp:=q4q ho
     have hq:0≤s.2.2.1∧s.2.2.1 < (6:Nat):=by have:=q16.1 ho;omega
     have k1:3*s.2.2.1.toNat+1≤20:=by omega
     have k2:3*s.2.2.1.toNat+1+1≤20:=by omega
     unfold q0N
     simp only [h1,q0H,decide_true,if_true,q02,q06,q0a,q0p,q0q,q0e,q0g,q0h,q0j,q0E,q04,Bool.not_true,Bool.false_eq_true,if_false,s91 _ _ hP,mapM,q0k,q1K,hq,and_self,q11,q0s hf,q0n,q1i,q1G,q0F,Nat.zero_add,Nat.add_zero,q1W,q2U f hp,q70,qaJ,q2E,hx,q2b,q29,qdI hf hp,q0s (q2R hf _),q9p (q2R hf _) hp,List.set_set,q0T,hw,k1,k2,show 19+1≤20 by decide,decide_eq_true_eq]
     by_cases g1:s.2.2.1=me
     ·simp [g1,q4i,mapM]
     ·by_cases g2:q3h e.2 s.2.2.1=true
      ·by_cases g3:f.opn=true
       ·simp [g1,g2,g3,q4i,mapM]
       ·by_cases g4:s.2.2.2≤f.no s.2.2.1.toNat
        ·simp [g1,g2,g3,g4,q4i,mapM]
        ·have ih':=ihs { f with no:=upN f.no s.2.2.1.toNat s.2.2.2,af:=upN f.af s.2.2.1.toNat true }
         have g3':f.opn=false:=by simpa using g3
         simp only [mapM,g3'] at ih'
         simp only [g1,g2,g3',g4,if_false,q02,q06,q0a,q0p,q0q,q0e,q0g,q0h,q0j,q0E,q04,Bool.not_true,Bool.false_eq_true,decide_false,Bool.or_false]
         exact ih'
      ·simp [g1,g2,q4i,mapM]
    ·unfold q0N
     simp only [h1,q0H,show ¬ ((2:Int)=1) by decide,show ¬ ((2:Int)=3) by decide,decide_false,if_true,q02,q06,q0a,q0p,q0q,q0e,q0g,q0h,q0j,q0E,q04,Bool.not_true,Bool.false_eq_true,if_false,mapM,q0k,q11,q0s hf,q0n,q1i,q1G,q0F,Nat.zero_add,Nat.add_zero,q1s,q70,qaI,q2E,hx,q2b,q29,q6Q hf,q10,e95_3,q0T,hw,show 18+1≤20 by decide,decide_eq_true_eq]
     by_cases g1:s.2.2.2≤f.wants
     ·simp [g1,q4i,mapM]
     ·have ih':=ihs { f with wants:=s.2.2.2,af:=fun _=>false }
      have h0:=l95_0 (n+3) (b.getD []) (fs.set j { f with wants:=s.2.2.2 }) (q2R hf _) (il me) (dB b) c5 c3 c4 (l.map rS)
      simp only [mapM,List.set_set] at ih' h0
      simp only [g1,if_false,h0,q02,q06,q0a,q0p,q0q,q0e,q0g,q0h,q0j]
      exact ih'
    ·have hp:=q4q ho
     have hq:0≤s.2.2.1∧s.2.2.1 < (6:Nat):=by have:=q16.1 ho;omega
     have k2:3*s.2.2.1.toNat+2+1≤20:=by omega
     unfold q0N
     simp only [h1,q0H,show ¬ ((3:Int)=1) by decide,show ¬ ((3:Int)=2) by decide,decide_true,decide_false,if_true,q02,q06,q0a,q0p,q0q,q0e,q0g,q0h,q0j,q0E,q04,Bool.not_true,Bool.false_eq_true,if_false,s91 _ _ hP,mapM,q0k,q1K,hq,and_self,q11,q0s hf,q0n,q1i,q1G,q0F,Nat.zero_add,Nat.add_zero,q65 f hp,q70,qaH,q2E,hx,q2b,q29,qaw hf hp,q0T,hw,k2,decide_eq_true_eq]
     by_cases g1:s.2.2.1=me
     ·simp [g1,q4i,mapM]
     ·by_cases g2:q3h e.2 s.2.2.1=true
      ·by_cases g4:s.2.2.2≤f.ask s.2.2.1.toNat
       ·simp [g1,g2,g4,q4i,mapM]
       ·have ih':=ihs { f with ask:=upN f.ask s.2.2.1.toNat s.2.2.2 }
        simp only [mapM] at ih'
        simp only [g1,g2,g4,if_false,q02,q06,q0a,q0p,q0q,q0e,q0g,q0h,q0j,Bool.not_true,Bool.false_eq_true,decide_false,Bool.or_false]
        exact ih'
      ·simp [g1,g2,q4i,mapM]
    ·unfold q0N
     have he1:e.1=s.2.1:=by rw [←hge];exact hj2
     have hj0:¬ ((j:Int) < 0):=by omega
     simp only [h1,q0H,show ¬ ((4:Int)=1) by decide,show ¬ ((4:Int)=2) by decide,show ¬ ((4:Int)=3) by decide,decide_false,if_true,q02,q06,q0a,q0p,q0q,q0e,q0g,q0h,q0j,q0E,q04,Bool.not_true,Bool.false_eq_true,if_false,mapM,q0k,qaG,q2E,hx,q1B,qby _ _ hb,hix,hj0,q6y he,cB0,cB1,q0V,q11,q0s hf,q0n,q1i,q1G,q0F,Nat.zero_add,Nat.add_zero,q1W,q4p,q2b,q29,q10,e95_4,e95_5,q0T,hw,show 19+1≤20 by decide,he1,decide_eq_true_eq]
     by_cases g1:s.2.2.2=1
     ·cases g2:f.opn with
      | true=>simp [g1,q4i,mapM]
      | false =>
       have h0:=fun y hy=>l95_m (n:=n) hf hx hP me y hy (il s.2.1) (dB b) c5 c3 c4 (l.map rS)
       simp only [mapM] at h0
       simp only [g1,decide_true,show ((false==true)=true)=False by simp,if_false,if_true]
       rw [h0 _ (by simp)]
       cases hm:q3x me e.2 f with
       | nil =>
        have ih':=ihs { f with opn:=true }
        simp only [mapM] at ih'
        simp only [qif,q02,q06,q0a,q0p,q0q,q0e,q0g,q0h,q0j,q2s,q04,show ¬ ((0:Int) < 0) by decide,decide_false,Bool.false_eq_true,if_false,q0s hf,q5P hf,q0E,Bool.not_true,List.isEmpty_nil,Bool.and_false,Bool.or_false,show ((false==true)=true)=False by simp]
        exact ih'
       | cons a t =>
        have:(0:Int) < ((t.length+1:Nat):Int):=by omega
        simp only [qif,q02,q1C,q06,q0a,q0p,q0q,q0e,q0g,q0h,q0j,q2s,q04,q1A,this,decide_true,if_true,q0E,Bool.not_false]
        simp [q4i,mapM]
     ·cases g2:f.opn with
      | true =>
       have ih':=ihs { f with opn:=false }
       simp only [mapM] at ih'
       simp only [g1,decide_false,show ((true==false)=true)=False by simp,if_false,Bool.false_eq_true,q5P hf,q02,q06,q0a,q0p,q0q,q0e,q0g,q0h,q0j,q0E,q04,Bool.not_true,Bool.false_and,Bool.or_false]
       exact ih'
      | false=>simp [g1,q4i,mapM]
  ·simp only [enL,q2x,q06,q0a,q0p,q0q,q0e,q0g,q0h,q0j,q0V,hlt',decide_true,q04,if_true,q0v,List.length_map,q0O,q1K,hin,and_self,Int.toNat_natCast,qe2 hi,cS0,cS1,cS2,cS3,q0i,qgr,q02,hs,q0E,q0t,q0u]
   simp [q4i]
theorem q4H (n:Nat) (b:Option (List Brd)) (hb:(b.getD []).length≤4611686018427387904) (h6:∀ c∈b.getD [],six c.2) (l:List Stk) (hl:l.length≤4611686018427387904) (me:Int) (c5:D) (c3 c4:Nat) (fs:List Fld) (hf:fs.length=(b.getD []).length) :
  FN (n+4) 1000095 [il me,dB b,il c3,il c4,c5,.sl 4 (l.map rS),.mp true (q3K (b.getD [])) (fs.map q1g)] =
   some (0,[.d (bl (q19 me (b.getD []) fs l).2),.d (il me),.d (dB b),.d (il c3),.d (il c4),.d c5,.d (.sl 4 (l.map rS)),.d (.mp true (q3K (b.getD [])) ((q19 me (b.getD []) fs l).1.map q1g))]):=by
 rw [FS,qbq]
 have h:=l95 n b hb h6 l hl me c5 c3 c4 fs hf
 have ha:∀ k:Mr→Out,(RP (n+3)).asM true (.mp true (q3K (b.getD [])) (fs.map q1g)) k=k (mapM (b.getD []) fs):=fun _=>rfl
 simp only [enL,Int.natCast_zero] at h
 simp only [qcy,q1O,ha,q10,q0v,List.length_map,q1A,q09,qaK,h,q4i]
 cases (q19 me (b.getD []) fs l).2<;>simp [q4O,mapM]
end
section
def okP (me:Int) (bs:List Brd) (ss:List Stk) (h:Int):Bool :=
 par me&&(q1T me bs&&(decide (ss.length≤120)&&(inn h 0 ss.length&&(q19 me bs (bs.map fun _=>fd0) ss).2)))
theorem okP_W (me:Int) (bs:List Brd) (ss:List Stk) (h:Int):okP me bs ss h=okW me bs ss h:=by
 unfold okP okW
 cases hb:q1T me bs with
 | false=>simp
 | true =>
  have hr:qat bs:=by
   simp only [q1T,Bool.and_eq_true] at hb
   exact q2Y hb.1
  obtain ⟨-,p1,p2⟩:=q5p (me:=me) hr ss (bs.map fun _=>fd0) (by simp)
  have hf:∀ i,(bs.map fun _=>fd0).getD i fd0=fd0:=fun i=>by
   simp only [List.getD_eq_getElem?_getD,List.getElem?_map]
   cases bs[i]?<;>rfl
  have e:(q19 me bs (bs.map fun _=>fd0) ss).2=(ss.all (qg7 bs)&&bs.all fun b=>(q0x me b fd0 ss).2):=by
   rw [Bool.eq_iff_iff,Bool.and_eq_true,List.all_eq_true,List.all_eq_true]
   constructor
   ·intro h
    obtain ⟨a,b⟩:=p1 h
    refine ⟨fun s hs=>?_,fun c hc=>?_⟩
    ·obtain ⟨a1,a2⟩:=a s hs
     simp only [qg7,a1,Bool.true_and]
     cases hx:bix s.2.1 bs with
     | none=>exact absurd hx a2
     | some _=>rfl
    ·obtain ⟨i,hi,rfl⟩:=List.mem_iff_getElem.1 hc
     have:=b i hi
     rw [hf i] at this
     simp only [List.getD_eq_getElem?_getD,List.getElem?_eq_getElem hi,Option.getD_some] at this
     rw [this]
   ·rintro ⟨a,b⟩
    refine p2 (fun s hs=>?_) fun i hi=>?_
    ·have:=a s hs
     simp only [qg7,Bool.and_eq_true] at this
     refine ⟨this.1,fun hn=>?_⟩
     rw [hn] at this
     simp at this
    ·rw [hf i]
     have:=b bs[i] (List.getElem_mem hi)
     simpa only [List.getD_eq_getElem?_getD,List.getElem?_eq_getElem hi,Option.getD_some] using this
  rw [e]
section
variable {Fn:Nat→List D→Out} {FnD:D→List Sh→List D→Out} {m:Nat}
theorem qeK (bs:List Brd):(q3K bs).length=bs.length:=by simp [q3K]
theorem q9G {bs:List Brd} {fs:List Fld} (hf:fs.length=bs.length) {e:Brd} (hx:bix e.1 bs=none) (g:Fld) (k:Mr→Out) :
  (q01 Fn FnD m).addK 0 (q3K bs,fs.map q1g++[q1g g]) (il e.1) bs.length k=k (mapM (bs++[e]) (fs++[g])):=by
 have:qfA 0 (q3K bs,fs.map q1g++[q1g g]) (il e.1) bs.length=some (mapM (bs++[e]) (fs++[g])):=by
  simp only [qfA,il,qgW,q45,qeK,true_and,List.length_append,List.length_map,hf,List.length_cons,List.length_nil]
  rw [if_pos (by omega),q76,hx]
  simp [mapM,q3K]
 simp only [q01,this]
end
theorem q6U:q1g fd0=[il 0,bl false,il 0,il 0,bl false,il 0,il 0,bl false,il 0,il 0,bl false,il 0,il 0,bl false,il 0,il 0,bl false,il 0,il 0,bl false]:=rfl
theorem q7v {bs:List Brd} (hr:qat bs) {i:Nat} {e:Brd} (he:bs[i]?=some e):bix e.1 (bs.take i)=none:=by
 cases hx:bix e.1 (bs.take i) with
 | none=>rfl
 | some j =>
  obtain ⟨h1,h2⟩:=q2k hx
  have hi:i < bs.length:=by
   rcases Nat.lt_or_ge i bs.length with h | h
   ·exact h
   ·rw [List.getElem?_eq_none h] at he;cases he
  have hj:j < i:=by simp at h1;omega
  have:=List.pairwise_iff_getElem.1 hr j i (by omega) hi hj
  rw [List.getElem?_eq_getElem hi] at he
  simp only [Option.some.injEq] at he
  simp only [List.getD_eq_getElem?_getD,List.getElem?_take,hj,if_true,List.getElem?_eq_getElem (show j < bs.length by omega),Option.getD_some] at h2
  rw [he] at this
  omega
def new (bs:List Brd):List Fld:=bs.map fun _=>fd0
theorem q5s (bs:List Brd) (e:Brd):new (bs++[e])=new bs++[fd0]:=by simp [new]
theorem q1l (bs:List Brd):(new bs).length=bs.length:=by simp [new]
theorem q4k {α:Type} {l:List α} {i:Nat} {e:α} (h:l[i]?=some e):l.take (i+1)=l.take i++[e]:=by
 rw [List.take_add_one,h];rfl
theorem q4G (r:Rr) (z:List D):r.take r.length++((List.replicate r.length z).drop r.length).take r.length=r:=by
 simp
end
section
def pg (me:Int) (bs:List Brd) (ss:List Stk):List Fld:=(q19 me bs (new bs) ss).1
def fl (me:Int) (bs:List Brd) (ss:List Stk) (j:Nat):Fld:=(q0x me (bs.getD j (0,0)) fd0 ss).1
theorem q6m {me:Int} {bs:List Brd} (hr:qat bs) (ss:List Stk):(pg me bs ss).length=bs.length:=(q5p hr ss (new bs) (q1l bs)).1
theorem q12 {me:Int} {bs:List Brd} {ss:List Stk} {h:Int} (ho:okP me bs ss h=true):qat bs:=by
 simp only [okP,q1T,Bool.and_eq_true] at ho
 exact q2Y ho.2.1.1
theorem qer (bs:List Brd) (i:Nat):(new bs).getD i fd0=fd0:=by
 simp only [new,List.getD_eq_getElem?_getD,List.getElem?_map]
 cases bs[i]?<;>rfl
theorem q7O {me:Int} {bs:List Brd} {ss:List Stk} {h:Int} (ho:okP me bs ss h=true) {j:Nat} (hj:j < bs.length):(pg me bs ss)[j]?=some (fl me bs ss j):=by
 have hr:=q12 ho
 have ho':=ho
 simp only [okP,Bool.and_eq_true] at ho'
 have:=(q5p (me:=me) hr ss (new bs) (q1l bs)).2.1 ho'.2.2.2.2
 have h1:=this.2 j hj
 rw [qer] at h1
 have h2:j < (pg me bs ss).length:=by rw [q6m hr];exact hj
 rw [List.getElem?_eq_getElem h2]
 unfold fl
 rw [h1]
 simp [pg,List.getD_eq_getElem?_getD,List.getElem?_eq_getElem (show j < (q19 me bs (new bs) ss).1.length from h2)]
def ofR (me:Int) (bs:List Brd) (ss:List Stk) (h fld:Int) (bad:Int→Out) (k:Nat→Out):Out :=
 if okP me bs ss h=true then (match bix fld bs with
  | none=>bad 94
  | some j=>k j) else bad 92
def qiH (me:Int) (bs:List Brd) (other:Int) (bad:Int→Out) (k:Nat→Out) (j:Nat):Out :=
 if decide (other=me)||!q3h (bs.getD j (0,0)).2 other then bad 1 else k j
def qjN (e:Int):Out:=some (0,[.d (bl false),.d (il e)])
def badN (e:Int):Out:=some (0,[.d q4L,.d (il e)])
theorem q2Q {α:Type} {l:List α} {j:Nat} {e:α} (d:α) (h:l[j]?=some e):l.getD j d=e:=by simp [List.getD_eq_getElem?_getD,h]
theorem q4C {bs:List Brd} {fld:Int} {j:Nat} (h:bix fld bs=some j):∃ e,bs[j]?=some e∧e.1=fld∧bs.getD j (0,0)=e∧j < bs.length:=by
 obtain ⟨h1,h2⟩:=q2k h
 refine ⟨bs[j],List.getElem?_eq_getElem h1,?_,q2Q _ (List.getElem?_eq_getElem h1),h1⟩
 rw [q2Q _ (List.getElem?_eq_getElem h1)] at h2
 exact h2
theorem qaO {me:Int} {bs:List Brd} {ss:List Stk} {h:Int} (ho:okW me bs ss h=true):par me=true∧q1T me bs=true∧(∀ s∈ss,okS s=true):=by
 simp only [okW,Bool.and_eq_true] at ho
 exact ⟨ho.1,ho.2.1,qjO ho.2.2.2.2.1⟩
theorem q9X {fld:Int} {bs:List Brd} {j:Nat} (h:bix fld bs=some j):ixI fld bs=(j:Int):=by simp [ixI,h]
end
section
def odd (z:Int):Bool:=decide (z.tmod 2=1)
def q4e (me o:Int) (f:Fld):Bool:=q0C me o (f.no o.toNat)&&(odd f.wants&&f.af o.toNat)
end
section
def qjQ (en0:Nat→List Yr) (en1:Nat→Rr→List Yr) (i:Nat) (acc:Rr):Nat×List Yr:=match acc with
 | []=>(0,en0 i)
 | a::t=>(1,en1 i (a::t))
def qhN (o0:Out) (o1:Rr→Out) (acc:Rr):Out:=match acc with
 | []=>o0
 | a::t=>o1 (a::t)
theorem qfB (en0:Nat→List Yr) (en1:Nat→Rr→List Yr) (i:Nat) (acc:Rr) (r:List D):qjQ en0 en1 i (acc++[r])=(1,en1 i (acc++[r])):=by
 cases acc<;>rfl
theorem qct (N:Nat) (hN:N≤4611686018427387904) (row:Nat→Option (List D)) (b0 b1:(Nat→List Yr→Out)→List Yr→Out) (en0:Nat→List Yr) (en1:Nat→Rr→List Yr) (o0:Out) (o1:Rr→Out)
  (h0:∀ k,b0 k (en0 N)=o0) (h1:∀ k a t,(a::t).length≤N→b1 k (en1 N (a::t))=o1 (a::t))
  (s0:∀ i k,i < N→IntKind.i64.wrap ((i:Int)+1)=(i:Int)+1→b0 k (en0 i)=match row i with
   | none=>k 0 (en0 (i+1))
   | some r=>k 1 (en1 (i+1) [r]))
  (s1:∀ i k a t,i < N→(a::t).length≤i→IntKind.i64.wrap ((i:Int)+1)=(i:Int)+1→b1 k (en1 i (a::t))=match row i with
   | none=>k 1 (en1 (i+1) (a::t))
   | some r=>k 1 (en1 (i+1) (a::t++[r]))) :
  q1b [b0,b1] M0 0 (en0 0)=qhN o0 o1 ((List.range N).filterMap row):=by
 have:=q60 (σ:=Nat×Rr) [b0,b1] (fun s=>qjQ en0 en1 s.1 s.2) (fun s=>N - s.1) (fun s=>s.1≤N∧s.2.length≤s.1)
  (fun s=>qhN o0 o1 (s.2++(List.range' s.1 (N - s.1)).filterMap row)) ?_ M0 (0,[]) ⟨by simp,by simp⟩ (by simp only [M0];omega)
 ·simpa [qjQ,List.range_eq_range'] using this
 ·rintro ⟨i,acc⟩ k ⟨hi,ha⟩ ih
  simp only at hi ha
  by_cases hN':i=N
  ·subst hN'
   cases acc with
   | nil=>exact ⟨b0,rfl,by simp [qjQ,qhN,h0]⟩
   | cons a t=>exact ⟨b1,rfl,by simp [qjQ,qhN,h1 k a t ha]⟩
  ·have hi':i < N:=by omega
   have hw:=q3C hi' hN
   have ih0:=ih (i+1,acc) ⟨hi',by simp only;omega⟩ (by simp only;omega)
   have ih1:=fun r=>ih (i+1,acc++[r]) ⟨hi',by simp;omega⟩ (by simp only;omega)
   simp only [qfB,List.append_assoc,List.cons_append,List.nil_append] at ih1
   simp only at ih0
   have e:List.range' i (N - i)=i::List.range' (i+1) (N - (i+1)):=by
    rw [show N - i=(N - (i+1))+1 by omega,List.range'_succ]
   rw [e]
   simp only [List.filterMap_cons]
   cases acc with
   | nil =>
    refine ⟨b0,rfl,?_⟩
    simp only [qjQ] at ih0 ⊢
    rw [s0 i k hi' hw]
    cases hr:row i with
    | none=>exact ih0
    | some r=>exact ih1 r
   | cons a t =>
    refine ⟨b1,rfl,?_⟩
    simp only [qjQ] at ih0 ⊢
    rw [s1 i k a t hi' ha hw]
    cases hr:row i with
    | none=>exact ih0
    | some r=>exact ih1 r
def qdK {α:Type} (p:α→Bool) (g:α→List D) (x:α):Option (List D):=if p x=true then some (g x) else none
theorem q7o {α:Type} (p:α→Bool) (g:α→List D) (l:List α):l.filterMap (qdK p g)=(l.filter p).map g:=by
 induction l with
 | nil=>rfl
 | cons x r ih =>
  simp only [List.filterMap_cons,qdK,List.filter_cons]
  cases p x<;>simp [←ih]
def rN (o:Nat):List D:=[il o]
def dN (l:List Nat):D:=match l with
 | []=>q4L
 | a::t=>.sl 1 ((a::t).map rN)
def qjd (me P:Int) (f:Fld):List Nat:=(List.range 6).filter fun (o:Nat)=>!decide ((o:Int)=me)&&(P.toNat.testBit o&&!q0C me o (f.no o))
theorem qjc (me P:Int) (f:Fld):qjd me P f=q3x me P f:=by
 unfold qjd q3x oth
 rw [List.filter_filter]
 congr 1
 funext o
 cases decide ((o:Int)=me)<;>cases P.toNat.testBit o<;>simp
theorem q5U {Fn:Nat→List D→Out} {FnD:D→List Sh→List D→Out} {m:Nat} {i:Nat} (h:i < 6) (k:Nat→Out):(q01 Fn FnD m).inx (il i) 6 k=k i:=by
 rw [q1K,if_pos (by omega),Int.toNat_natCast]
theorem fit0 (b:Nat) (hb:b≤32):(0+1)*b≤140737488355328∧0+1≤9223372036854775807:=by omega
theorem fit1 {n:Nat} (b:Nat) (hb:b≤32) (hn:n≤4294967296):(n+1+(0+1))*b≤140737488355328∧n+1+(0+1)≤9223372036854775807:=by
 have:(n+1+(0+1))*b≤(n+1+(0+1))*32:=Nat.mul_le_mul_left _ hb
 omega
end
section
abbrev Wrt:=Int×List Stk
def q6M (fld:Int) (f:Fld):Wrt:=if f.opn=true then (95,[]) else if odd f.wants=true then (0,[]) else (0,[(2,fld,0,f.wants+1)])
def q51 (me P fld:Int) (f:Fld):Wrt:=if f.opn=true then (95,[]) else if (q3x me P f).isEmpty=true then (if f.wants=99999 then (2,[]) else (0,(4,fld,0,1)::(if odd f.wants=true then [(2,fld,0,f.wants+1)] else []))) else (97,[])
def q7K (fld:Int) (f:Fld):Wrt:=if f.opn=true then (0,[(4,fld,0,0)]) else (96,[])
def q2P (me P:Int) (f:Fld) (o:Nat):Bool:=!decide ((o:Int)=me)&&(P.toNat.testBit o&&(odd (f.ask o)&&(q0C me o (f.no o)&&(!q4e me o f&&decide (f.no o < 99999)))))
def q5g (me:Int) (e:Brd) (f:Fld):List Stk:=if f.opn=true then [] else ((List.range 6).filter (q2P me e.2 f)).map fun (o:Nat)=>(1,e.1,(o:Int),f.no o+1)
def q37 (me:Int) (bs:List Brd) (ss:List Stk):List Stk:=bs.flatMap fun e=>q5g me e (q0x me e fd0 ss).1
def qa0 (me a:Int) (t:Tld) (f:Fld):List Stk:=(if f.ask a.toNat < t.2.2 then [(3,t.1,a,t.2.2)] else [])++(if f.no a.toNat < t.2.1∧q0C me a t.2.1=true∧f.opn=false then [(1,t.1,a,t.2.1)] else [])
def qeT (me a:Int) (bs:List Brd) (ss:List Stk) (t:Tld):List Stk:=match bix t.1 bs with
 | none=>[]
 | some j=>if q3h (bs.getD j (0,0)).2 a=true then qa0 me a t (fl me bs ss j) else []
def q6v (me a:Int) (bs:List Brd) (ss:List Stk) (l:List Tld):List Stk:=l.flatMap (qeT me a bs ss)
def q6q (me h:Int) (b:Option (List Brd)) (ss:List Stk) (q:Wrt):Out:=if q.1=0 then (if 120 < ss.length+q.2.length then noW 2 else some (0,[.d (il me),.d (dB b),.d (dS (some (ss++q.2))),.d (il h),.d (il 0)])) else noW q.1
def qdL (f:Fld):Prop:=(0≤f.wants∧f.wants≤99999)∧∀ o,(0≤f.no o∧f.no o≤99999)∧(0≤f.ask o∧f.ask o≤99999)
theorem rng_0:qdL fd0:=⟨by simp [fd0],fun o=>by simp [fd0]⟩
theorem qen {s:Stk} (h:okS s=true) (h4:s.1≠4):1≤s.2.2.2∧s.2.2.2≤99999:=by
 simp only [okS,Bool.and_eq_true] at h
 obtain ⟨-,h⟩:=h
 split at h
 ·simp only [inn,Bool.and_eq_true,decide_eq_true_eq] at h;exact h.2
 ·split at h
  ·simp only [inn,Bool.and_eq_true,decide_eq_true_eq] at h;exact h.2
  ·simp [] at h
theorem qf2 {me P:Int} {f g:Fld} {s:Stk} (hs:okS s=true) (hf:qdL f) (h:q0N me P f s=some g):qdL g:=by
 unfold q0N at h
 split at h
 ·rename_i h1
  split at h
  ·cases h
  ·have:=qen hs (by omega)
   cases h
   refine ⟨hf.1,fun o=>⟨?_,(hf.2 o).2⟩⟩
   simp only [upN]
   split
   ·omega
   ·exact (hf.2 o).1
 ·split at h
  ·rename_i h2
   split at h
   ·cases h
   ·have:=qen hs (by omega)
    cases h
    exact ⟨by simp only;omega,hf.2⟩
  ·split at h
   ·rename_i h3
    split at h
    ·cases h
    ·have:=qen hs (by omega)
     cases h
     refine ⟨hf.1,fun o=>⟨(hf.2 o).1,?_⟩⟩
     simp only [upN]
     split
     ·omega
     ·exact (hf.2 o).2
   ·split at h
    ·cases h
    ·cases h
     exact hf
theorem q7h {me:Int} {e:Brd}:∀ (l:List Stk) (f:Fld),(∀ s∈l,okS s=true)→qdL f→qdL (q0x me e f l).1
 | [],f,_,hf=>hf
 | s::r,f,hl,hf=>by
  have hr:=fun t (ht:t∈r)=>hl t (List.mem_cons_of_mem _ ht)
  unfold q0x
  split
  ·cases hs:q0N me e.2 f s with
   | none=>exact hf
   | some g=>exact q7h r g hr (qf2 (hl s List.mem_cons_self) hf hs)
  ·exact q7h r f hr hf
theorem q5E {me:Int} {bs:List Brd} {ss:List Stk} {h:Int} (ho:okP me bs ss h=true) (j:Nat):qdL (fl me bs ss j):=by
 rw [okP_W] at ho
 exact q7h ss fd0 (qaO ho).2.2 rng_0
end
section
theorem e97_3:@q8x=@q2A:=rfl
theorem e97_4:@q8w=@q2z:=rfl
theorem e97_5:@q8v=@q2y:=rfl
def enQ (l:List Stk) (bs:List Brd) (r:Rr) (c1 c2 c5:D) (c3 c4:Nat) (i:Nat) (fs:List Fld):List Yr:=[.d (dS (some l)),.d (il l.length),.d (il i),.m (mapM bs fs),.r r,.d c1,.d c2,.n c3,.n c4,.d c5]
theorem l97 (n:Nat) (b:Option (List Brd)) (hb:(b.getD []).length≤4611686018427387904) (h6:∀ c∈b.getD [],six c.2) (l:List Stk) (hl:l.length≤4611686018427387904) (r0:Rr) (me:Int) (c5:D) (c3 c4:Nat) (fs:List Fld) (hf:fs.length=(b.getD []).length) :
  q1b [q2w (RP (n+3))] M0 0 (enQ l (b.getD []) r0 (il me) (dB b) c5 c3 c4 0 fs)=q4i (b.getD []) r0 (il me) (dB b) c5 c3 c4 (q19 me (b.getD []) fs l):=by
 have:=q0L (β:=List Fld) l hl (q2w (RP (n+3))) (fun i fs=>enQ l (b.getD []) r0 (il me) (dB b) c5 c3 c4 i fs) (fun _ fs=>fs.length=(b.getD []).length)
  (fun _ r fs=>q4i (b.getD []) r0 (il me) (dB b) c5 c3 c4 (q19 me (b.getD []) fs r)) ?_ ?_ M0 fs hf (q2K hl)
 ·exact this
 ·intro fs k _
  simp [q2w,enQ,q4i,q19]
 ·intro i s r fs k hi hd hlt hw hfs ih
  have hlt':(i:Int) < (l.length:Int):=by omega
  have hin:0≤(i:Int)∧(i:Int) < (l.length:Nat):=by omega
  rw [q19]
  by_cases hs:okS s=true
  ·rw [if_pos hs]
   cases hx:bix s.2.1 (b.getD []) with
   | none =>
    have hneg:ixI s.2.1 (b.getD []) < 0:=q3d.2 hx
    simp only [enQ,q2w,q06,q0a,q0p,q0q,q0e,q0g,q0h,q0j,q0V,hlt',decide_true,q04,if_true,rowS (o:=some l) hi,cS0,cS1,cS2,cS3,q0i,qgr,q02,hs,q0E,Bool.not_true,Bool.false_eq_true,if_false,q1B,qby _ _ hb,q09,hneg,q0u,q0t,q0H,q5m,q4i]
    simp
   | some j =>
    obtain ⟨hj1,hj2⟩:=q2k hx
    have hnn:¬ (ixI s.2.1 (b.getD []) < 0):=by rw [q3d,hx];simp
    have hix:ixI s.2.1 (b.getD [])=(j:Int):=by simp [ixI,hx]
    obtain ⟨e,he⟩:∃ e,(b.getD [])[j]?=some e:=⟨_,List.getElem?_eq_getElem hj1⟩
    have hP:six e.2:=h6 e (List.mem_of_getElem? he)
    have hge:(b.getD []).getD j (0,0)=e:=by simp [List.getD_eq_getElem?_getD,he]
    obtain ⟨f,hf⟩:∃ f,fs[j]?=some f:=⟨_,List.getElem?_eq_getElem (by omega)⟩
    have hgf:fs.getD j fd0=f:=by simp [List.getD_eq_getElem?_getD,hf]
    simp only
    rw [hge,hgf]
    have ihs:∀ g,k 0 (enQ l (b.getD []) r0 (il me) (dB b) c5 c3 c4 (i+1) (fs.set j g))=q4i (b.getD []) r0 (il me) (dB b) c5 c3 c4 (q19 me (b.getD []) (fs.set j g) r):=fun g=>ih _ (by rw [q3W];exact hfs)
    simp only [enQ,q1h] at ihs
    simp only [enQ,q2w,q06,q0a,q0p,q0q,q0e,q0g,q0h,q0j,q0V,hlt',decide_true,q04,if_true,rowS (o:=some l) hi,cS0,cS1,cS2,cS3,q0i,qgr,q02,hs,q0E,Bool.not_true,Bool.false_eq_true,if_false,q1B,qby _ _ hb,q09,hnn,decide_false,q0u,q0t]
    rw [hix,q6y he]
    simp only [cB0,cB1,q02,q06,q0a,q0p,q0q,q0e,q0g,q0h,q0j]
    rcases q8U hs with ⟨h1,ho⟩ | h1 | ⟨h1,ho⟩ | h1
    ·have hp:=q4q ho
     have hq:0≤s.2.2.1∧s.2.2.1 < (6:Nat):=by have:=q16.1 ho;omega
     have k1:3*s.2.2.1.toNat+1≤20:=by omega
     have k2:3*s.2.2.1.toNat+1+1≤20:=by omega
     unfold q0N
     simp only [h1,q0H,decide_true,if_true,q02,q06,q0a,q0p,q0q,q0e,q0g,q0h,q0j,q0E,q04,Bool.not_true,Bool.false_eq_true,if_false,s91 _ _ hP,mapM,q0k,q1K,hq,and_self,q11,q0s hf,q0n,q1i,q1G,q0F,Nat.zero_add,Nat.add_zero,q1W,q2U f hp,q70,qaJ,q2E,hx,q2b,q29,qdI hf hp,q0s (q2R hf _),q9p (q2R hf _) hp,List.set_set,q0T,hw,k1,k2,show 19+1≤20 by decide,decide_eq_true_eq]
     by_cases g1:s.2.2.1=me
     ·simp [g1,q4i,mapM]
     ·by_cases g2:q3h e.2 s.2.2.1=true
      ·by_cases g3:f.opn=true
       ·simp [g1,g2,g3,q4i,mapM]
       ·by_cases g4:s.2.2.2≤f.no s.2.2.1.toNat
        ·simp [g1,g2,g3,g4,q4i,mapM]
        ·have ih':=ihs { f with no:=upN f.no s.2.2.1.toNat s.2.2.2,af:=upN f.af s.2.2.1.toNat true }
         have g3':f.opn=false:=by simpa using g3
         simp only [mapM,g3'] at ih'
         simp only [g1,g2,g3',g4,if_false,q02,q06,q0a,q0p,q0q,q0e,q0g,q0h,q0j,q0E,q04,Bool.not_true,Bool.false_eq_true,decide_false,Bool.or_false]
         exact ih'
      ·simp [g1,g2,q4i,mapM]
    ·unfold q0N
     simp only [h1,q0H,show ¬ ((2:Int)=1) by decide,show ¬ ((2:Int)=3) by decide,decide_false,if_true,q02,q06,q0a,q0p,q0q,q0e,q0g,q0h,q0j,q0E,q04,Bool.not_true,Bool.false_eq_true,if_false,mapM,q0k,q11,q0s hf,q0n,q1i,q1G,q0F,Nat.zero_add,Nat.add_zero,q1s,q70,qaI,q2E,hx,q2b,q29,q6Q hf,q10,e97_3,q0T,hw,show 18+1≤20 by decide,decide_eq_true_eq]
     by_cases g1:s.2.2.2≤f.wants
     ·simp [g1,q4i,mapM]
     ·have ih':=ihs { f with wants:=s.2.2.2,af:=fun _=>false }
      have h0:=l95_0 (n+3) (b.getD []) (fs.set j { f with wants:=s.2.2.2 }) (q2R hf _) (il me) (dB b) c5 c3 c4 r0
      simp only [mapM,List.set_set] at ih' h0
      simp only [g1,if_false,h0,q02,q06,q0a,q0p,q0q,q0e,q0g,q0h,q0j]
      exact ih'
    ·have hp:=q4q ho
     have hq:0≤s.2.2.1∧s.2.2.1 < (6:Nat):=by have:=q16.1 ho;omega
     have k2:3*s.2.2.1.toNat+2+1≤20:=by omega
     unfold q0N
     simp only [h1,q0H,show ¬ ((3:Int)=1) by decide,show ¬ ((3:Int)=2) by decide,decide_true,decide_false,if_true,q02,q06,q0a,q0p,q0q,q0e,q0g,q0h,q0j,q0E,q04,Bool.not_true,Bool.false_eq_true,if_false,s91 _ _ hP,mapM,q0k,q1K,hq,and_self,q11,q0s hf,q0n,q1i,q1G,q0F,Nat.zero_add,Nat.add_zero,q65 f hp,q70,qaH,q2E,hx,q2b,q29,qaw hf hp,q0T,hw,k2,decide_eq_true_eq]
     by_cases g1:s.2.2.1=me
     ·simp [g1,q4i,mapM]
     ·by_cases g2:q3h e.2 s.2.2.1=true
      ·by_cases g4:s.2.2.2≤f.ask s.2.2.1.toNat
       ·simp [g1,g2,g4,q4i,mapM]
       ·have ih':=ihs { f with ask:=upN f.ask s.2.2.1.toNat s.2.2.2 }
        simp only [mapM] at ih'
        simp only [g1,g2,g4,if_false,q02,q06,q0a,q0p,q0q,q0e,q0g,q0h,q0j,Bool.not_true,Bool.false_eq_true,decide_false,Bool.or_false]
        exact ih'
      ·simp [g1,g2,q4i,mapM]
    ·unfold q0N
     have he1:e.1=s.2.1:=by rw [←hge];exact hj2
     have hj0:¬ ((j:Int) < 0):=by omega
     simp only [h1,q0H,show ¬ ((4:Int)=1) by decide,show ¬ ((4:Int)=2) by decide,show ¬ ((4:Int)=3) by decide,decide_false,if_true,q02,q06,q0a,q0p,q0q,q0e,q0g,q0h,q0j,q0E,q04,Bool.not_true,Bool.false_eq_true,if_false,mapM,q0k,qaG,q2E,hx,q1B,qby _ _ hb,hix,hj0,q6y he,cB0,cB1,q0V,q11,q0s hf,q0n,q1i,q1G,q0F,Nat.zero_add,Nat.add_zero,q1W,q4p,q2b,q29,q10,e97_4,e97_5,q0T,hw,show 19+1≤20 by decide,he1,decide_eq_true_eq]
     by_cases g1:s.2.2.2=1
     ·cases g2:f.opn with
      | true=>simp [g1,q4i,mapM]
      | false =>
       have h0:=fun y hy=>l95_m (n:=n) hf hx hP me y hy (il s.2.1) (dB b) c5 c3 c4 r0
       simp only [mapM] at h0
       simp only [g1,decide_true,show ((false==true)=true)=False by simp,if_false,if_true]
       rw [h0 _ (by simp)]
       cases hm:q3x me e.2 f with
       | nil =>
        have ih':=ihs { f with opn:=true }
        simp only [mapM] at ih'
        simp only [qif,q02,q06,q0a,q0p,q0q,q0e,q0g,q0h,q0j,q2s,q04,show ¬ ((0:Int) < 0) by decide,decide_false,Bool.false_eq_true,if_false,q0s hf,q5P hf,q0E,Bool.not_true,List.isEmpty_nil,Bool.and_false,Bool.or_false,show ((false==true)=true)=False by simp]
        exact ih'
       | cons a t =>
        have:(0:Int) < ((t.length+1:Nat):Int):=by omega
        simp only [qif,q02,q1C,q06,q0a,q0p,q0q,q0e,q0g,q0h,q0j,q2s,q04,q1A,this,decide_true,if_true,q0E,Bool.not_false]
        simp [q4i,mapM]
     ·cases g2:f.opn with
      | true =>
       have ih':=ihs { f with opn:=false }
       simp only [mapM] at ih'
       simp only [g1,decide_false,show ((true==false)=true)=False by simp,if_false,Bool.false_eq_true,q5P hf,q02,q06,q0a,q0p,q0q,q0e,q0g,q0h,q0j,q0E,q04,Bool.not_true,Bool.false_and,Bool.or_false]
       exact ih'
      | false=>simp [g1,q4i,mapM]
  ·simp only [enQ,q2w,q06,q0a,q0p,q0q,q0e,q0g,q0h,q0j,q0V,hlt',decide_true,q04,if_true,rowS (o:=some l) hi,cS0,cS1,cS2,cS3,q0i,qgr,q02,hs,q0E,q0t,q0u]
   simp [q4i]
theorem q3Z (n:Nat) (b:Option (List Brd)) (hb:(b.getD []).length≤4611686018427387904) (h6:∀ c∈b.getD [],six c.2) (l:List Stk) (hl:l.length≤4611686018427387904) (r0:Rr) (me:Int) (c5:D) (c3 c4:Nat) (fs:List Fld) (hf:fs.length=(b.getD []).length) :
  FN (n+4) 1300095 [il me,dB b,il c3,il c4,c5,.sl 4 r0,.mp true (q3K (b.getD [])) (fs.map q1g),.sl 4 (l.map rS)] =
   some (0,[.d (bl (q19 me (b.getD []) fs l).2),.d (il me),.d (dB b),.d (il c3),.d (il c4),.d c5,.d (.sl 4 r0),.d (.mp true (q3K (b.getD [])) ((q19 me (b.getD []) fs l).1.map q1g))]):=by
 rw [FS,qbp]
 have h:=l97 n b hb h6 l hl r0 me c5 c3 c4 fs hf
 have ha:∀ k:Mr→Out,(RP (n+3)).asM true (.mp true (q3K (b.getD [])) (fs.map q1g)) k=k (mapM (b.getD []) fs):=fun _=>rfl
 have hd:(D.sl 4 (l.map rS))=dS (some l):=rfl
 have hn:(RP (n+3)).lenD (dS (some l))=fun k=>k (il l.length):=by funext k;exact q5c _ _ _ k
 simp only [enQ,Int.natCast_zero] at h
 simp only [qcx,q1O,hd,hn,ha,q10,q09,qaK,h,q4i]
 cases (q19 me (b.getD []) fs l).2<;>simp [q4O,mapM]
end
section
set_option maxRecDepth 100000
section
variable {Δ N R W M E Ω:Type} (p:Pr Δ N R W M E Ω)
def opn8 (a0 a1 a2 a3 a4: Δ):Ω:=(p.bnd (p.call 61 [a0]) [fun y0=>p.un .not (p.ld y0 0) fun x1=>p.cond x1 (p.out 0 [.d a4,.d (p.lit (.int .i64 92)),.d (p.lit (.int .i64 0)),.d (p.lit (.int .i64 0)),.d a0,.d a1,.d a2,.d a3]) (p.bnd (p.call 62 [a0,a1]) [fun y2=>p.un .not (p.ld y2 0) fun x3=>p.cond x3 (p.out 0 [.d a4,.d (p.lit (.int .i64 92)),.d (p.lit (.int .i64 0)),.d (p.lit (.int .i64 0)),.d a0,.d a1,.d a2,.d a3]) (p.lenD a2 fun x4=>p.bin .gtr false x4 (p.lit (.int .i64 120)) fun x5=>p.cond x5 (p.out 0 [.d a4,.d (p.lit (.int .i64 92)),.d (p.lit (.int .i64 0)),.d (p.lit (.int .i64 0)),.d a0,.d a1,.d a2,.d a3]) (p.lenD a2 fun x6=>p.bnd (p.call 68 [a3,(p.lit (.int .i64 0)),x6]) [fun y7=>p.un .not (p.ld y7 0) fun x8=>p.cond x8 (p.out 0 [.d a4,.d (p.lit (.int .i64 92)),.d (p.lit (.int .i64 0)),.d (p.lit (.int .i64 0)),.d a0,.d a1,.d a2,.d a3]) (p.bnd (p.call 63 [a1]) [fun y9=>p.lenD a2 fun x10=>p.mkN 32 x10 x10 fun n11=>p.rowsD 4 a2 fun r12=>p.eqN n11 (p.len (p.repl n11 [(p.lit (.int .i64 0)),(p.lit (.int .i64 0)),(p.lit (.int .i64 0)),(p.lit (.int .i64 0))])) (p.eqN n11 (p.len (p.repl n11 [(p.lit (.int .i64 0)),(p.lit (.int .i64 0)),(p.lit (.int .i64 0)),(p.lit (.int .i64 0))])) (p.lenD (p.ld y9 0) fun x13=>p.bnd (p.loop [(qdf p)] 0 [.d (p.ld y9 0),.d x13,.d (p.lit (.int .i64 0)),.m p.emp,.d a0,.d (p.ld y9 0),.n n11,.n n11,.d a3,.d a0,.d a1,.d a2,.d a3,.d a0,.d a1,.d a2,.d a3,.d (p.lit (.int .i64 0)),.d (p.lit (.int .i64 0)),.r (p.app (p.seg r12 none n11) (p.seg (p.repl n11 [(p.lit (.int .i64 0)),(p.lit (.int .i64 0)),(p.lit (.int .i64 0)),(p.lit (.int .i64 0))]) (some (p.len r12)) n11)),.d a0,.d (p.ld y9 0),.n n11,.n n11,.d a3]) [fun y14=>p.eqN n11 (p.len (p.lr y14 16)) (p.eqN n11 (p.len (p.lr y14 16)) (p.bnd (p.call 1000095 [p.ld y14 1,p.ld y14 2,(p.natD (p.ln y14 3)),(p.natD (p.ln y14 4)),p.ld y14 5,(p.slD 4 (p.lr y14 16)),(p.mpD true (p.lm y14 0))]) [fun y15=>p.rowsD 4 (p.ld y15 6) fun r16=>p.asM true (p.ld y15 7) fun q17=>p.un .not (p.ld y15 0) fun x18=>p.cond x18 (p.out 0 [.d a4,.d (p.lit (.int .i64 92)),.d (p.ld y14 14),.d (p.ld y14 15),.d (p.ld y14 6),.d (p.ld y14 7),.d (p.ld y14 8),.d (p.ld y14 9)]) (p.out 1 [.d a4,.d (p.lit (.int .i64 0)),.m q17,.r r16,.d (p.ld y15 1),.d (p.ld y15 2),.n (p.dN (p.ld y15 3)),.n (p.dN (p.ld y15 4)),.d (p.ld y15 5),.d (p.ld y14 14),.d (p.ld y14 15),.d (p.ld y14 6),.d (p.ld y14 7),.d (p.ld y14 8),.d (p.ld y14 9)])]))]))])]))])])
end
theorem q4D {n:Nat} {X X' r:Out} {ks:List (List Yr→Out)} (h:X=X') (h2:(RP n).bnd X' ks=r):(RP n).bnd X ks=r:=h ▸ h2
theorem l29 (n:Nat) (o:Option (List Brd)) (hl:(o.getD []).length≤4611686018427387904) (hr:qat (o.getD [])) (c0:D) (c1:D) (c2:Nat) (c3:Nat) (c4:D) (c5:D) (c6:D) (c7:D) (c8:D) (c9:D) (c10:D) (c11:D) (c12:D) (c13:D) (c14:D) (c15:Rr) (c16:D) (c17:D) (c18:Nat) (c19:Nat) (c20:D) :
  q1b [qdf (RP n)] M0 0 [.d (dB o),.d (il (o.getD []).length),.d (il 0),.m ([],[]),.d c0,.d c1,.n c2,.n c3,.d c4,.d c5,.d c6,.d c7,.d c8,.d c9,.d c10,.d c11,.d c12,.d c13,.d c14,.r c15,.d c16,.d c17,.n c18,.n c19,.d c20] =
   some (0,[.m (mapM (o.getD []) (new (o.getD []))),.d c0,.d c1,.n c2,.n c3,.d c4,.d c5,.d c6,.d c7,.d c8,.d c9,.d c10,.d c11,.d c12,.d c13,.d c14,.r c15,.d c16,.d c17,.n c18,.n c19,.d c20]):=by
 have:=q0L (β:=Unit) (o.getD []) hl (qdf (RP n)) (fun i _=>[.d (dB o),.d (il (o.getD []).length),.d (il i),.m (mapM ((o.getD []).take i) (new ((o.getD []).take i))),.d c0,.d c1,.n c2,.n c3,.d c4,.d c5,.d c6,.d c7,.d c8,.d c9,.d c10,.d c11,.d c12,.d c13,.d c14,.r c15,.d c16,.d c17,.n c18,.n c19,.d c20]) (fun _ _=>True)
  (fun _ _ _=>some (0,[.m (mapM (o.getD []) (new (o.getD []))),.d c0,.d c1,.n c2,.n c3,.d c4,.d c5,.d c6,.d c7,.d c8,.d c9,.d c10,.d c11,.d c12,.d c13,.d c14,.r c15,.d c16,.d c17,.n c18,.n c19,.d c20])) ?_ ?_ M0 () trivial (q2K hl)
 ·exact this
 ·intro _ k _
  simp [qdf,List.take_length]
 ·intro i e r _ k hi hd hlt hw _ ih
  have hlt':(i:Int) < ((o.getD []).length:Int):=by omega
  have ih':=ih () trivial
  rw [q1h,q4k hi,q5s] at ih'
  have hadd:=fun k=>q9G (Fn:=FN n) (FnD:=q2L Tryd.prog (cf3 tb Tryd.prog) (FN n)) (m:=M0) (q1l ((o.getD []).take i)) (q7v hr hi) fd0 k
  have hlen:((o.getD []).take i).length=i:=by simp;omega
  simp only [q6U,hlen] at hadd
  simp only [qdf,mapM,q06,q0a,q0p,q0q,q0e,q0g,q0h,q0j,q0V,hlt',decide_true,q04,if_true,q6y hi,cB0,q0k,q0O,q2b,q0I,q11,q0o,q09,q0u,q0v,List.length_map,q1l,hlen,hadd,q0T,hw]
  exact ih'
theorem op8 (n:Nat) (me h:Int) (b:Option (List Brd)) (o:Option (List Stk)) (a:D) (hl:(o.getD []).length≤4611686018427387904) (hb:(b.getD []).length≤4611686018427387904) :
  opn8 (RP (n+4)) (il me) (dB b) (dS o) (il h) a=if okP me (b.getD []) (o.getD []) h=true then some (1,[.d a,.d (il 0),.m (mapM (b.getD []) (pg me (b.getD []) (o.getD []))),.r ((o.getD []).map rS),.d (il me),.d (dB b),.n (o.getD []).length,.n (o.getD []).length,.d (il h),.d (il 0),.d (il 0),.d (il me),.d (dB b),.d (dS o),.d (il h)]) else some (0,[.d a,.d (il 92),.d (il 0),.d (il 0),.d (il me),.d (dB b),.d (dS o),.d (il h)]):=by
 simp only [opn8,q0i,s61,s62 _ _ _ hb,s68,q5c,q02,q06,q0E,q04,q0t,q09,q2s,okP]
 by_cases h1:par me=true
 ·by_cases h2:q1T me (b.getD [])=true
  ·have h2':=h2
   simp only [q1T,Bool.and_eq_true,decide_eq_true_eq] at h2'
   by_cases h3:(o.getD []).length≤120
   ·have h3':¬ ((120:Int) < (o.getD []).length):=by omega
    by_cases h4:inn h 0 (o.getD []).length=true
    ·have hmk:0≤((o.getD []).length:Int)∧((32:Nat):Int)*((o.getD []).length:Int)≤140737488355328∧((o.getD []).length:Int)≤9223372036854775807:=by omega
     simp only [h1,h2,h3,h3',h4,Bool.not_true,Bool.false_eq_true,if_false,if_true,decide_true,decide_false,Bool.true_and,s63 _ _ h2'.2,q02,q06,q6Z,hmk,and_self,Int.toNat_natCast,q6T,q6Y,q0v,List.length_replicate,q0O,q5c,q9F,q0I,q0K,q6X,q10,List.length_map]
     have hseg:=q4G ((o.getD []).map rS) [il 0,il 0,il 0,il 0]
     rw [List.length_map] at hseg
     rw [hseg,l29 _ _ hb (q2Y h2'.1)]
     simp only [q02,q06,q0a,q0p,q0e,q0g,q0h,q0j,List.length_map,if_true,q1A,q2N,q4O,mapM]
     rw [q4H _ _ hb (q1M h2) _ (by omega) _ _ _ _ _ (q1l _)]
     have hr4:∀ k:Rr→Out,(RP (n+4)).rowsD 4 (.sl 4 ((o.getD []).map rS)) k=k ((o.getD []).map rS):=fun _=>rfl
     simp only [q02,q06,q0a,q1O,q0E,q04,qaK]
     have ha:∀ (a:List Value) (b:Rr) (k:Mr→Out),(RP (n+4)).asM true (.mp true a b) k=k (a,b):=fun _ _ _=>rfl
     rw [ha]
     simp only [pg]
     rw [show (b.getD []).map (fun _=>fd0)=new (b.getD []) from rfl]
     cases (q19 me (b.getD []) (new (b.getD [])) (o.getD [])).2<;>rfl
    ·simp [h1,h2,h3,h3',h4]
   ·have h3':((120:Int) < (o.getD []).length):=by omega
    simp [h1,h2,h3,h3']
  ·simp [h1,h2]
 ·simp [h1]
end
section
set_option maxRecDepth 100000
section
variable {Fn:Nat→List D→Out} {FnD:D→List Sh→List D→Out} {m:Nat}
theorem q1P (bs:List Brd) (fs:List Fld) (f:Int) (k:Nat→Out) (e:Out):(q01 Fn FnD m).find 0 (mapM bs fs) (il f) k e=match bix f bs with
  | none=>e
  | some j=>k j:=by
 rw [show mapM bs fs=(q3K bs,fs.map q1g) from rfl,q2E]
 cases bix f bs<;>rfl
theorem q0U (bs:List Brd) (fs:List Fld):(q01 Fn FnD m).mrows (mapM bs fs)=fs.map q1g:=rfl
end
theorem s31 (n:Nat) (me h:Int) (b:Option (List Brd)) (o:Option (List Stk)) (fld other:Int) (hl:(o.getD []).length≤4611686018427387904) (hb:(b.getD []).length≤4611686018427387904) :
  FN (n+6) 31 [il me,dB b,dS o,il h,il fld,il other]=ofR me (b.getD []) (o.getD []) h fld qjN (qiH me (b.getD []) other qjN fun j=>some (0,[.d (bl (q0C me other ((fl me (b.getD []) (o.getD []) j).no other.toNat))),.d (il 0)])):=by
 rw [FS,G31_eq]
 have hop:opn8 (RP (n+5)) (il me) (dB b) (dS o) (il h) (il fld)=_:=op8 (n+1) me h b o (il fld) hl hb
 unfold G31
 refine q4D hop ?_
 unfold ofR
 by_cases h1:okP me (b.getD []) (o.getD []) h=true
 ·have ho:=h1
  simp only [okP,Bool.and_eq_true] at h1
  simp only [ho,if_true,q02,q1C,q06,q0a,q0p,q0q,q0e,q0g,q0h,q0j,q09,q0u,q2a,q0H,q0V,ne_eq,not_true,decide_false,decide_true,q04,Bool.false_eq_true,if_false,if_true,q0t,q0i,q1B,qby _ _ hb,q3d,decide_eq_true_eq]
  cases hx:bix fld (b.getD []) with
  | none=>simp [qjN]
  | some j =>
   obtain ⟨e,he,-,hg,hj⟩:=q4C hx
   have h6:=q1M h1.2.1 e (List.mem_of_getElem? he)
   have hf:=q7O ho hj
   simp only [reduceCtorEq,if_false,q9X hx,q6y he,cB0,cB1,qiH,hg,s91 _ _ h6,q02,q06,q0E]
   by_cases h2:other=me
   ·simp [h2,qjN]
   ·by_cases h3:q3h e.2 other=true
    ·have hp:par other=true:=q3r h3
     have hlt:=q4q hp
     have hle:3*other.toNat+1≤20:=by omega
     have hle3:3*other.toNat+3≤20:=by omega
     simp only [h2,h3,decide_false,Bool.not_true,Bool.false_eq_true,Bool.or_false,if_false,if_true,q02,q06,q0a,q0p,q0q,decide_false,q04,Bool.false_eq_true,if_false,if_true,q1P,hx,q9D hp,q0U,q0s hf,q0n,q1i,q0k,q1G,hle,q0F,Nat.zero_add,Nat.add_zero,q2U _ hlt,s86]
    ·simp [h2,h3,qjN]
 ·simp [h1,qjN]
end
section
set_option maxRecDepth 100000
theorem qf3 {me P:Int} {f g:Fld} {s:Stk} (h:q0N me P f s=some g) (hf:∀ o:Nat,f.ask o≠0→P.toNat.testBit o=true):∀ o:Nat,g.ask o≠0→P.toNat.testBit o=true:=by
 unfold q0N at h
 repeat' split at h
 all_goals first
  | (cases h;done)
  | (simp only [Option.some.injEq] at h;subst h;exact hf)
  | skip
 ·rename_i hc
  simp only [Option.some.injEq] at h
  subst h
  intro o ho
  simp only [upN] at ho
  by_cases he:o=s.2.2.1.toNat
  ·have hp:q3h P s.2.2.1=true:=by
    cases hh:q3h P s.2.2.1 with
    | true=>rfl
    | false=>simp [hh] at hc
   have:=q16.1 (q3r hp)
   rw [he,← q1k (P:=P) (q4q (q3r hp)),Int.toNat_of_nonneg this.1]
   exact hp
  ·rw [if_neg (fun h=>he h.symm)] at ho
   exact hf o ho
theorem q5C (me:Int) (b:Brd):∀ (ss:List Stk) (f:Fld),(∀ o:Nat,f.ask o≠0→b.2.toNat.testBit o=true)→∀ o:Nat,(q0x me b f ss).1.ask o≠0→b.2.toNat.testBit o=true
 | [],_,hf=>hf
 | s::r,f,hf=>by
  unfold q0x
  split
  ·cases hs:q0N me b.2 f s with
   | none=>exact hf
   | some g=>exact q5C me b r g (qf3 hs hf)
  ·exact q5C me b r f hf
end
end Go.VE
