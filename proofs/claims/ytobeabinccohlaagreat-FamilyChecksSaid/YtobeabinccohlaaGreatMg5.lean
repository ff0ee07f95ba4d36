/- The statement FamilyChecks: whatever the kin and the single entries are, valid or not, CheckStay, CheckBond, CheckAway, CheckOffence, Check, Bonded and Dates agree with the specification. -/
import Derived.Test.YtobeabinccohlaaGreatMg4
import Derived.Test.YtobeabinccohlaaGreatMg1
import Derived.Test.YtobeabinccohlaaGreatMg2
namespace Go.VE
open Go.RowKit Go.Proofs
section
variable {Fn:Nat→List D→Out} {FnD:D→List Sh→List D→Out} {m:Nat}
theorem qhi (a b c d:Out):(q04 Fn FnD m).selI 4 (il 0) [a,b,c,d]=a:=rfl
theorem qhh (a b c d:Out):(q04 Fn FnD m).selI 4 (il 1) [a,b,c,d]=b:=rfl
theorem qhg (a b c d:Out):(q04 Fn FnD m).selI 4 (il 2) [a,b,c,d]=c:=rfl
theorem qhf (a b c d:Out):(q04 Fn FnD m).selI 4 (il 3) [a,b,c,d]=d:=rfl
end
def enO (X0 X1 X2 X3:D) (z:Int):List Int→Nat×List Yr
 | []=>(0,[.d X0,.d X1,.d X2,.d X3,.d (il z)])
 | y::r=>(2,[.n (y::r).length,.n (y::r).length,.d X0,.d X1,.d X2,.d X3,.d (il z),.r ((y::r).map rI)])
theorem q2F (X0 X1 X2 X3:D) (z:Int) {l:List Int} (h:l≠[]):enO X0 X1 X2 X3 z l=(2,[.n l.length,.n l.length,.d X0,.d X1,.d X2,.d X3,.d (il z),.r (l.map rI)]):=by
 cases l with
 | nil=>exact absurd rfl h
 | cons _ _=>rfl
theorem q1u (l:List Int) {acc:List Int} (h:acc≠[]):q06 acc l≠[]:=by
 cases acc with
 | nil=>exact absurd rfl h
 | cons y r =>
  intro e
  have h1:=(q1I y l (y::r)).2 (.inl (by simp))
  rw [e] at h1;simp at h1
section
variable {α:Type} {F:α→D} {kn un:α→Int}
theorem o44_0 (n:Nat) (hs:∀ e,FD (n+4) (F e) [.met "leazing/family.times" 2] []=some (0,[.d (il (kn e)),.d (il (un e))])) (l:List α) (hl:l.length≤60) (X1 X2 X3:D) (k:Nat→List Yr→Out) :
  q3p (RP (n+4)) k (enO (dEn F l) X1 X2 X3 0 []).2=k (enO (dEn F l) X1 X2 X3 1 (q06 [] (tmL kn un l))).1 (enO (dEn F l) X1 X2 X3 1 (q06 [] (tmL kn un l))).2:=by
 have h:q0p [q8E (RP (n+4)),qgQ (RP (n+4)),q8D (RP (n+4))] M0 0 [.d (dEn F l),.d X1,.d X2,.d X3,.d (il 0),.d (dEn F l),.d (il l.length),.d (il 0)]=exT (dEn F l) X1 X2 X3 (il 0) (q06 [] (tmL kn un l)):=qgA n hs l hl (dEn F l) X1 X2 X3 (il 0)
 have hw:IntKind.i64.wrap ((0:Int)+1)=1:=by decide
 have hlt:(0:Int) < 4:=by decide
 simp only [enO,q3p,q03,q08,q05,q0n,hlt,decide_true,q00,if_true,qhi,q9Z,q0q,h]
 cases q06 [] (tmL kn un l) with
 | nil=>simp only [exT,q01,q03,q08,q0o,hw]
 | cons y r=>simp only [exT,q9d,q03,q08,q0P,q0O,q0F,q0V,q0o,hw]
theorem p44_0 (n:Nat) (hs:∀ e,FD (n+4) (F e) [.met "leazing/family.times" 2] []=some (0,[.d (il (kn e)),.d (il (un e))])) (l:List α) (hl:l.length≤60) (X1 X2 X3:D) (k:Nat→List Yr→Out) {acc:List Int} (hu:Up acc) (ha:acc.length≤1000) (hne:acc≠[]) :
  q3o (RP (n+4)) k (enO (dEn F l) X1 X2 X3 0 acc).2=k 2 (enO (dEn F l) X1 X2 X3 1 (q06 acc (tmL kn un l))).2:=by
 have h:q0p [q7g (RP (n+4))] M0 0 [.n acc.length,.n acc.length,.d (dEn F l),.d X1,.d X2,.d X3,.d (il 0),.d (dEn F l),.d (il l.length),.d (il 0),.r (acc.map rI)]=some (0,[.n (q06 acc (tmL kn un l)).length,.n (q06 acc (tmL kn un l)).length,.d (dEn F l),.d X1,.d X2,.d X3,.d (il 0),.r ((q06 acc (tmL kn un l)).map rI)]):=qbT n hs l hl hu ha (dEn F l) X1 X2 X3 (il 0)
 have hw:IntKind.i64.wrap ((0:Int)+1)=1:=by decide
 have hlt:(0:Int) < 4:=by decide
 have hn:=q1u (tmL kn un l) hne
 rw [q2F _ _ _ _ _ hne,q2F _ _ _ _ _ hn]
 simp only [q3o,q03,q08,q0P,q0O,q0F,q0V,q05,q0n,hlt,decide_true,q00,if_true,qhi,q9Z,q0q,h,q01,q0o,hw]
theorem o44_1 (n:Nat) (hs:∀ e,FD (n+4) (F e) [.met "leazing/family.times" 2] []=some (0,[.d (il (kn e)),.d (il (un e))])) (l:List α) (hl:l.length≤60) (X0 X2 X3:D) (k:Nat→List Yr→Out) :
  q3p (RP (n+4)) k (enO X0 (dEn F l) X2 X3 1 []).2=k (enO X0 (dEn F l) X2 X3 2 (q06 [] (tmL kn un l))).1 (enO X0 (dEn F l) X2 X3 2 (q06 [] (tmL kn un l))).2:=by
 have h:q0p [L44_3 (RP (n+4)),L44_4 (RP (n+4)),L44_5 (RP (n+4))] M0 0 [.d X0,.d (dEn F l),.d X2,.d X3,.d (il 1),.d (dEn F l),.d (il l.length),.d (il 0)]=exT X0 (dEn F l) X2 X3 (il 1) (q06 [] (tmL kn un l)):=qgA n hs l hl X0 (dEn F l) X2 X3 (il 1)
 have hw:IntKind.i64.wrap ((1:Int)+1)=2:=by decide
 have hlt:(1:Int) < 4:=by decide
 simp only [enO,q3p,q03,q08,q05,q0n,hlt,decide_true,q00,if_true,qhh,q9Z,q0q,h]
 cases q06 [] (tmL kn un l) with
 | nil=>simp only [exT,q01,q03,q08,q0o,hw]
 | cons y r=>simp only [exT,q9d,q03,q08,q0P,q0O,q0F,q0V,q0o,hw]
theorem p44_1 (n:Nat) (hs:∀ e,FD (n+4) (F e) [.met "leazing/family.times" 2] []=some (0,[.d (il (kn e)),.d (il (un e))])) (l:List α) (hl:l.length≤60) (X0 X2 X3:D) (k:Nat→List Yr→Out) {acc:List Int} (hu:Up acc) (ha:acc.length≤1000) (hne:acc≠[]) :
  q3o (RP (n+4)) k (enO X0 (dEn F l) X2 X3 1 acc).2=k 2 (enO X0 (dEn F l) X2 X3 2 (q06 acc (tmL kn un l))).2:=by
 have h:q0p [qi0 (RP (n+4))] M0 0 [.n acc.length,.n acc.length,.d X0,.d (dEn F l),.d X2,.d X3,.d (il 1),.d (dEn F l),.d (il l.length),.d (il 0),.r (acc.map rI)]=some (0,[.n (q06 acc (tmL kn un l)).length,.n (q06 acc (tmL kn un l)).length,.d X0,.d (dEn F l),.d X2,.d X3,.d (il 1),.r ((q06 acc (tmL kn un l)).map rI)]):=qbT n hs l hl hu ha X0 (dEn F l) X2 X3 (il 1)
 have hw:IntKind.i64.wrap ((1:Int)+1)=2:=by decide
 have hlt:(1:Int) < 4:=by decide
 have hn:=q1u (tmL kn un l) hne
 rw [q2F _ _ _ _ _ hne,q2F _ _ _ _ _ hn]
 simp only [q3o,q03,q08,q0P,q0O,q0F,q0V,q05,q0n,hlt,decide_true,q00,if_true,qhh,q9Z,q0q,h,q01,q0o,hw]
theorem o44_2 (n:Nat) (hs:∀ e,FD (n+4) (F e) [.met "leazing/family.times" 2] []=some (0,[.d (il (kn e)),.d (il (un e))])) (l:List α) (hl:l.length≤60) (X0 X1 X3:D) (k:Nat→List Yr→Out) :
  q3p (RP (n+4)) k (enO X0 X1 (dEn F l) X3 2 []).2=k (enO X0 X1 (dEn F l) X3 3 (q06 [] (tmL kn un l))).1 (enO X0 X1 (dEn F l) X3 3 (q06 [] (tmL kn un l))).2:=by
 have h:q0p [L44_6 (RP (n+4)),L44_7 (RP (n+4)),L44_8 (RP (n+4))] M0 0 [.d X0,.d X1,.d (dEn F l),.d X3,.d (il 2),.d (dEn F l),.d (il l.length),.d (il 0)]=exT X0 X1 (dEn F l) X3 (il 2) (q06 [] (tmL kn un l)):=qgA n hs l hl X0 X1 (dEn F l) X3 (il 2)
 have hw:IntKind.i64.wrap ((2:Int)+1)=3:=by decide
 have hlt:(2:Int) < 4:=by decide
 simp only [enO,q3p,q03,q08,q05,q0n,hlt,decide_true,q00,if_true,qhg,q9Z,q0q,h]
 cases q06 [] (tmL kn un l) with
 | nil=>simp only [exT,q01,q03,q08,q0o,hw]
 | cons y r=>simp only [exT,q9d,q03,q08,q0P,q0O,q0F,q0V,q0o,hw]
theorem p44_2 (n:Nat) (hs:∀ e,FD (n+4) (F e) [.met "leazing/family.times" 2] []=some (0,[.d (il (kn e)),.d (il (un e))])) (l:List α) (hl:l.length≤60) (X0 X1 X3:D) (k:Nat→List Yr→Out) {acc:List Int} (hu:Up acc) (ha:acc.length≤1000) (hne:acc≠[]) :
  q3o (RP (n+4)) k (enO X0 X1 (dEn F l) X3 2 acc).2=k 2 (enO X0 X1 (dEn F l) X3 3 (q06 acc (tmL kn un l))).2:=by
 have h:q0p [qhZ (RP (n+4))] M0 0 [.n acc.length,.n acc.length,.d X0,.d X1,.d (dEn F l),.d X3,.d (il 2),.d (dEn F l),.d (il l.length),.d (il 0),.r (acc.map rI)]=some (0,[.n (q06 acc (tmL kn un l)).length,.n (q06 acc (tmL kn un l)).length,.d X0,.d X1,.d (dEn F l),.d X3,.d (il 2),.r ((q06 acc (tmL kn un l)).map rI)]):=qbT n hs l hl hu ha X0 X1 (dEn F l) X3 (il 2)
 have hw:IntKind.i64.wrap ((2:Int)+1)=3:=by decide
 have hlt:(2:Int) < 4:=by decide
 have hn:=q1u (tmL kn un l) hne
 rw [q2F _ _ _ _ _ hne,q2F _ _ _ _ _ hn]
 simp only [q3o,q03,q08,q0P,q0O,q0F,q0V,q05,q0n,hlt,decide_true,q00,if_true,qhg,q9Z,q0q,h,q01,q0o,hw]
theorem o44_3 (n:Nat) (hs:∀ e,FD (n+4) (F e) [.met "leazing/family.times" 2] []=some (0,[.d (il (kn e)),.d (il (un e))])) (l:List α) (hl:l.length≤60) (X0 X1 X2:D) (k:Nat→List Yr→Out) :
  q3p (RP (n+4)) k (enO X0 X1 X2 (dEn F l) 3 []).2=k (enO X0 X1 X2 (dEn F l) 4 (q06 [] (tmL kn un l))).1 (enO X0 X1 X2 (dEn F l) 4 (q06 [] (tmL kn un l))).2:=by
 have h:q0p [L44_9 (RP (n+4)),qi2 (RP (n+4)),qi1 (RP (n+4))] M0 0 [.d X0,.d X1,.d X2,.d (dEn F l),.d (il 3),.d (dEn F l),.d (il l.length),.d (il 0)]=exT X0 X1 X2 (dEn F l) (il 3) (q06 [] (tmL kn un l)):=qgA n hs l hl X0 X1 X2 (dEn F l) (il 3)
 have hw:IntKind.i64.wrap ((3:Int)+1)=4:=by decide
 have hlt:(3:Int) < 4:=by decide
 simp only [enO,q3p,q03,q08,q05,q0n,hlt,decide_true,q00,if_true,qhf,q9Z,q0q,h]
 cases q06 [] (tmL kn un l) with
 | nil=>simp only [exT,q01,q03,q08,q0o,hw]
 | cons y r=>simp only [exT,q9d,q03,q08,q0P,q0O,q0F,q0V,q0o,hw]
theorem p44_3 (n:Nat) (hs:∀ e,FD (n+4) (F e) [.met "leazing/family.times" 2] []=some (0,[.d (il (kn e)),.d (il (un e))])) (l:List α) (hl:l.length≤60) (X0 X1 X2:D) (k:Nat→List Yr→Out) {acc:List Int} (hu:Up acc) (ha:acc.length≤1000) (hne:acc≠[]) :
  q3o (RP (n+4)) k (enO X0 X1 X2 (dEn F l) 3 acc).2=k 2 (enO X0 X1 X2 (dEn F l) 4 (q06 acc (tmL kn un l))).2:=by
 have h:q0p [qhY (RP (n+4))] M0 0 [.n acc.length,.n acc.length,.d X0,.d X1,.d X2,.d (dEn F l),.d (il 3),.d (dEn F l),.d (il l.length),.d (il 0),.r (acc.map rI)]=some (0,[.n (q06 acc (tmL kn un l)).length,.n (q06 acc (tmL kn un l)).length,.d X0,.d X1,.d X2,.d (dEn F l),.d (il 3),.r ((q06 acc (tmL kn un l)).map rI)]):=qbT n hs l hl hu ha X0 X1 X2 (dEn F l) (il 3)
 have hw:IntKind.i64.wrap ((3:Int)+1)=4:=by decide
 have hlt:(3:Int) < 4:=by decide
 have hn:=q1u (tmL kn un l) hne
 rw [q2F _ _ _ _ _ hne,q2F _ _ _ _ _ hn]
 simp only [q3o,q03,q08,q0P,q0O,q0F,q0V,q05,q0n,hlt,decide_true,q00,if_true,qhf,q9Z,q0q,h,q01,q0o,hw]
end
def q37 (T0 T1 T2 T3:List Int) (i:Int):List Int:=if i=0 then T0++(T1++(T2++T3)) else if i=1 then T1++(T2++T3) else if i=2 then T2++T3 else if i=3 then T3 else []
def exG:List Int→Out
 | []=>some (0,[])
 | y::r=>some (2,[.n (y::r).length,.n (y::r).length,.r ((y::r).map rI)])
theorem exG_ne {l:List Int} (h:l≠[]):exG l=some (2,[.n l.length,.n l.length,.r (l.map rI)]):=by
 cases l with
 | nil=>exact absurd rfl h
 | cons _ _=>rfl
theorem q2k {α:Type} (kn un:α→Int):∀ l:List α,(tmL kn un l).length≤2*l.length
 | []=>by simp [tmL]
 | e::l=>by
  have h1:=qh7 (kn e) (un e)
  have h2:=q2k kn un l
  rw [q4d,List.length_append,List.length_cons];omega
set_option maxRecDepth 20000 in
theorem l44 (n:Nat) (a b c:List E9) (o:List E5) (ha:a.length≤60) (hb:b.length≤60) (hc:c.length≤60) (ho:o.length≤60) :
  q0p [q3p (RP (n+9)),qf9 (RP (n+9)),q3o (RP (n+9))] M0 0 [.d (q3P 200 a),.d (q3P 201 b),.d (q3P 202 c),.d (qcQ o),.d (il 0)]=exG (q06 [] (tmL E9.kn E9.un a++(tmL E9.kn E9.un b++(tmL E9.kn E9.un c++tmL E5.kn E5.un o)))):=by
 have t0:∀ e:E9,FD (n+5+4) (.ifc 200 true (r9 e)) [.met "leazing/family.times" 2] []=some (0,[.d (il e.kn),.d (il e.un)]):=tim200 (n+8)
 have t1:∀ e:E9,FD (n+5+4) (.ifc 201 true (r9 e)) [.met "leazing/family.times" 2] []=some (0,[.d (il e.kn),.d (il e.un)]):=tim201 (n+8)
 have t2:∀ e:E9,FD (n+5+4) (.ifc 202 true (r9 e)) [.met "leazing/family.times" 2] []=some (0,[.d (il e.kn),.d (il e.un)]):=tim202 (n+8)
 have t3:∀ e:E5,FD (n+5+4) (.ifc 203 true (r5 e)) [.met "leazing/family.times" 2] []=some (0,[.d (il e.kn),.d (il e.un)]):=tim203 (n+8)
 have la:=q2k E9.kn E9.un a
 have lb:=q2k E9.kn E9.un b
 have lc:=q2k E9.kn E9.un c
 have lo:=q2k E5.kn E5.un o
 refine q2A (σ:=Int×List Int) [q3p (RP (n+9)),qf9 (RP (n+9)),q3o (RP (n+9))] (fun s=>enO (q3P 200 a) (q3P 201 b) (q3P 202 c) (qcQ o) s.1 s.2) (fun s=>(4 - s.1).toNat) (fun s=>(s.1=0∨s.1=1∨s.1=2∨s.1=3∨s.1=4)∧Up s.2∧(s.2.length:Int)≤120*s.1)
  (fun s=>exG (q06 s.2 (q37 (tmL E9.kn E9.un a) (tmL E9.kn E9.un b) (tmL E9.kn E9.un c) (tmL E5.kn E5.un o) s.1))) ?_ M0 (0,[]) ⟨by simp,by simp,by simp⟩ (by unfold M0;simp)
 rintro ⟨i,acc⟩ k ⟨g1,g2,g3⟩ ih
 simp only at g1 g2 g3 ih ⊢
 have next:∀ (j:Int) (T:List Int),i+1=j→(j=1∨j=2∨j=3∨j=4)→T.length≤120→k (enO (q3P 200 a) (q3P 201 b) (q3P 202 c) (qcQ o) j (q06 acc T)).1 (enO (q3P 200 a) (q3P 201 b) (q3P 202 c) (qcQ o) j (q06 acc T)).2=exG (q06 (q06 acc T) (q37 (tmL E9.kn E9.un a) (tmL E9.kn E9.un b) (tmL E9.kn E9.un c) (tmL E5.kn E5.un o) j)):=fun j T h1 h2 h3=>by
  have hl:=q1g T acc
  exact ih (j,q06 acc T) ⟨by simp only;omega,q0R _ g2,by simp only;omega⟩ (by simp only;omega)
 by_cases hn:acc=[]
 ·subst hn
  refine ⟨q3p (RP (n+9)),rfl,?_⟩
  rcases g1 with rfl | rfl | rfl | rfl | rfl
  ·have:=next 1 (tmL E9.kn E9.un a) rfl (by omega) (by omega)
   rw [show q37 (tmL E9.kn E9.un a) (tmL E9.kn E9.un b) (tmL E9.kn E9.un c) (tmL E5.kn E5.un o) 0=tmL E9.kn E9.un a++q37 (tmL E9.kn E9.un a) (tmL E9.kn E9.un b) (tmL E9.kn E9.un c) (tmL E5.kn E5.un o) 1 from rfl,q0t,← this]
   exact o44_0 (n+5) t0 a ha (q3P 201 b) (q3P 202 c) (qcQ o) k
  ·have:=next 2 (tmL E9.kn E9.un b) rfl (by omega) (by omega)
   rw [show q37 (tmL E9.kn E9.un a) (tmL E9.kn E9.un b) (tmL E9.kn E9.un c) (tmL E5.kn E5.un o) 1=tmL E9.kn E9.un b++q37 (tmL E9.kn E9.un a) (tmL E9.kn E9.un b) (tmL E9.kn E9.un c) (tmL E5.kn E5.un o) 2 from rfl,q0t,← this]
   exact o44_1 (n+5) t1 b hb (q3P 200 a) (q3P 202 c) (qcQ o) k
  ·have:=next 3 (tmL E9.kn E9.un c) rfl (by omega) (by omega)
   rw [show q37 (tmL E9.kn E9.un a) (tmL E9.kn E9.un b) (tmL E9.kn E9.un c) (tmL E5.kn E5.un o) 2=tmL E9.kn E9.un c++q37 (tmL E9.kn E9.un a) (tmL E9.kn E9.un b) (tmL E9.kn E9.un c) (tmL E5.kn E5.un o) 3 from rfl,q0t,← this]
   exact o44_2 (n+5) t2 c hc (q3P 200 a) (q3P 201 b) (qcQ o) k
  ·have:=next 4 (tmL E5.kn E5.un o) rfl (by omega) (by omega)
   rw [show q06 (q06 [] (tmL E5.kn E5.un o)) (q37 (tmL E9.kn E9.un a) (tmL E9.kn E9.un b) (tmL E9.kn E9.un c) (tmL E5.kn E5.un o) 4)=q06 [] (tmL E5.kn E5.un o) from rfl] at this
   rw [show q37 (tmL E9.kn E9.un a) (tmL E9.kn E9.un b) (tmL E9.kn E9.un c) (tmL E5.kn E5.un o) 3=tmL E5.kn E5.un o from rfl,← this]
   exact o44_3 (n+5) t3 o ho (q3P 200 a) (q3P 201 b) (q3P 202 c) k
  ·simp [enO,q3p,q37,q06,exG]
 ·have ha2:acc.length≤1000:=by omega
  rw [q2F _ _ _ _ _ hn]
  refine ⟨q3o (RP (n+9)),rfl,?_⟩
  rw [←q2F _ _ _ _ _ hn]
  rcases g1 with rfl | rfl | rfl | rfl | rfl
  ·have:=next 1 (tmL E9.kn E9.un a) rfl (by omega) (by omega)
   rw [show q37 (tmL E9.kn E9.un a) (tmL E9.kn E9.un b) (tmL E9.kn E9.un c) (tmL E5.kn E5.un o) 0=tmL E9.kn E9.un a++q37 (tmL E9.kn E9.un a) (tmL E9.kn E9.un b) (tmL E9.kn E9.un c) (tmL E5.kn E5.un o) 1 from rfl,q0t,← this]
   refine (p44_0 (n+5) t0 a ha (q3P 201 b) (q3P 202 c) (qcQ o) k g2 ha2 hn).trans ?_
   simp only [q2F _ _ _ _ _ (q1u _ hn)];rfl
  ·have:=next 2 (tmL E9.kn E9.un b) rfl (by omega) (by omega)
   rw [show q37 (tmL E9.kn E9.un a) (tmL E9.kn E9.un b) (tmL E9.kn E9.un c) (tmL E5.kn E5.un o) 1=tmL E9.kn E9.un b++q37 (tmL E9.kn E9.un a) (tmL E9.kn E9.un b) (tmL E9.kn E9.un c) (tmL E5.kn E5.un o) 2 from rfl,q0t,← this]
   refine (p44_1 (n+5) t1 b hb (q3P 200 a) (q3P 202 c) (qcQ o) k g2 ha2 hn).trans ?_
   simp only [q2F _ _ _ _ _ (q1u _ hn)];rfl
  ·have:=next 3 (tmL E9.kn E9.un c) rfl (by omega) (by omega)
   rw [show q37 (tmL E9.kn E9.un a) (tmL E9.kn E9.un b) (tmL E9.kn E9.un c) (tmL E5.kn E5.un o) 2=tmL E9.kn E9.un c++q37 (tmL E9.kn E9.un a) (tmL E9.kn E9.un b) (tmL E9.kn E9.un c) (tmL E5.kn E5.un o) 3 from rfl,q0t,← this]
   refine (p44_2 (n+5) t2 c hc (q3P 200 a) (q3P 201 b) (qcQ o) k g2 ha2 hn).trans ?_
   simp only [q2F _ _ _ _ _ (q1u _ hn)];rfl
  ·have:=next 4 (tmL E5.kn E5.un o) rfl (by omega) (by omega)
   rw [show q06 (q06 acc (tmL E5.kn E5.un o)) (q37 (tmL E9.kn E9.un a) (tmL E9.kn E9.un b) (tmL E9.kn E9.un c) (tmL E5.kn E5.un o) 4)=q06 acc (tmL E5.kn E5.un o) from rfl] at this
   rw [show q37 (tmL E9.kn E9.un a) (tmL E9.kn E9.un b) (tmL E9.kn E9.un c) (tmL E5.kn E5.un o) 3=tmL E5.kn E5.un o from rfl,← this]
   refine (p44_3 (n+5) t3 o ho (q3P 200 a) (q3P 201 b) (q3P 202 c) k g2 ha2 hn).trans ?_
   simp only [q2F _ _ _ _ _ (q1u _ hn)];rfl
  ·rw [show q37 (tmL E9.kn E9.un a) (tmL E9.kn E9.un b) (tmL E9.kn E9.un c) (tmL E5.kn E5.un o) 4=[] from rfl,qcB,exG_ne hn,q2F _ _ _ _ _ hn]
   simp [q3o]
def q7S (a b c:List E9) (o:List E5):List Int:=q06 [] (tmL E9.kn E9.un a++(tmL E9.kn E9.un b++(tmL E9.kn E9.un c++tmL E5.kn E5.un o)))
theorem s44 (n:Nat) (a b c:Option (List E9)) (o:Option (List E5)) (ha:(a.getD []).length*72≤140737488351232) (hb:(b.getD []).length*72≤140737488351232) (hc:(c.getD []).length*72≤140737488351232) (ho:(o.getD []).length*40≤140737488351232) :
  FN (n+10) 44 [d9 a,d9 b,d9 c,d5 o]=if q0D (a.getD []) (b.getD []) (c.getD []) (o.getD [])=true then some (0,[.d (dI (nzO (q7S (a.getD []) (b.getD []) (c.getD []) (o.getD [])))),.d (il 0)]) else some (0,[.d (dI none),.d (il 34)]):=by
 rw [F44]
 simp only [G44,q0a,s56 n a b c o ha hb hc ho,q01,q03,q05,q12,q00,q0e,q1e]
 by_cases hok:q0D (a.getD []) (b.getD []) (c.getD []) (o.getD [])=true
 ·obtain ⟨l1,l2,l3,l4⟩:=q1y hok
  simp only [hok,if_true,ne_eq,not_true_eq_false,decide_false,Bool.false_eq_true,if_false,s105 (n+8) a b c o ha hb hc ho,q01,q03,q08,q0q,l44 n _ _ _ _ l1 l2 l3 l4,q7S]
  cases q06 [] (tmL E9.kn E9.un (a.getD [])++(tmL E9.kn E9.un (b.getD [])++(tmL E9.kn E9.un (c.getD [])++tmL E5.kn E5.un (o.getD [])))) with
  | nil=>rfl
  | cons y r=>simp [exG,nzO,dI,dSl,List.take_of_length_le]
 ·simp [hok];rfl
end Go.VE
namespace Go.VE
open Go.RowKit Go.Proofs
theorem s118 (n:Nat) (o:Option (List Int)) (kn un:Int) (hu:Up (o.getD [])) (hl:(o.getD []).length≤1000000) (h:0≤un):FN (n+2) 118 [dI o,il kn,il un]=some (0,[.d (dI (some (q06 (o.getD []) (tm kn un))))]):=by
 rw [F118]
 have h1:=s92 n o kn (by omega) hu
 have hl1:=q31 kn (o.getD [])
 have h2:=s92 n (some (ins kn (o.getD []))) un (by simp only [Option.getD_some];omega) (q35 kn hu)
 simp only [Option.getD_some] at h2
 simp only [G118,q0a,h1,q01,q03,q05,q3U,q00,q0e,h2,tm,decide_eq_true_eq]
 by_cases hz:un=0
 ·rw [if_neg (by omega),if_pos hz];rfl
 ·rw [if_pos (by omega),if_neg hz];rfl
end Go.VE
namespace Go.VE
open Go.RowKit Go.Proofs
def qhO (x y:Int):Int:=if x < y then -1 else if y < x then 1 else 0
theorem s116 (n:Nat) (x y:Int):FN (n+2) 116 [il x,il y]=some (0,[.d (il (qhO x y))]):=by
 rw [F116]
 simp only [G116,q0a,s187,q01,q03,q00,Bool.false_eq_true,if_false,q0n,q3U,q05,q0e,qhO,decide_eq_true_eq]
 by_cases h1:x < y
 ·rw [if_pos h1,if_pos h1]
 ·rw [if_neg h1,if_neg h1]
  by_cases h2:y < x
  ·rw [if_pos h2,if_pos h2]
  ·rw [if_neg h2,if_neg h2]
theorem s115 (n:Nat) (e:E9) (y:Int):FN (n+3) 115 (r9 e++[il y])=some (0,[.d (il (qhO e.src y))]):=by
 rw [r9]
 simp only [List.cons_append,List.nil_append]
 rw [F115]
 simp only [G115,q0a,s116,q01,q03,q0e]
theorem d115 (n:Nat) (e:E9) (y:Int):FD (n+3) (.fn 115 []) [.agg 9,.one] (r9 e++[il y])=some (0,[.d (il (qhO e.src y))]) :=
 q3F [.agg 9,.one] [.agg (r9 e),.one (il y)] (by decide) rfl (by kernel_rfl) rfl (by kernel_rfl) (s115 n e y)
abbrev q25 (l:List E9):List Int:=l.map (·.src)
set_option maxRecDepth 20000 in
theorem l114 (n:Nat) (o:Option (List E9)) (x:Int) (hl:(o.getD []).length≤4611686018427387904) (hu:Up (q25 (o.getD []))) :
  q0p [q9V (RP (n+3))] M0 0 [.d (d9 o),.d (il x),.d (.fn 115 []),.d (il (o.getD []).length),.d (il 0),.d (il (o.getD []).length)]=some (0,[.d (d9 o),.d (il x),.d (.fn 115 []),.d (il (o.getD []).length),.d (il (lb x (q25 (o.getD [])):Nat))]):=by
 have hle:=q7o x (q25 (o.getD []))
 rw [List.length_map] at hle
 have:=q2A (σ:=Nat×Nat) [q9V (RP (n+3))] (fun s=>(0,[.d (d9 o),.d (il x),.d (.fn 115 []),.d (il (o.getD []).length),.d (il s.1),.d (il s.2)])) (fun s=>s.2 - s.1) (fun s=>s.1≤lb x (q25 (o.getD []))∧lb x (q25 (o.getD []))≤s.2∧s.2≤(o.getD []).length)
  (fun _=>some (0,[.d (d9 o),.d (il x),.d (.fn 115 []),.d (il (o.getD []).length),.d (il (lb x (q25 (o.getD [])):Nat))])) ?_ M0 (0,(o.getD []).length) ⟨Nat.zero_le _,hle,Nat.le_refl _⟩ (by have:=q2J hl;unfold M0;simp only;omega)
 ·exact this
 ·rintro ⟨i,j⟩ k ⟨h1,h2,h3⟩ ih
  simp only at h1 h2 h3 ih ⊢
  refine ⟨q9V (RP (n+3)),rfl,?_⟩
  simp only [q9V,q03,q08,q0n,q00,q0o]
  by_cases hij:i < j
  ·rw [if_pos (by simp;omega),q0l (by omega) (by omega),r_mid i j (by omega)]
   have hh:(i+j) / 2 < (o.getD []).length:=by omega
   obtain ⟨e,he⟩:∃ e,(o.getD [])[(i+j) / 2]?=some e:=⟨_,List.getElem?_eq_getElem hh⟩
   have hc:(q25 (o.getD []))[(i+j) / 2]?=some e.src:=by rw [List.getElem?_map,he];rfl
   have hd:=d115 n e x
   simp only [r9,List.cons_append,List.nil_append] at hd
   rw [q5t he]
   simp only [r9,q0c,q0B,q1P,hd,q01,q03,q05,q0n,q00,decide_eq_true_eq,q0o]
   by_cases hx:e.src < x
   ·rw [if_pos (by simp [qhO,hx])]
    have hlb:(i+j) / 2 < lb x (q25 (o.getD [])):=by
     refine Nat.lt_of_not_le fun hle=>?_
     have:=qiF x hu hle hc
     omega
    rw [show IntKind.i64.wrap ((((i+j) / 2:Nat):Int)+1)=(((i+j) / 2+1:Nat):Int) by rw [q0l (by omega) (by omega)];simp]
    exact ih ((i+j) / 2+1,j) ⟨hlb,h2,h3⟩ (by simp only;omega)
   ·rw [if_neg (by unfold qhO;rw [if_neg hx];split<;>omega)]
    have hlb:lb x (q25 (o.getD []))≤(i+j) / 2:=by
     refine Nat.le_of_not_lt fun hlt=>?_
     have:=qiE x hlt hc
     omega
    exact ih (i,(i+j) / 2) ⟨h1,hlb,by omega⟩ (by simp only;omega)
  ·rw [if_neg (by simp;omega),q0e]
   rw [show i=lb x (q25 (o.getD [])) by omega]
def qgl (x:Int) (l:List E9):Bool:=decide ((q25 l)[lb x (q25 l)]?=some x)
theorem s114 (n:Nat) (o:Option (List E9)) (x:Int) (hl:(o.getD []).length≤4611686018427387904) (hu:Up (q25 (o.getD []))):FN (n+4) 114 [d9 o,il x,.fn 115 []]=some (0,[.d (il (lb x (q25 (o.getD [])):Nat)),.d (bl (qgl x (o.getD [])))]):=by
 rw [F114]
 simp only [G114,q65,q05,q0q,l114 n o x hl hu,q01,q03,q08,q0n,q00,decide_eq_true_eq]
 by_cases h:lb x (q25 (o.getD [])) < (o.getD []).length
 ·obtain ⟨e,he⟩:∃ e,(o.getD [])[lb x (q25 (o.getD []))]?=some e:=⟨_,List.getElem?_eq_getElem h⟩
  have hc:(q25 (o.getD []))[lb x (q25 (o.getD []))]?=some e.src:=by rw [List.getElem?_map,he];rfl
  have hd:=d115 n e x
  simp only [r9,List.cons_append,List.nil_append] at hd
  rw [if_pos (by omega),q5t he]
  simp only [r9,q0c,q0B,q1P,hd,q01,q03,q0S,q0e,qgl,hc,Option.some.injEq]
  have:decide (qhO e.src x=0)=decide (e.src=x):=by
   rw [Bool.eq_iff_iff,decide_eq_true_iff,decide_eq_true_iff]
   unfold qhO
   split
   ·omega
   ·split<;>omega
  rw [this]
 ·rw [if_neg (by omega),q15,q0e]
  have:(q25 (o.getD []))[lb x (q25 (o.getD []))]?=none:=by rw [List.getElem?_eq_none_iff,List.length_map];omega
  simp [qgl,this]
set_option maxRecDepth 20000 in
theorem l53 (n:Nat) (o:Option (List E9)) (e:E9) (hl:(o.getD []).length≤1000000) (A C O:D) :
  q0p [qf8 (RP n)] M0 0 [.d (il e.src),.d (il e.a),.d (il e.b),.d (il e.f1),.d (il e.f2),.d (il e.t1),.d (il e.t2),.d (il e.kn),.d (il e.un),.d (il 0),.d A,.d (d9 o),.d C,.d O] =
   some (0,[.d (il e.src),.d (il e.a),.d (il e.b),.d (il e.f1),.d (il e.f2),.d (il e.t1),.d (il e.t2),.d (il e.kn),.d (il e.un),.d (il (lb e.src (q25 (o.getD [])):Nat)),.d A,.d (d9 o),.d C,.d O]):=by
 have hle:=q7o e.src (q25 (o.getD []))
 rw [List.length_map] at hle
 have:=q0u (β:=Unit) (o.getD []) (by omega) (qf8 (RP n)) (fun i _=>[.d (il e.src),.d (il e.a),.d (il e.b),.d (il e.f1),.d (il e.f2),.d (il e.t1),.d (il e.t2),.d (il e.kn),.d (il e.un),.d (il i),.d A,.d (d9 o),.d C,.d O]) (fun _ _=>True)
  (fun i r _=>some (0,[.d (il e.src),.d (il e.a),.d (il e.b),.d (il e.f1),.d (il e.f2),.d (il e.t1),.d (il e.t2),.d (il e.kn),.d (il e.un),.d (il ((i+lb e.src (q25 r):Nat):Int)),.d A,.d (d9 o),.d C,.d O]))
  (fun _ k _=>by simp [qf8,q65,lb]) ?_ M0 () trivial (by unfold M0;omega)
 ·simpa using this
 ·intro i c r _ k hi hd hlt hw _ ih
  have ih':=ih () trivial
  have hlt':(i:Int) < ((o.getD []).length:Int):=by omega
  simp only [qf8,q03,q08,q65,q0n,q00,hlt',decide_true,if_true,q5t hi,r9,q0c,q05,q0o,hw,q0e,decide_eq_true_eq,List.map_cons,lb]
  by_cases h:c.src < e.src
  ·rw [if_pos h,if_pos h]
   rw [show i+(lb e.src (q25 r)+1)=i+1+lb e.src (q25 r) by omega]
   exact ih'
  ·rw [if_neg h,if_neg h];rfl
end Go.VE
namespace Go.VE
open Go.RowKit Go.Proofs
theorem ltO_tr {q:Option Int} {y x:Int} (h1:ltO q y=true) (h2:ltO (some y) x=true):ltO q x=true:=by
 cases q with
 | none=>rfl
 | some z =>
  simp only [ltO,decide_eq_true_eq] at h1 h2 ⊢
  omega
theorem qht {ok:E9→Bool}:∀ {l:List E9} {q:Option Int},okL ok (·.src) q l=true→Up (q25 l)∧∀ x∈q25 l,ltO q x=true
 | [],_,_=>⟨by simp [Up],by simp⟩
 | e::l,q,h=>by
  rw [okL,Bool.and_eq_true,Bool.and_eq_true] at h
  obtain ⟨h1,h2⟩:=qht h.2
  refine ⟨?_,fun x hx=>?_⟩
  ·rw [q25,List.map_cons,Up,List.pairwise_cons]
   exact ⟨fun x hx=>by simpa [ltO] using h2 x hx,h1⟩
  ·rw [q25,List.map_cons] at hx
   rcases List.mem_cons.1 hx with rfl | hx
   ·exact h.1.2
   ·exact ltO_tr h.1.2 (h2 x hx)
theorem qfz {a b c:List E9} {o:List E5} (h:q0D a b c o=true):Up (q25 b):=by
 unfold q0D at h
 simp only [Bool.and_eq_true] at h
 exact (qht h.1.1.2).1
def q7V (ok:Bool) (e:E9) (b:List E9):Int:=if ok=false then 34 else if q1z e then (if qgl e.src b=true then 31 else if b.length=60 then 2 else 0) else 31
def qfq (e:E9) (b:List E9):List E9:=b.take (lb e.src (q25 b))++e::b.drop (lb e.src (q25 b))
def qa1 (E:Int) (e:E9) (a b c:Option (List E9)) (o:Option (List E5)):Out:=if E=0 then some (0,[.d (d9 a),.d (d9 (some (qfq e (b.getD [])))),.d (d9 c),.d (d5 o),.d (il 0)]) else some (0,[.d (d9 none),.d (d9 none),.d (d9 none),.d (d5 none),.d (il E)])
section
variable {Fn:Nat→List D→Out} {FnD:D→List Sh→List D→Out} {m:Nat}
theorem r_insE (z:Nat) (l:List E9) (e:E9) (k:Rr→Out) (h:z≤l.length):(q04 Fn FnD m).ins (il z) (l.map r9) [r9 e] k=k ((l.take z++e::l.drop z).map r9):=by
 rw [qfS _ _ _ _ (by simpa using h)]
 simp
theorem r_nil9 (k:Out):(q04 Fn FnD m).nilD (d9 none) k=k:=rfl
theorem qhj (l:List E9) (e:E9) (k:Rr→Out):(q04 Fn FnD m).ins (il (lb e.src (q25 l))) (l.map r9) [r9 e] k=k ((qfq e l).map r9):=by
 have hle:=q7o e.src (q25 l)
 rw [List.length_map] at hle
 exact r_insE _ _ _ _ hle
theorem qis (e:E9) (k:Rr→Out):(q04 Fn FnD m).ins (il (lb e.src (q25 []))) [] [r9 e] k=k ((qfq e []).map r9):=qhj [] e k
end
theorem q3E (e:E9) (b:List E9):(qfq e b).length=b.length+1:=by
 have:=q7o e.src (q25 b)
 rw [List.length_map] at this
 unfold qfq;simp;omega
theorem q5j (l:List E9) (n:Nat) (h:n=l.length):(.sl 9 ((l.map r9).take n):D)=d9 (some l):=by rw [h,q8V];rfl
theorem qgz (l:List E5):(.sl 5 ((l.map r5).take l.length):D)=d5 (some l):=by rw [List.take_of_length_le (by simp)];rfl
set_option maxRecDepth 20000 in
set_option maxHeartbeats 2000000 in
theorem s52 (n:Nat) (e:E9) (a b c:Option (List E9)) (o:Option (List E5)) (ha:(a.getD []).length*72≤140737488351232) (hb:(b.getD []).length*72≤140737488351232) (hc:(c.getD []).length*72≤140737488351232) (ho:(o.getD []).length*40≤140737488351232) :
  FN (n+12) 52 [d9 a,d9 b,d9 c,d5 o,il e.src,il e.a,il e.b,il e.f1,il e.f2,il e.t1,il e.t2,il e.kn,il e.un]=qa1 (q7V (q0D (a.getD []) (b.getD []) (c.getD []) (o.getD [])) e (b.getD [])) e a b c o:=by
 rw [F52]
 have h56:=s56 (n+2) a b c o ha hb hc ho
 have h59:=s59 (n+7) e
 simp only [r9] at h59
 simp only [G52,q0a,h56,q01,q03,q05,q1e,q12,q00,q4E,h59]
 cases hok:q0D (a.getD []) (b.getD []) (c.getD []) (o.getD []) with
 | false=>simp [q7V,qa1];exact ⟨rfl,rfl⟩
 | true =>
  have h114:=s114 (n+7) b e.src (by omega) (qfz hok)
  have hle:=q7o e.src (q25 (b.getD []))
  rw [List.length_map] at hle
  have h60:=q1y hok
  simp only [if_true,ne_eq,not_true_eq_false,decide_false,Bool.false_eq_true,if_false,h114,q01,q03,q08,q65,q0S,decide_eq_true_eq]
  by_cases he:q1z e
  ·simp only [he,if_true,not_true_eq_false,if_false]
   cases hs:qgl e.src (b.getD []) with
   | true=>simp [q7V,qa1,he,hs];exact ⟨rfl,rfl⟩
   | false =>
    simp only [q00,Bool.false_eq_true,if_false,decide_eq_true_eq]
    by_cases hl:(b.getD []).length=60
    ·rw [if_pos (by omega)];simp [q7V,qa1,he,hs,hl];exact ⟨rfl,rfl⟩
    ·rw [if_neg (by omega)]
     have hE:q7V true e (b.getD [])=0:=by simp [q7V,he,hs,hl]
     have hz:0≤(qfq e (b.getD [])).length:=Nat.zero_le _
     rw [hE,qa1,if_pos rfl,s96 (n+9) a b c o ha hb hc ho]
     have hr:([[il e.src,il e.a,il e.b,il e.f1,il e.f2,il e.t1,il e.t2,il e.kn,il e.un]]:Rr)=[r9 e]:=rfl
     cases a<;>cases b<;>cases c<;>cases o<;>simp only [Option.getD_none,Option.getD_some] at hle h60 hl
     all_goals
      simp only [Option.isSome_none,Option.isSome_some,ix96,↓q01,↓q3a,lv9,lv5]
      simp only [q03,q08,q0F,q0V,q1i,q0K,q0Q,List.length_cons,List.length_nil,q0T,if_true,q0M,List.take_succ_cons,List.take_zero,q1O,List.length_map,q19,q1Q,hr]
      simp only [r_nil9,Option.getD_none,Option.getD_some,qhj,qis,q0e,q1k,List.length_map,q3E,Nat.zero_add,List.length_nil,if_true,qgz,q8V]
      rw [if_pos (by omega)]
      first | (rw [q5j _ _ (q3E e _).symm];rfl) | rw [q5j _ _ (q3E e _).symm] | (rw [q5j _ 1 (q3E e []).symm];rfl) | rw [q5j _ 1 (q3E e []).symm]
  ·simp only [he,if_false]
   simp [q7V,qa1,he];exact ⟨rfl,rfl⟩
end Go.VE
namespace Go.VE
open Go.RowKit Go.Proofs
section
variable {Fn:Nat→List D→Out} {FnD:D→List Sh→List D→Out} {m:Nat}
theorem qhM (o:Option (List E9)) (z:Nat) (k:D→Out) (h:z≤(o.getD []).length):(q04 Fn FnD m).cutD 9 (d9 o) none (some (il z)) k=k (d9 (o.map (·.take z))):=by
 cases o with
 | none =>
  have:z=0:=by simpa using h
  subst this;rfl
 | some l =>
  show (q04 Fn FnD m).cutD 9 (.sl 9 (l.map r9)) none (some (il z)) k=_
  rw [qdE 9 (l.map r9) z k ⟨by omega,by simpa using h⟩,Int.toNat_natCast,← List.map_take];rfl
theorem cut9lo (o:Option (List E9)) (z:Nat) (k:D→Out) (h:z≤(o.getD []).length):(q04 Fn FnD m).cutD 9 (d9 o) (some (il z)) none k=k (d9 (o.map (·.drop z))):=by
 cases o with
 | none =>
  have:z=0:=by simpa using h
  subst this;rfl
 | some l =>
  show (q04 Fn FnD m).cutD 9 (.sl 9 (l.map r9)) (some (il z)) none k=_
  rw [qdD 9 (l.map r9) z k ⟨by omega,by simpa using h⟩,Int.toNat_natCast,← List.map_drop];rfl
theorem q58 (o:Option (List E9)) (z:Nat):((o.map (·.take z)).getD []:List E9)=(o.getD []).take z:=by cases o<;>simp
theorem q8j (o:Option (List E9)) (z:Nat):((o.map (·.drop z)).getD []:List E9)=(o.getD []).drop z:=by cases o<;>simp
end
theorem blk53 (n:Nat) (b:Option (List E9)) (e:E9) (hle:lb e.src (q25 (b.getD []))≤(b.getD []).length) (h6:(b.getD []).length≤60) (A C O:D) :
  (if ((b.getD []).take (lb e.src (q25 (b.getD [])))).length*72≤140737488355328∧((b.getD []).take (lb e.src (q25 (b.getD [])))).length≤9223372036854775807 then
   if (((b.getD []).take (lb e.src (q25 (b.getD [])))).length+1)*72≤140737488355328∧((b.getD []).take (lb e.src (q25 (b.getD [])))).length+1≤9223372036854775807 then
    (RP (n+5)).cutD 9 (d9 b) (some (il (lb e.src (q25 (b.getD [])):Nat))) none fun x13=>(RP (n+5)).rowsD 9 x13 fun r14 =>
     if (((b.getD []).take (lb e.src (q25 (b.getD [])))).length+1+List.length r14)*72≤140737488355328∧((b.getD []).take (lb e.src (q25 (b.getD [])))).length+1+List.length r14≤9223372036854775807 then
      (RP (n+5)).out 0 [.d A,.d ((RP (n+5)).slD 9 (List.take (((b.getD []).take (lb e.src (q25 (b.getD [])))).length+1+List.length r14) (((b.getD []).take (lb e.src (q25 (b.getD [])))).map r9++[r9 e]++r14))),.d C,.d O,.d (il 0)]
     else none
   else none
  else none)=some (0,[.d A,.d (d9 (some (qfq e (b.getD [])))),.d C,.d O,.d (il 0)]):=by
 have h1:((b.getD []).take (lb e.src (q25 (b.getD [])))).length=lb e.src (q25 (b.getD [])):=by rw [List.length_take];omega
 have hn:=q3E e (b.getD [])
 rw [if_pos (by omega),if_pos (by omega),cut9lo b _ _ hle,qii,q8j]
 simp only [List.length_map,List.length_drop,h1]
 rw [if_pos (by omega),q0e,q1k,show ((b.getD []).take (lb e.src (q25 (b.getD [])))).map r9++[r9 e]++((b.getD []).drop (lb e.src (q25 (b.getD [])))).map r9=(qfq e (b.getD [])).map r9 by simp [qfq],q5j _ _ (by omega)]
set_option maxRecDepth 20000 in
theorem s53 (n:Nat) (e:E9) (a b c:Option (List E9)) (o:Option (List E5)) :
  FN (n+6) 53 [d9 a,d9 b,d9 c,d5 o,il e.src,il e.a,il e.b,il e.f1,il e.f2,il e.t1,il e.t2,il e.kn,il e.un]=qa1 (q7V (q0D (a.getD []) (b.getD []) (c.getD []) (o.getD [])) e (b.getD [])) e a b c o:=by
 rw [F53]
 have h60:=s60 (n+1) e
 simp only [r9] at h60
 simp only [G53,q0a,s24 n a b c o,q01,q03,q05,q1e,q12,q00]
 cases hok:q0D (a.getD []) (b.getD []) (c.getD []) (o.getD []) with
 | false=>simp [q7V,qa1];exact ⟨rfl,rfl⟩
 | true =>
  have hle:=q7o e.src (q25 (b.getD []))
  rw [List.length_map] at hle
  have h6:=q1y hok
  simp only [if_true,ne_eq,not_true_eq_false,decide_false,Bool.false_eq_true,if_false,q0q,l53 (n+5) b e (by omega),q01,q03,q08,h60,q65,q0n,q0S]
  by_cases he:q1z e
  ·simp only [he,if_true,q12,q00,ne_eq,not_true_eq_false,decide_false,Bool.false_eq_true,if_false,decide_eq_true_eq]
   have hr:([[il e.src,il e.a,il e.b,il e.f1,il e.f2,il e.t1,il e.t2,il e.kn,il e.un]]:Rr)=[r9 e]:=rfl
   by_cases hlt:lb e.src (q25 (b.getD [])) < (b.getD []).length
   ·obtain ⟨c',hc'⟩:∃ c',(b.getD [])[lb e.src (q25 (b.getD []))]?=some c':=⟨_,List.getElem?_eq_getElem hlt⟩
    have hsv:qgl e.src (b.getD [])=decide (c'.src=e.src):=by simp [qgl,List.getElem?_map,hc']
    rw [if_pos (by omega),q5t hc']
    simp only [r9,q0c,q00,q0S,decide_eq_true_eq]
    by_cases hq:c'.src=e.src
    ·rw [if_pos hq];simp [q7V,qa1,he,hsv,hq];exact ⟨rfl,rfl⟩
    ·rw [if_neg hq]
     by_cases hl:(b.getD []).length=60
     ·rw [if_pos (by omega)];simp [q7V,qa1,he,hsv,hq,hl];exact ⟨rfl,rfl⟩
     ·rw [if_neg (by omega),show q7V true e (b.getD [])=0 by simp [q7V,he,hsv,hq,hl],qa1,if_pos rfl]
      rw [qhM b _ _ hle,qii]
      simp only [q58,q1i,q0K,q0Q,q3V,List.nil_append,List.length_nil,List.length_cons,Nat.zero_add,q1Q,q0T,if_true,q0M,List.take_succ_cons,List.take_zero,hr,q19,List.length_map,List.length_append]
      exact blk53 n b e hle h6.2.1 (d9 a) (d9 c) (d5 o)
   ·have hsv:qgl e.src (b.getD [])=false:=by
     have:(b.getD [])[lb e.src (q25 (b.getD []))]?=none:=List.getElem?_eq_none_iff.2 (by omega)
     simp [qgl,List.getElem?_map,this]
    rw [if_neg (by omega)]
    by_cases hl:(b.getD []).length=60
    ·rw [if_pos (by omega)];simp [q7V,qa1,he,hsv,hl];exact ⟨rfl,rfl⟩
    ·rw [if_neg (by omega),show q7V true e (b.getD [])=0 by simp [q7V,he,hsv,hl],qa1,if_pos rfl]
     rw [qhM b _ _ hle,qii]
     simp only [q58,q1i,q0K,q0Q,q3V,List.nil_append,List.length_nil,List.length_cons,Nat.zero_add,q1Q,q0T,if_true,q0M,List.take_succ_cons,List.take_zero,hr,q19,List.length_map,List.length_append]
     exact blk53 n b e hle h6.2.1 (d9 a) (d9 c) (d5 o)
  ·simp only [he,if_false]
   simp [q7V,qa1,he];exact ⟨rfl,rfl⟩
end Go.VE
namespace Go.VE
open Go.RowKit Go.Proofs
section
variable {α:Type} {kn un:α→Int} {l:List α}
theorem qbR (hl:l.length≤1000) (body:(Nat→List Yr→Out)→List Yr→Out) (st:Nat→List Int→List Yr) (ex:List Int→Out)
  (h0:∀ acc k,body k (st l.length acc)=ex acc)
  (h1:∀ (i:Nat) c acc (k:Nat→List Yr→Out),l[i]?=some c→(i:Int) < (l.length:Int)→IntKind.i64.wrap ((i:Int)+1)=((i+1:Nat):Int)→Up acc→acc.length≤1000000→body k (st i acc)=k 0 (st (i+1) (q06 acc (tm (kn c) (un c)))))
  (acc:List Int) (hu:Up acc) (hN:acc.length≤10000):q0p [body] M0 0 (st 0 acc)=ex (q06 acc (tmL kn un l)):=by
 refine q0u l (by omega) body st (fun i acc=>Up acc∧acc.length≤10000+2*i) (fun _ r acc=>ex (q06 acc (tmL kn un r))) (fun b k _=>h0 b k) ?_ M0 acc ⟨hu,by omega⟩ (by unfold M0;omega)
 intro i c r acc k hi hd hlt hw hI ih
 obtain ⟨g1,g2⟩:=hI
 rw [h1 i c acc k hi (by omega) (by rw [hw];simp) g1 (by omega)]
 have:=qbB (kn c) (un c) acc
 rw [ih (q06 acc (tm (kn c) (un c))) ⟨q0R _ g1,by omega⟩,q4d,q0t]
theorem qbS (hl:l.length≤1000) (b0 b1:(Nat→List Yr→Out)→List Yr→Out) (z:Nat→List Yr) (st:Nat→List Int→List Yr) (e0:Out) (ex:List Int→Out)
  (hz0:l=[]→∀ k:Nat→List Yr→Out,b0 k (z 0)=e0)
  (h0:∀ acc k,b1 k (st l.length acc)=ex acc)
  (hz:∀ c (k:Nat→List Yr→Out),l[0]?=some c→(0:Int) < (l.length:Int)→b0 k (z 0)=k 1 (st 1 (q06 [] (tm (kn c) (un c)))))
  (h1:∀ (i:Nat) c acc (k:Nat→List Yr→Out),l[i]?=some c→(i:Int) < (l.length:Int)→IntKind.i64.wrap ((i:Int)+1)=((i+1:Nat):Int)→Up acc→acc.length≤1000000→b1 k (st i acc)=k 1 (st (i+1) (q06 acc (tm (kn c) (un c))))) :
  q0p [b0,b1] M0 0 (z 0)=if l=[] then e0 else ex (q06 [] (tmL kn un l)):=by
 by_cases hne:l=[]
 ·rw [if_pos hne]
  exact hz0 hne _
 rw [if_neg hne]
 refine q2A (σ:=Nat×List Int) [b0,b1] (enI z st) (fun s=>l.length - s.1) (fun s=>s.1≤l.length∧Up s.2∧s.2.length≤2*s.1∧(s.2=[]→s.1=0)) (fun s=>ex (q06 s.2 (tmL kn un (l.drop s.1)))) ?_ M0 (0,[]) ⟨by simp,by simp [Up],by simp,fun _=>rfl⟩ (by unfold M0;simp only;omega)
 rintro ⟨i,acc⟩ k ⟨g1,g2,g3,g4⟩ ih
 simp only at g1 g2 g3 g4 ih ⊢
 by_cases h:i < l.length
 ·have hd:=List.drop_eq_getElem_cons h
  have hi:l[i]?=some l[i]:=List.getElem?_eq_getElem h
  have ih':=ih (i+1,q06 acc (tm (kn l[i]) (un l[i]))) ⟨by simp only;omega,q0R _ g2,by have:=qbB (kn l[i]) (un l[i]) acc;simp only;omega,fun h=>absurd h (qdi _ _ _)⟩ (by simp only;omega)
  rw [hd,q4d,q0t]
  rw [q7Q _ _ (qdi _ _ _)] at ih'
  by_cases ha:acc=[]
  ·subst ha
   have hi0:=g4 rfl
   subst hi0
   exact ⟨b0,rfl,by rw [show (enI z st (0,[])).2=z 0 from rfl,hz _ k hi (by omega)];exact ih'⟩
  ·rw [q7Q _ _ ha]
   exact ⟨b1,rfl,by simp only;rw [h1 i _ acc k hi (by omega) (by rw [q0l (by omega) (by omega)];simp) g2 (by omega)];exact ih'⟩
 ·have hil:i=l.length:=by omega
  subst hil
  have ha:acc≠[]:=fun h=>hne (List.eq_nil_of_length_eq_zero (g4 h))
  rw [q7Q _ _ ha]
  exact ⟨b1,rfl,by simp only [List.drop_length];exact h0 acc k⟩
end
section
variable (n:Nat) (x0 x1 x2 x3:D) (q:Option (List E9)) (o:Option (List E5)) (acc:List Int) (hu:Up acc) (hN:acc.length≤10000)
theorem il0:il ((0:Nat):Int)=il 0:=rfl
include hu hN in
set_option maxRecDepth 20000 in
theorem qiH (hl:(q.getD []).length≤1000) (hun:∀ e∈q.getD [],0≤e.un):q0p [qaE (RP (n+2))] M0 0 [.d x0,.d x1,.d x2,.d x3,.d (dI (some acc)),.d (d9 q),.d (il (q.getD []).length),.d (il 0)]=some (0,[.d x0,.d x1,.d x2,.d x3,.d (dI (some (q06 acc (tmL E9.kn E9.un (q.getD [])))))]):=by
 have:=qbR (l:=q.getD []) (kn:=E9.kn) (un:=E9.un) hl (qaE (RP (n+2))) (fun i acc=>[.d x0,.d x1,.d x2,.d x3,.d (dI (some acc)),.d (d9 q),.d (il (q.getD []).length),.d (il i)]) (fun acc=>some (0,[.d x0,.d x1,.d x2,.d x3,.d (dI (some acc))])) ?_ ?_ acc hu hN
 ·exact this
 ·intro acc k
  simp [qaE]
 ·intro i c acc k hi hlt hw hu hN
  have h:=s118 n (some acc) c.kn c.un hu hN (hun c (List.mem_of_getElem? hi))
  simp only [Option.getD_some] at h
  simp only [qaE,q03,q08,q0n,q00,hlt,decide_true,if_true,q5t hi,r9,q0c,q0B,q0a,h,q01,q05,q0o,hw]
include hu hN in
set_option maxRecDepth 20000 in
theorem qiI (hl:(o.getD []).length≤1000) (hun:∀ e∈o.getD [],0≤e.un):q0p [qaF (RP (n+2))] M0 0 [.d (dI (some acc)),.d (d5 o),.d (il (o.getD []).length),.d (il 0)]=some (0,[.d (dI (some (q06 acc (tmL E5.kn E5.un (o.getD [])))))]):=by
 have:=qbR (l:=o.getD []) (kn:=E5.kn) (un:=E5.un) hl (qaF (RP (n+2))) (fun i acc=>[.d (dI (some acc)),.d (d5 o),.d (il (o.getD []).length),.d (il i)]) (fun acc=>some (0,[.d (dI (some acc))])) ?_ ?_ acc hu hN
 ·exact this
 ·intro acc k
  simp [qaF]
 ·intro i c acc k hi hlt hw hu hN
  have h:=s118 n (some acc) c.kn c.un hu hN (hun c (List.mem_of_getElem? hi))
  simp only [Option.getD_some] at h
  simp only [qaF,q03,q08,q0n,q00,hlt,decide_true,if_true,qfG hi,r5,q0c,q0B,q0a,h,q01,q05,q0o,hw]
set_option maxRecDepth 20000 in
theorem qiJ (hl:(q.getD []).length≤1000) (hun:∀ e∈q.getD [],0≤e.un):q0p [qaH (RP (n+2)),qaG (RP (n+2))] M0 0 [.d x0,.d x1,.d x2,.d x3,.d (d9 q),.d (il (q.getD []).length),.d (il 0)]=if q.getD []=[] then some (0,[.d x0,.d x1,.d x2,.d x3]) else some (1,[.d x0,.d x1,.d x2,.d x3,.d (dI (some (q06 [] (tmL E9.kn E9.un (q.getD [])))))]):=by
 have:=qbS (l:=q.getD []) (kn:=E9.kn) (un:=E9.un) hl (qaH (RP (n+2))) (qaG (RP (n+2))) (fun i=>[.d x0,.d x1,.d x2,.d x3,.d (d9 q),.d (il (q.getD []).length),.d (il i)]) (fun i acc=>[.d x0,.d x1,.d x2,.d x3,.d (dI (some acc)),.d (d9 q),.d (il (q.getD []).length),.d (il i)]) (some (0,[.d x0,.d x1,.d x2,.d x3])) (fun acc=>some (1,[.d x0,.d x1,.d x2,.d x3,.d (dI (some acc))])) ?_ ?_ ?_ ?_
 ·exact this
 ·intro h k
  simp [qaH,h]
 ·intro acc k
  simp [qaG]
 ·intro c k hi hlt
  have h:=s118 n none c.kn c.un (by simp [Up]) (by simp) (hun c (List.mem_of_getElem? hi))
  have h:FN (n+2) 118 [.lit (.slice none 0 0),il c.kn,il c.un]=_:=h
  have hr:∀ k,(RP (n+2)).rowD 9 (d9 q) (il 0) k=k (r9 c):=q5t (i:=0) hi
  have hw:IntKind.i64.wrap ((0:Int)+1)=((1:Nat):Int):=by decide
  simp only [qaH,q03,q08,q0n,q00,il0,hlt,decide_true,if_true,hr,r9,Option.getD_none,q0c,q0B,q0a,q1e,h,q01,q05,q0o,hw]
 ·intro i c acc k hi hlt hw hu hN
  have h:=s118 n (some acc) c.kn c.un hu hN (hun c (List.mem_of_getElem? hi))
  simp only [Option.getD_some] at h
  simp only [qaG,q03,q08,q0n,q00,hlt,decide_true,if_true,q5t hi,r9,q0c,q0B,q0a,h,q01,q05,q0o,hw]
set_option maxRecDepth 20000 in
theorem l54_6 (hl:(o.getD []).length≤1000) (hun:∀ e∈o.getD [],0≤e.un):q0p [qf7 (RP (n+2)),qf6 (RP (n+2))] M0 0 [.d (d5 o),.d (il (o.getD []).length),.d (il 0)]=if o.getD []=[] then some (0,[]) else some (1,[.d (dI (some (q06 [] (tmL E5.kn E5.un (o.getD [])))))]):=by
 have:=qbS (l:=o.getD []) (kn:=E5.kn) (un:=E5.un) hl (qf7 (RP (n+2))) (qf6 (RP (n+2))) (fun i=>[.d (d5 o),.d (il (o.getD []).length),.d (il i)]) (fun i acc=>[.d (dI (some acc)),.d (d5 o),.d (il (o.getD []).length),.d (il i)]) (some (0,[])) (fun acc=>some (1,[.d (dI (some acc))])) ?_ ?_ ?_ ?_
 ·exact this
 ·intro h k
  simp [qf7,h]
 ·intro acc k
  simp [qf6]
 ·intro c k hi hlt
  have h:=s118 n none c.kn c.un (by simp [Up]) (by simp) (hun c (List.mem_of_getElem? hi))
  have h:FN (n+2) 118 [.lit (.slice none 0 0),il c.kn,il c.un]=_:=h
  have hr:∀ k,(RP (n+2)).rowD 5 (d5 o) (il 0) k=k (r5 c):=qfG (i:=0) hi
  have hw:IntKind.i64.wrap ((0:Int)+1)=((1:Nat):Int):=by decide
  simp only [qf7,q03,q08,q0n,q00,il0,hlt,decide_true,if_true,hr,r5,Option.getD_none,q0c,q0B,q0a,q1e,h,q01,q05,q0o,hw]
 ·intro i c acc k hi hlt hw hu hN
  have h:=s118 n (some acc) c.kn c.un hu hN (hun c (List.mem_of_getElem? hi))
  simp only [Option.getD_some] at h
  simp only [qf6,q03,q08,q0n,q00,hlt,decide_true,if_true,qfG hi,r5,q0c,q0B,q0a,h,q01,q05,q0o,hw]
end
end Go.VE
namespace Go.VE
open Go.RowKit Go.Proofs
theorem q18 {α:Type} (kn un:α→Int) (l:List α) (acc:List Int):q06 acc (tmL kn un l)=[]↔acc=[]∧l=[]:=by
 cases l with
 | nil=>simp [tmL,q06]
 | cons e l =>
  constructor
  ·intro h
   rw [q4d,q0t] at h
   exact absurd h (q1u _ (qdi _ _ _))
  ·rintro ⟨_,h⟩;cases h
theorem s54 (n:Nat) (a b c:Option (List E9)) (o:Option (List E5)) :
  FN (n+6) 54 [d9 a,d9 b,d9 c,d5 o]=if q0D (a.getD []) (b.getD []) (c.getD []) (o.getD [])=true then some (0,[.d (dI (nzO (q7S (a.getD []) (b.getD []) (c.getD []) (o.getD [])))),.d (il 0)]) else some (0,[.d (dI none),.d (il 34)]):=by
 rw [F54]
 simp only [G54,q0a,s24 n a b c o,q01,q03,q05,q12,q00,q0e,q1e]
 by_cases hok:q0D (a.getD []) (b.getD []) (c.getD []) (o.getD [])=true
 ·obtain ⟨l1,l2,l3,l4⟩:=q1y hok
  obtain ⟨p1,p2,p3,p4⟩:=q6E hok
  have u1:∀ e∈a.getD [],0≤e.un:=fun e he=>by have:=(p1 e he).2.2.2.2;unfold q1w at this;omega
  have u2:∀ e∈b.getD [],0≤e.un:=fun e he=>by have:=(p2 e he).2.2.2.2;unfold q1w at this;omega
  have u3:∀ e∈c.getD [],0≤e.un:=fun e he=>by have:=(p3 e he).2.2.2.2.2;unfold q1w at this;omega
  have u4:∀ e∈o.getD [],0≤e.un:=fun e he=>by have:=(p4 e he).2.2.2;unfold q1w at this;omega
  simp only [hok,if_true,ne_eq,not_true_eq_false,decide_false,Bool.false_eq_true,if_false,q65,q0q]
  have q2:@L54_2=@qaH:=rfl
  have q3:@L54_3=@qaG:=rfl
  have q4:@L54_4=@qaH:=rfl
  have q5:@L54_5=@qaG:=rfl
  have q6:@qhX=@qaF:=rfl
  have q7:@qhU=@qaF:=rfl
  have q8:@qhW=@qaE:=rfl
  have q9:@qhV=@qaE:=rfl
  have t1:=q2k E9.kn E9.un (a.getD [])
  have t2:=q2k E9.kn E9.un (b.getD [])
  have t3:=q2k E9.kn E9.un (c.getD [])
  simp only [q2,q3,q4,q5,q6,q7,q8,q9]
  rw [qiJ (n+3) _ _ _ _ a (by omega) u1,q7S]
  have s0:Up []:=by simp [Up]
  have z0:([]:List Int).length=0:=rfl
  have s1:=q0R (tmL E9.kn E9.un (a.getD [])) s0
  have v1:=q1g (tmL E9.kn E9.un (a.getD [])) []
  have w1:=q18 E9.kn E9.un (a.getD []) []
  generalize tmL E9.kn E9.un (a.getD [])=A at *
  by_cases ha:a.getD []=[]
  ·have hA:q06 [] A=[]:=w1.2 ⟨rfl,ha⟩
   rw [if_pos ha]
   simp only [q01,q03,q08,q65]
   rw [qiJ (n+3) _ _ _ _ b (by omega) u2,q0t,hA]
   have s1:=q0R (tmL E9.kn E9.un (b.getD [])) s0
   have v1:=q1g (tmL E9.kn E9.un (b.getD [])) []
   have w1:=q18 E9.kn E9.un (b.getD []) []
   generalize tmL E9.kn E9.un (b.getD [])=B at *
   by_cases hb:b.getD []=[]
   ·have hB:q06 [] B=[]:=w1.2 ⟨rfl,hb⟩
    rw [if_pos hb]
    simp only [q01,q03,q08,q65]
    rw [qiJ (n+3) _ _ _ _ c (by omega) u3,q0t,hB]
    have s1:=q0R (tmL E9.kn E9.un (c.getD [])) s0
    have v1:=q1g (tmL E9.kn E9.un (c.getD [])) []
    have w1:=q18 E9.kn E9.un (c.getD []) []
    generalize tmL E9.kn E9.un (c.getD [])=C at *
    by_cases hc:c.getD []=[]
    ·have hC:q06 [] C=[]:=w1.2 ⟨rfl,hc⟩
     rw [if_pos hc]
     simp only [q01,q03,q08,qfl]
     rw [l54_6 (n+3) o (by omega) u4,q0t,hC]
     have w1:=q18 E5.kn E5.un (o.getD []) []
     by_cases ho:o.getD []=[]
     ·rw [if_pos ho,w1.2 ⟨rfl,ho⟩];rfl
     ·rw [if_neg ho,qbu (fun h=>ho (w1.1 h).2)];rfl
    ·rw [if_neg hc]
     simp only [q3c,q03,q08,qfl]
     rw [qiI (n+3) o _ s1 (by omega) (by omega) u4,q0t,qbu (fun h=>hc (w1.1 ((q18 _ _ _ _).1 h).1).2)];rfl
   ·rw [if_neg hb]
    simp only [q3c,q03,q08,q65]
    rw [qiH (n+3) _ _ _ _ c _ s1 (by omega) (by omega) u3,q0t,q0t]
    have s2:=q0R (tmL E9.kn E9.un (c.getD [])) s1
    have v2:=q1g (tmL E9.kn E9.un (c.getD [])) (q06 [] B)
    simp only [q01,q03,q08,qfl]
    rw [qiI (n+3) o _ s2 (by omega) (by omega) u4,qbu (fun h=>hb (w1.1 ((q18 _ _ _ _).1 ((q18 _ _ _ _).1 h).1).1).2)];rfl
  ·rw [if_neg ha]
   simp only [q3c,q03,q08,q65]
   rw [qiH (n+3) _ _ _ _ b _ s1 (by omega) (by omega) u2,q0t,q0t,q0t]
   have s2:=q0R (tmL E9.kn E9.un (b.getD [])) s1
   have v2:=q1g (tmL E9.kn E9.un (b.getD [])) (q06 [] A)
   have s3:=q0R (tmL E9.kn E9.un (c.getD [])) s2
   have v3:=q1g (tmL E9.kn E9.un (c.getD [])) (q06 (q06 [] A) (tmL E9.kn E9.un (b.getD [])))
   simp only [q01,q03,q08,q65]
   rw [qiH (n+3) _ _ _ _ c _ s2 (by omega) (by omega) u3]
   simp only [q01,q03,q08,qfl]
   rw [qiI (n+3) o _ s3 (by omega) (by omega) u4,qbu (fun h=>ha (w1.1 ((q18 _ _ _ _).1 ((q18 _ _ _ _).1 ((q18 _ _ _ _).1 h).1).1).1).2)];rfl
 ·simp [hok];rfl
section
variable {Fn:Nat→List D→Out} {FnD:D→List Sh→List D→Out} {m:Nat}
theorem qhk (xs:List Int) (k:D→Out):(q04 Fn FnD m).eqs (List.replicate xs.length true) true (xs.map il) (xs.map il) k=k (bl false):=by
 have h:∀ xs:List Int,q0Z (List.replicate xs.length true) ((xs.map il).map .d) ((xs.map il).map .d)=some true:=by
  intro xs
  induction xs with
  | nil=>rfl
  | cons x xs ih =>
   rw [List.length_cons,List.replicate_succ,List.map_cons,List.map_cons]
   have e:q0Z (true::List.replicate xs.length true) (.d (il x)::(xs.map il).map .d) (.d (il x)::(xs.map il).map .d)=(match q6a true (.int .i64 x) (.int .i64 x),q0Z (List.replicate xs.length true) ((xs.map il).map .d) ((xs.map il).map .d) with | some a,some b=>some (a&&b) | _,_=>none):=rfl
   rw [e,ih]
   simp [q6a]
 simp only [q04,h];rfl
theorem qa8 (e:E9) (k:D→Out):(q04 Fn FnD m).eqs [true,true,true,true,true,true,true,true,true] true [il e.src,il e.a,il e.b,il e.f1,il e.f2,il e.t1,il e.t2,il e.kn,il e.un] [il e.src,il e.a,il e.b,il e.f1,il e.f2,il e.t1,il e.t2,il e.kn,il e.un] k=k (bl false) :=
 qhk [e.src,e.a,e.b,e.f1,e.f2,e.t1,e.t2,e.kn,e.un] k
theorem qit (e:E5) (k:D→Out):(q04 Fn FnD m).eqs [true,true,true,true,true] true [il e.src,il e.a,il e.day,il e.kn,il e.un] [il e.src,il e.a,il e.day,il e.kn,il e.un] k=k (bl false) :=
 qhk [e.src,e.a,e.day,e.kn,e.un] k
end
set_option maxRecDepth 20000 in
theorem l55_0 (n:Nat) (a b c:Option (List E9)) (o:Option (List E5)) (h:(a.getD []).length≤1000):q0p [qf5 (RP n)] M0 0 [.d (d9 a),.d (d9 b),.d (d9 c),.d (d5 o),.d (d9 a),.d (d9 b),.d (d9 c),.d (d5 o),.d (il (a.getD []).length),.d (il 0)]=some (1,[.d (d9 a),.d (d9 b),.d (d9 c),.d (d5 o),.d (d9 a),.d (d9 b),.d (d9 c),.d (d5 o)]):=by
 have:=q0u (β:=Unit) (a.getD []) (by omega) (qf5 (RP n)) (fun i _=>[.d (d9 a),.d (d9 b),.d (d9 c),.d (d5 o),.d (d9 a),.d (d9 b),.d (d9 c),.d (d5 o),.d (il (a.getD []).length),.d (il i)]) (fun _ _=>True) (fun _ _ _=>some (1,[.d (d9 a),.d (d9 b),.d (d9 c),.d (d5 o),.d (d9 a),.d (d9 b),.d (d9 c),.d (d5 o)])) (fun _ k _=>by simp [qf5]) ?_ M0 () trivial (by unfold M0;omega)
 ·simpa using this
 ·intro i e r _ k hi hd hlt hw _ ih
  have ih':=ih () trivial
  have hlt':(i:Int) < ((a.getD []).length:Int):=by omega
  simp only [qf5,q03,q08,q0n,q00,hlt',decide_true,if_true,q5t hi,r9,q0c,q0B,qa8,Bool.false_eq_true,if_false,q05,q0o,hw]
  exact ih'
set_option maxRecDepth 20000 in
theorem l55_1 (n:Nat) (a b c:Option (List E9)) (o:Option (List E5)) (h:(b.getD []).length≤1000):q0p [qf4 (RP n)] M0 0 [.d (d9 a),.d (d9 b),.d (d9 c),.d (d5 o),.d (d9 a),.d (d9 b),.d (d9 c),.d (d5 o),.d (il (b.getD []).length),.d (il 0)]=some (1,[.d (d9 a),.d (d9 b),.d (d9 c),.d (d5 o),.d (d9 a),.d (d9 b),.d (d9 c),.d (d5 o)]):=by
 have:=q0u (β:=Unit) (b.getD []) (by omega) (qf4 (RP n)) (fun i _=>[.d (d9 a),.d (d9 b),.d (d9 c),.d (d5 o),.d (d9 a),.d (d9 b),.d (d9 c),.d (d5 o),.d (il (b.getD []).length),.d (il i)]) (fun _ _=>True) (fun _ _ _=>some (1,[.d (d9 a),.d (d9 b),.d (d9 c),.d (d5 o),.d (d9 a),.d (d9 b),.d (d9 c),.d (d5 o)])) (fun _ k _=>by simp [qf4]) ?_ M0 () trivial (by unfold M0;omega)
 ·simpa using this
 ·intro i e r _ k hi hd hlt hw _ ih
  have ih':=ih () trivial
  have hlt':(i:Int) < ((b.getD []).length:Int):=by omega
  simp only [qf4,q03,q08,q0n,q00,hlt',decide_true,if_true,q5t hi,r9,q0c,q0B,qa8,Bool.false_eq_true,if_false,q05,q0o,hw]
  exact ih'
set_option maxRecDepth 20000 in
theorem l55_2 (n:Nat) (a b c:Option (List E9)) (o:Option (List E5)) (h:(c.getD []).length≤1000):q0p [qf3 (RP n)] M0 0 [.d (d9 a),.d (d9 b),.d (d9 c),.d (d5 o),.d (d9 a),.d (d9 b),.d (d9 c),.d (d5 o),.d (il (c.getD []).length),.d (il 0)]=some (1,[.d (d9 a),.d (d9 b),.d (d9 c),.d (d5 o),.d (d9 a),.d (d9 b),.d (d9 c),.d (d5 o)]):=by
 have:=q0u (β:=Unit) (c.getD []) (by omega) (qf3 (RP n)) (fun i _=>[.d (d9 a),.d (d9 b),.d (d9 c),.d (d5 o),.d (d9 a),.d (d9 b),.d (d9 c),.d (d5 o),.d (il (c.getD []).length),.d (il i)]) (fun _ _=>True) (fun _ _ _=>some (1,[.d (d9 a),.d (d9 b),.d (d9 c),.d (d5 o),.d (d9 a),.d (d9 b),.d (d9 c),.d (d5 o)])) (fun _ k _=>by simp [qf3]) ?_ M0 () trivial (by unfold M0;omega)
 ·simpa using this
 ·intro i e r _ k hi hd hlt hw _ ih
  have ih':=ih () trivial
  have hlt':(i:Int) < ((c.getD []).length:Int):=by omega
  simp only [qf3,q03,q08,q0n,q00,hlt',decide_true,if_true,q5t hi,r9,q0c,q0B,qa8,Bool.false_eq_true,if_false,q05,q0o,hw]
  exact ih'
set_option maxRecDepth 20000 in
theorem l55_3 (n:Nat) (a b c:Option (List E9)) (o:Option (List E5)) (h:(o.getD []).length≤1000):q0p [qf2 (RP n)] M0 0 [.d (d9 a),.d (d9 b),.d (d9 c),.d (d5 o),.d (d9 a),.d (d9 b),.d (d9 c),.d (d5 o),.d (il (o.getD []).length),.d (il 0)]=some (1,[]):=by
 have:=q0u (β:=Unit) (o.getD []) (by omega) (qf2 (RP n)) (fun i _=>[.d (d9 a),.d (d9 b),.d (d9 c),.d (d5 o),.d (d9 a),.d (d9 b),.d (d9 c),.d (d5 o),.d (il (o.getD []).length),.d (il i)]) (fun _ _=>True) (fun _ _ _=>some (1,[])) (fun _ k _=>by simp [qf2]) ?_ M0 () trivial (by unfold M0;omega)
 ·simpa using this
 ·intro i e r _ k hi hd hlt hw _ ih
  have ih':=ih () trivial
  have hlt':(i:Int) < ((o.getD []).length:Int):=by omega
  simp only [qf2,q03,q08,q0n,q00,hlt',decide_true,if_true,qfG hi,r5,q0c,q0B,qit,Bool.false_eq_true,if_false,q05,q0o,hw]
  exact ih'
theorem s55 (n:Nat) (a b c:Option (List E9)) (o:Option (List E5)) (h1:(a.getD []).length≤1000) (h2:(b.getD []).length≤1000) (h3:(c.getD []).length≤1000) (h4:(o.getD []).length≤1000) :
  FN (n+1) 55 [d9 a,d9 b,d9 c,d5 o,d9 a,d9 b,d9 c,d5 o]=some (0,[.d (bl true)]):=by
 rw [F55]
 simp only [G55,q65,qfl,q12,q00,q05,q0q,ne_eq,not_true_eq_false,decide_false,Bool.false_eq_true,if_false,l55_0 n a b c o h1,l55_1 n a b c o h2,l55_2 n a b c o h3,l55_3 n a b c o h4,q3c,q03,q08,q15,q0e]
end Go.VE
namespace Go.VE
open Go.RowKit Go.Proofs
theorem a9 {Fn:Nat→List D→Out} {FnD:D→List Sh→List D→Out} {m:Nat} (A B C O A' B' C' O' L:D) (E E' g h1 h2 h3 h4:Int) (s b w:E9) (f:E5)
  (p52:Fn 52 [A,B,C,O,il b.src,il b.a,il b.b,il b.f1,il b.f2,il b.t1,il b.t2,il b.kn,il b.un]=some (0,[.d A',.d B',.d C',.d O',.d (il E)]))
  (p53:Fn 53 [A,B,C,O,il b.src,il b.a,il b.b,il b.f1,il b.f2,il b.t1,il b.t2,il b.kn,il b.un]=some (0,[.d A',.d B',.d C',.d O',.d (il E)]))
  (p44:Fn 44 [A,B,C,O]=some (0,[.d L,.d (il E')])) (p54:Fn 54 [A,B,C,O]=some (0,[.d L,.d (il E')]))
  (p55:Fn 55 [A',B',C',O',A',B',C',O']=some (0,[.d (bl true)])) (p22:Fn 22 [L,L]=some (0,[.d (bl true)]))
  (p56:Fn 56 [A,B,C,O]=some (0,[.d (il g)])) (p24:Fn 24 [A,B,C,O]=some (0,[.d (il g)]))
  (p57:Fn 57 (r9 s)=some (0,[.d (il h1)])) (p58:Fn 58 (r9 s)=some (0,[.d (il h1)])) (p59:Fn 59 (r9 b)=some (0,[.d (il h2)])) (p60:Fn 60 (r9 b)=some (0,[.d (il h2)]))
  (p61:Fn 61 (r9 w)=some (0,[.d (il h3)])) (p62:Fn 62 (r9 w)=some (0,[.d (il h3)])) (p63:Fn 63 (r5 f)=some (0,[.d (il h4)])) (p64:Fn 64 (r5 f)=some (0,[.d (il h4)])) (p23:Fn 23 []=some (0,[.d (bl true)])) :
  G9 (q04 Fn FnD m) A B C O (il s.src) (il s.a) (il s.b) (il s.f1) (il s.f2) (il s.t1) (il s.t2) (il s.kn) (il s.un) (il b.src) (il b.a) (il b.b) (il b.f1) (il b.f2) (il b.t1) (il b.t2) (il b.kn) (il b.un) (il w.src) (il w.a) (il w.b) (il w.f1) (il w.f2) (il w.t1) (il w.t2) (il w.kn) (il w.un) (il f.src) (il f.a) (il f.day) (il f.kn) (il f.un)=some (0,[.d (bl true)]):=by
 simp only [r9,r5] at p57 p58 p59 p60 p61 p62 p63 p64
 simp only [G9,q0a,p52,p53,p44,p54,q01,q03,q08,p55,q0N,q00,p22,p56,p24,p57,p58,p59,p60,p61,p62,p63,p64,p23,q12,q0S,ne_eq,not_true_eq_false,decide_false,decide_true,Bool.not_true,Bool.false_eq_true,if_false,if_true,q0e]
theorem s9 (n:Nat) (a b c:Option (List E9)) (o:Option (List E5)) (ha:(a.getD []).length*72≤140737488351232) (hb:(b.getD []).length*72≤140737488351232) (hc:(c.getD []).length*72≤140737488351232) (ho:(o.getD []).length*40≤140737488351232) (s e w:E9) (f:E5) :
  G9 (RP (n+111)) (d9 a) (d9 b) (d9 c) (d5 o) (il s.src) (il s.a) (il s.b) (il s.f1) (il s.f2) (il s.t1) (il s.t2) (il s.kn) (il s.un) (il e.src) (il e.a) (il e.b) (il e.f1) (il e.f2) (il e.t1) (il e.t2) (il e.kn) (il e.un) (il w.src) (il w.a) (il w.b) (il w.f1) (il w.f2) (il w.t1) (il w.t2) (il w.kn) (il w.un) (il f.src) (il f.a) (il f.day) (il f.kn) (il f.un)=some (0,[.d (bl true)]):=by
 have h52:=s52 (n+99) e a b c o ha hb hc ho
 have h53:=s53 (n+105) e a b c o
 have h44:=s44 (n+101) a b c o ha hb hc ho
 have h54:=s54 (n+105) a b c o
 have h56:=s56 (n+102) a b c o ha hb hc ho
 have h24:=s24 (n+106) a b c o
 have q:∃ (a' b' c':Option (List E9)) (o':Option (List E5)) (E:Int),qa1 (q7V (q0D (a.getD []) (b.getD []) (c.getD []) (o.getD [])) e (b.getD [])) e a b c o=some (0,[.d (d9 a'),.d (d9 b'),.d (d9 c'),.d (d5 o'),.d (il E)])∧(a'.getD []).length≤1000∧(b'.getD []).length≤1000∧(c'.getD []).length≤1000∧(o'.getD []).length≤1000:=by
  unfold qa1
  by_cases hE:q7V (q0D (a.getD []) (b.getD []) (c.getD []) (o.getD [])) e (b.getD [])=0
  ·rw [if_pos hE]
   have hok:q0D (a.getD []) (b.getD []) (c.getD []) (o.getD [])=true:=by
    unfold q7V at hE
    by_cases h:q0D (a.getD []) (b.getD []) (c.getD []) (o.getD [])=false
    ·rw [if_pos h] at hE;cases hE
    ·simpa using h
   have hl:=q1y hok
   have hn:=q3E e (b.getD [])
   exact ⟨a,some (qfq e (b.getD [])),c,o,0,rfl,by omega,by rw [Option.getD_some];omega,by omega,by omega⟩
  ·rw [if_neg hE]
   exact ⟨none,none,none,none,_,rfl,by simp,by simp,by simp,by simp⟩
 obtain ⟨a',b',c',o',E,hq,k1,k2,k3,k4⟩:=q
 rw [hq] at h52 h53
 have h55:=s55 (n+110) a' b' c' o' k1 k2 k3 k4
 have q2:∃ (l:Option (List Int)) (E:Int),(if q0D (a.getD []) (b.getD []) (c.getD []) (o.getD [])=true then some (0,[.d (dI (nzO (q7S (a.getD []) (b.getD []) (c.getD []) (o.getD [])))),.d (il 0)]) else some (0,[.d (dI none),.d (il 34)]):Out)=some (0,[.d (dI l),.d (il E)])∧(l.getD []).length≤4611686018427387904:=by
  by_cases hok:q0D (a.getD []) (b.getD []) (c.getD []) (o.getD [])=true
  ·rw [if_pos hok]
   refine ⟨_,_,rfl,?_⟩
   have hl:=q1y hok
   have t1:=q2k E9.kn E9.un (a.getD [])
   have t2:=q2k E9.kn E9.un (b.getD [])
   have t3:=q2k E9.kn E9.un (c.getD [])
   have t4:=q2k E5.kn E5.un (o.getD [])
   have hi:=q1g (tmL E9.kn E9.un (a.getD [])++(tmL E9.kn E9.un (b.getD [])++(tmL E9.kn E9.un (c.getD [])++tmL E5.kn E5.un (o.getD [])))) []
   simp only [List.length_append,List.length_nil] at hi
   rw [qbv,q7S]
   omega
  ·rw [if_neg hok]
   exact ⟨_,_,rfl,by simp⟩
 obtain ⟨l,E',hq2,k5⟩:=q2
 rw [hq2] at h44 h54
 have h22:=s22 (n+110) l l k5
 rw [decide_eq_true rfl] at h22
 exact a9 _ _ _ _ _ _ _ _ _ E E' _ _ _ _ _ s e w f h52 h53 h44 h54 h55 h22 h56 h24 (s57 (n+107) s) (s58 (n+107) s) (s59 (n+107) e) (s60 (n+107) e) (s61 (n+107) w) (s62 (n+107) w) (s63 (n+107) f) (s64 (n+107) f) (s23 n)
end Go.VE
namespace Go.VE
open Go.RowKit Go.Proofs Go.Proofs.YtobeabinccohlaaGreat
set_option maxRecDepth 100000
theorem q71 (vds:List VD) (h:VTs Tryz.prog 8 [27,84] vds):SC Tryz.prog 9 vds (.one (.d (bl true))):=by
 obtain ⟨_,_,rfl,h1,h⟩:=qc1 h
 obtain ⟨_,_,rfl,h2,h⟩:=qc1 h
 cases qjc h
 obtain ⟨_,rfl,k1⟩:=h1.agg_ Tryz.underlying27
 obtain ⟨_,rfl,k2⟩:=h2.agg_ Tryz.underlying84
 obtain ⟨a,b,c,o,rfl,ha,hb,hc,ho⟩:=o27 k1
 obtain ⟨_,_,rfl,i1,_,_,rfl,i2,_,_,rfl,i3,_,_,rfl,i4,rfl⟩:=k2.struct Tryz.underlying84 rfl
 obtain ⟨s,rfl⟩:=o50 i1
 obtain ⟨e,rfl⟩:=o52 i2
 obtain ⟨w,rfl⟩:=o54 i3
 obtain ⟨f,rfl⟩:=o82 i4
 refine lawSC (T:=tb) (fuel:=400) (m0:=M0) (xs:=[d9 a,d9 b,d9 c,d5 o,il s.src,il s.a,il s.b,il s.f1,il s.f2,il s.t1,il s.t2,il s.kn,il s.un,il e.src,il e.a,il e.b,il e.f1,il e.f2,il e.t1,il e.t2,il e.kn,il e.un,il w.src,il w.a,il w.b,il w.f1,il w.f2,il w.t1,il w.t2,il w.kn,il w.un,il f.src,il f.a,il f.day,il f.kn,il f.un]) mixP (FN_ok 111) (FN_okM 111) spOK (by decide) (sh:=[.agg 4,.agg 32]) rfl rfl rfl ?_
 rw [G9_eq]
 exact s9 0 a b c o ha hb hc ho s e w f
end Go.VE
namespace Go.Proofs.YtobeabinccohlaaGreat
open Go.VE Go.RowKit
set_option maxRecDepth 100000
theorem q4K (os:Os) (started:os.Started) (H:Type) (enc:TypeId×Value→H) :
  ReturnsInHanded {} Tryz.checked os 9 .any (Rows.familyChecksSpec.pre6 enc Tryz.prog Tryz.f9 Rows.familyChecksRow.domain false) (Rows.familyChecksSpec.post enc Tryz.prog Tryz.f9 false true false false) :=
 lawIn (C:=Tryz.checked) (n:=8) (tb:=4) own started (by kernel_rfl) Tryz.func9
  (ChangeSpec.witness6 (enc:=enc) (C:=Tryz.checked) false ⟨#[],#[.agg #[.slice none 0 0,.slice none 0 0,.slice none 0 0,.slice none 0 0],.agg #[.int .i64 0,.int .i64 0,.int .i64 0,.int .i64 0,.int .i64 0,.int .i64 0,.int .i64 0,.int .i64 0,.int .i64 0,.int .i64 0,.int .i64 0,.int .i64 0,.int .i64 0,.int .i64 0,.int .i64 0,.int .i64 0,.int .i64 0,.int .i64 0,.int .i64 0,.int .i64 0,.int .i64 0,.int .i64 0,.int .i64 0,.int .i64 0,.int .i64 0,.int .i64 0,.int .i64 0,.int .i64 0,.int .i64 0,.int .i64 0,.int .i64 0,.int .i64 0]],[]⟩ 8 (by kernel_rfl) (by kernel_rfl) (by kernel_rfl) (by kernel_rfl))
  qiG (by kernel_rfl) (by kernel_rfl) Tryz.underlying4 rfl
  (fun ds hd=>by
   rw [show Tryz.f9.params.toList=[27,84] by kernel_rfl] at hd
   match ds,hd with
   | [a,b],_=>rfl)
  (fun vds h=>q71 vds h)
theorem q5T:Rows.familyChecksRow.holds Tryz.pinned (OpenSpec.ofChange Rows.familyChecksSpec) :=
 OpenClaim.holds_of_wide 9 Tryz.f9 rfl rfl rfl rfl rfl rfl rfl ⟨rfl,rfl,rfl,rfl,rfl⟩ rfl rfl rfl rfl rfl (by kernel_rfl) Tryz.func9 (by kernel_rfl)
  (of_decide_eq_true (by kernel_rfl)) (by unfold Func.isWrapper;first | (rw [if_pos (by decide +kernel)];kernel_rfl) | (rw [if_neg (by decide +kernel)];exact ⟨rfl,rfl⟩))
  (fun os started H enc _=>q4K os started H enc)
theorem familyChecks_holds:Rows.FamilyChecksSaid:=q5T
#print axioms familyChecks_holds
end Go.Proofs.YtobeabinccohlaaGreat
