/- Family: the plain law of walks, goes and families. -/
import Derived.Test.YtobeabinccohlaaGreatMg1
set_option maxRecDepth 20000
namespace Go.VE
open Go.RowKit Go.Proofs
section
def q0U (a c:List E9) (o:List E5) (d p:Int):Bool×Bool:=if q8E d p o=true then (false,true) else
 (((q0O d p (below a a.length)).any fun x=>decide (f0 x≠0))&&(q0O d p (below c c.length)).any Option.isNone,((q0O d p (below a a.length)).any fun x=>decide (f0 x=0))||(q0O d p (below c c.length)).any Option.isSome)
def q0v (W:Int→Bool×Bool):Option Int→Bool×Bool
 | none=>(true,false)
 | some z=>if z=0 then (false,true) else W z
def goP (a c:List E9) (o:List E5) (d p:Int):Bool×Bool:=if q8E d p o=true then (false,true) else
 ((q0O d p (below c c.length)).any fun x=>(q0v (q0U a c o d) x).1,(q0O d p (below c c.length)).any fun x=>(q0v (q0U a c o d) x).2)
def q0I (L:Int→List Int) (yes no:Bool) (x:Option Int) (acc:List Int):List Int :=
 if f0 x=0∨yes=false then (if f0 x=0∨no=true then ins 0 acc else acc) else q0u (if f0 x=0∨no=true then ins 0 acc else acc) (L (f0 x))
def qbN (L:Int→List Int) (yes no:Bool):List (Option Int)→List Int→List Int
 | [],acc=>acc
 | x::os,acc=>qbN L yes no os (q0I L yes no x acc)
def q2n (a b c:List E9) (o:List E5) (d p:Int):List Int:=qbN (q07 d b) (goP a c o d p).1 (goP a c o d p).2 (q0O d p (below a a.length)) []
theorem q8I (L:Int→List Int) (yes no:Bool) (x:Option Int) {acc:List Int} (h:Up acc):Up (q0I L yes no x acc):=by
 unfold q0I
 have h1:Up (if f0 x=0∨no=true then ins 0 acc else acc):=by split;exact q5h 0 h;exact h
 split
 ·exact h1
 ·exact q3O _ h1
theorem qff (L:Int→List Int) (yes no:Bool):∀ (os:List (Option Int)) {acc:List Int},Up acc→Up (qbN L yes no os acc)
 | [],_,h=>h
 | x::os,_,h=>qff L yes no os (q8I L yes no x h)
theorem q4c (a b c:List E9) (o:List E5) (d p:Int):Up (q2n a b c o d p):=qff _ _ _ _ (by simp)
theorem q7P (L:Int→List Int) (yes no:Bool) (x:Option Int) (acc:List Int) (z:Int):z∈q0I L yes no x acc↔z∈acc∨(z=0∧(f0 x=0∨no=true))∨(yes=true∧f0 x≠0∧z∈L (f0 x)):=by
 unfold q0I
 by_cases h0:f0 x=0
 ·simp only [h0,true_or,if_true,q4h,and_true,ne_eq,not_true_eq_false,false_and,and_false,or_false]
  exact Or.comm
 ·cases yes with
  | false =>
   cases no with
   | false=>simp [h0]
   | true=>simp [h0,q4h];exact Or.comm
  | true =>
   cases no with
   | false=>simp [h0,q1X]
   | true =>
    simp only [h0,false_or,Bool.true_eq_false,if_false,if_true,q1X,q4h,and_true,true_and,ne_eq,not_false_eq_true]
    constructor
    ·rintro ((h | h) | h)
     ·exact .inr (.inl h)
     ·exact .inl h
     ·exact .inr (.inr h)
    ·rintro (h | h | h)
     ·exact .inl (.inr h)
     ·exact .inl (.inl h)
     ·exact .inr h
theorem qd5 (L:Int→List Int) (yes no:Bool) (z:Int):∀ (os:List (Option Int)) (acc:List Int),z∈qbN L yes no os acc↔z∈acc∨(z=0∧∃ x∈os,f0 x=0∨no=true)∨(yes=true∧∃ x∈os,f0 x≠0∧z∈L (f0 x))
 | [],acc=>by simp [qbN]
 | x::os,acc=>by
  rw [qbN,qd5 L yes no z os,q7P]
  constructor
  ·rintro ((h | ⟨h1,h2⟩ | ⟨h1,h2,h3⟩) | ⟨h1,y,hy,h2⟩ | ⟨h1,y,hy,h2⟩)
   ·exact .inl h
   ·exact .inr (.inl ⟨h1,x,by simp,h2⟩)
   ·exact .inr (.inr ⟨h1,x,by simp,h2,h3⟩)
   ·exact .inr (.inl ⟨h1,y,by simp [hy],h2⟩)
   ·exact .inr (.inr ⟨h1,y,by simp [hy],h2⟩)
  ·rintro (h | ⟨h1,y,hy,h2⟩ | ⟨h1,y,hy,h2⟩)
   ·exact .inl (.inl h)
   ·rcases List.mem_cons.1 hy with rfl | hy
    ·exact .inl (.inr (.inl ⟨h1,h2⟩))
    ·exact .inr (.inl ⟨h1,y,hy,h2⟩)
   ·rcases List.mem_cons.1 hy with rfl | hy
    ·exact .inl (.inr (.inr ⟨h1,h2⟩))
    ·exact .inr (.inr ⟨h1,y,hy,h2⟩)
theorem q0p (d p z:Int) (a:List E9):z∈q0W d p a↔∃ x∈q0O d p (below a a.length),z=f0 x:=by
 unfold q0W;rw [q6w];simp
theorem q2E (d p z:Int) (c:List E9):z∈q3I d p c↔∃ x∈q0O d p (below c c.length),z=fm x:=by
 unfold q3I;rw [q6w];simp
theorem q1N {α:Type} (p:α→Bool) (l:List α):l.any p=true↔∃ x∈l,p x=true:=List.any_eq_true
def By0 (c:List E9):Prop:=∀ e∈c,0≤e.b
theorem qbV {d p:Int} {c:List E9} (hc:By0 c) {m:Nat} {w:Int} (h:some w∈q0O d p (below c m)):0≤w:=by
 obtain ⟨e,he,_,h2,_⟩:=q53 _ _ _ _ h
 have:=hc e (q3e he)
 omega
theorem qkD {l:List Int} {x:Int} (hx:x∈l) (hu:Up l):1 < l.length↔∃ z∈l,z≠x:=by
 cases l with
 | nil=>simp at hx
 | cons u r =>
  cases r with
  | nil =>
   simp at hx;subst hx
   constructor
   ·intro h;simp at h
   ·rintro ⟨z,hz,h⟩;simp at hz;exact absurd hz h
  | cons v r =>
   refine ⟨fun _=>?_,fun _=>by simp⟩
   rw [Up,List.pairwise_cons] at hu
   have:=hu.1 v (by simp)
   by_cases h:u=x
   ·exact ⟨v,by simp,by omega⟩
   ·exact ⟨u,by simp,h⟩
theorem qd2 {l:List Int} {x:Int} (hu:Up l) (hne:∃ z,z∈l):l=[x]↔∀ z∈l,z=x:=by
 constructor
 ·rintro rfl z hz;simpa using hz
 ·intro h
  refine qfg hu (by simp) fun z=>?_
  obtain ⟨y,hy⟩:=hne
  have:=h y hy;subst this
  constructor
  ·intro hz;simp [h z hz]
  ·intro hz;simp at hz;subst hz;exact hy
theorem q7p (d p:Int) (a:List E9):∃ z,z∈q0W d p a:=by
 have:=q7G d p (below a a.length)
 cases hq:q0O d p (below a a.length) with
 | nil=>exact absurd hq this
 | cons x q=>exact ⟨f0 x,(q0p ..).2 ⟨x,by rw [hq];simp,rfl⟩⟩
theorem qeP {d p:Int} {c:List E9} (hc:By0 c):-1∈q3I d p c↔none∈q0O d p (below c c.length):=by
 rw [q2E]
 constructor
 ·rintro ⟨x,hx,h⟩
  cases x with
  | none=>exact hx
  | some w=>have:=qbV hc hx;simp [fm] at h;omega
 ·intro h;exact ⟨none,h,rfl⟩
theorem qeO {d p:Int} {c:List E9} (hc:By0 c):(∃ z∈q3I d p c,z≠-1)↔∃ w,some w∈q0O d p (below c c.length):=by
 constructor
 ·rintro ⟨z,hz,h⟩
  obtain ⟨x,hx,rfl⟩:=(q2E ..).1 hz
  cases x with
  | none=>simp [fm] at h
  | some w=>exact ⟨w,hx⟩
 ·rintro ⟨w,hw⟩
  have:=qbV hc hw
  exact ⟨w,(q2E ..).2 ⟨some w,hw,rfl⟩,by omega⟩
theorem q6C (l:List (Option Int)):l.any Option.isSome=true↔∃ w,some w∈l:=by
 rw [q1N]
 constructor
 ·rintro ⟨x,hx,h⟩;cases x with
  | none=>simp at h
  | some w=>exact ⟨w,hx⟩
 ·rintro ⟨w,h⟩;exact ⟨_,h,rfl⟩
theorem q6D (l:List (Option Int)):l.any Option.isNone=true↔none∈l:=by
 rw [q1N]
 constructor
 ·rintro ⟨x,hx,h⟩;cases x with
  | none=>exact hx
  | some w=>simp at h
 ·intro h;exact ⟨_,h,rfl⟩
theorem qcv (a c:List E9) (o:List E5) (d p:Int) (h:(q0U a c o d p).1=false):(q0U a c o d p).2=true:=by
 revert h
 unfold q0U
 split
 ·intro _;rfl
 ·simp only
  intro h
  rw [Bool.and_eq_false_iff] at h
  rw [Bool.or_eq_true]
  rcases h with h | h
  ·left
   obtain ⟨z,hz⟩:=q7p d p a
   obtain ⟨x,hx,rfl⟩:=(q0p ..).1 hz
   have h3:=(List.any_eq_false.1 h) x hx
   exact (q1N _ _).2 ⟨x,hx,by simpa using h3⟩
  ·right
   have:=q7G d p (below c c.length)
   rw [q6C]
   cases hq:q0O d p (below c c.length) with
   | nil=>exact absurd hq this
   | cons x q =>
    rw [hq] at h
    cases x with
    | none=>simp at h
    | some w=>exact ⟨w,by simp⟩
theorem qkB (a c:List E9) (o:List E5) (d p:Int) (hc:By0 c):qfc a c o d p=q95 (q0U a c o d p).1 (q0U a c o d p).2:=by
 unfold qfc walkI q0U
 cases hb:q8E d p o with
 | true=>simp [q95]
 | false =>
  simp only [Bool.false_or,Bool.false_eq_true,if_false]
  have e1:q0W d p a=[0]↔((q0O d p (below a a.length)).any fun x=>decide (f0 x≠0))=false:=by
   rw [qd2 (qcx ..) (q7p ..),List.any_eq_false]
   constructor
   ·intro h x hx;have:=h _ ((q0p ..).2 ⟨x,hx,rfl⟩);simp [this]
   ·intro h z hz
    obtain ⟨x,hx,rfl⟩:=(q0p ..).1 hz
    have:=h x hx;simpa using this
  have e2:0∈q0W d p a↔((q0O d p (below a a.length)).any fun x=>decide (f0 x=0))=true:=by
   rw [q0p,q1N]
   constructor
   ·rintro ⟨x,hx,h⟩;exact ⟨x,hx,by simp [←h]⟩
   ·rintro ⟨x,hx,h⟩;exact ⟨x,hx,by simpa using (of_decide_eq_true h).symm⟩
  have e3:-1∈q3I d p c↔(q0O d p (below c c.length)).any Option.isNone=true:=by rw [qeP hc,q6D]
  have e4:-1∈q3I d p c→(1 < (q3I d p c).length↔(q0O d p (below c c.length)).any Option.isSome=true):=fun h=>by
   rw [qkD h (qie ..),qeO hc,q6C]
  revert e1 e2 e3 e4
  generalize (q0O d p (below a a.length)).any (fun x=>decide (f0 x≠0))=q1
  generalize (q0O d p (below a a.length)).any (fun x=>decide (f0 x=0))=q2
  generalize (q0O d p (below c c.length)).any Option.isNone=q3
  generalize (q0O d p (below c c.length)).any Option.isSome=q4
  intro e1 e2 e3 e4
  cases q1 with
  | false=>simp [e1.2 rfl,q95]
  | true =>
   have n1:¬ q0W d p a=[0]:=fun h=>by have:=e1.1 h;cases this
   cases q3 with
   | false =>
    have n3:¬ -1∈q3I d p c:=fun h=>by have:=e3.1 h;cases this
    simp [n1,n3,q95]
   | true =>
    have n3:=e3.2 rfl
    have e4:=e4 n3
    rw [if_neg (by simp [n1,n3])]
    by_cases h2:0∈q0W d p a
    ·have:=e2.1 h2;subst this
     rw [if_pos (.inl h2)];simp [q95]
    ·have:q2=false:=by cases q2;rfl;exact absurd (e2.2 rfl) h2
     subst this
     cases q4 with
     | true=>rw [if_pos (.inr (e4.2 rfl))];simp [q95]
     | false =>
      rw [if_neg]
      ·simp [q95]
      ·rintro (h | h)
       ·exact h2 h
       ·have:=e4.1 h;cases this
theorem qlR (y n:Bool):q95 y n≠0↔y=true:=by cases y<;>cases n<;>simp [q95]
theorem qju (y n:Bool):q95 y n≠1↔(y=false∨n=true):=by cases y<;>cases n<;>simp [q95]
theorem q7r (a c:List E9) (o:List E5) (d:Int) (hc:By0 c) (x:Option Int) (hx:∀ w,x=some w→0≤w):(byI a c o d (fm x)≠0↔(q0v (q0U a c o d) x).1=true)∧(byI a c o d (fm x)≠1↔(q0v (q0U a c o d) x).2=true):=by
 cases x with
 | none=>simp [byI,fm,q0v]
 | some w =>
  have:=hx w rfl
  by_cases h:w=0
  ·subst h;simp [byI,fm,q0v]
  ·have h2:0 < w:=by omega
   simp only [byI,fm,Option.getD_some,h2,if_true,q0v,h,if_false]
   rw [qkB a c o d w hc,qlR,qju]
   refine ⟨Iff.rfl,⟨fun h=>?_,fun h=>.inr h⟩⟩
   rcases h with h | h
   ·exact qcv _ _ _ _ _ h
   ·exact h
theorem qko (a c:List E9) (o:List E5) (d p:Int) (hc:By0 c):((q3I d p c).any fun z=>decide (byI a c o d z≠0))=((q0O d p (below c c.length)).any fun x=>(q0v (q0U a c o d) x).1)∧((q3I d p c).any fun z=>decide (byI a c o d z≠1))=((q0O d p (below c c.length)).any fun x=>(q0v (q0U a c o d) x).2):=by
 have key:∀ x∈q0O d p (below c c.length),∀ w,x=some w→0≤w:=fun x hx w h=>by subst h;exact qbV hc hx
 constructor
 ·rw [Bool.eq_iff_iff,q1N,q1N]
  constructor
  ·rintro ⟨z,hz,h⟩
   obtain ⟨x,hx,rfl⟩:=(q2E ..).1 hz
   exact ⟨x,hx,(q7r a c o d hc x (key x hx)).1.1 (by simpa using h)⟩
  ·rintro ⟨x,hx,h⟩
   exact ⟨fm x,(q2E ..).2 ⟨x,hx,rfl⟩,by simpa using (q7r a c o d hc x (key x hx)).1.2 h⟩
 ·rw [Bool.eq_iff_iff,q1N,q1N]
  constructor
  ·rintro ⟨z,hz,h⟩
   obtain ⟨x,hx,rfl⟩:=(q2E ..).1 hz
   exact ⟨x,hx,(q7r a c o d hc x (key x hx)).2.1 (by simpa using h)⟩
  ·rintro ⟨x,hx,h⟩
   exact ⟨fm x,(q2E ..).2 ⟨x,hx,rfl⟩,by simpa using (q7r a c o d hc x (key x hx)).2.2 h⟩
theorem qke (a c:List E9) (o:List E5) (d p:Int) (h:(goP a c o d p).1=false):(goP a c o d p).2=true:=by
 revert h
 unfold goP
 split
 ·intro _;rfl
 ·simp only
  intro h
  have:=q7G d p (below c c.length)
  cases hq:q0O d p (below c c.length) with
  | nil=>exact absurd hq this
  | cons x q =>
   rw [hq] at h
   have h1:=List.any_eq_false.1 h x (by simp)
   have h2:(q0v (q0U a c o d) x).2=true:=by
    cases x with
    | none=>simp [q0v] at h1
    | some w =>
     simp only [q0v] at h1 ⊢
     split
     ·rfl
     ·rename_i hw
      rw [if_neg hw] at h1
      exact qcv _ _ _ _ _ (by simpa using h1)
   exact (q1N _ _).2 ⟨x,by simp,h2⟩
theorem qgw (a c:List E9) (o:List E5) (d p:Int) (hc:By0 c):q6I a c o d p=q95 ((goP a c o d p).1&&!decide (q0W d p a=[0])) ((goP a c o d p).2||decide (0∈q0W d p a)):=by
 unfold q6I goP
 cases hb:q8E d p o with
 | true=>simp [q95]
 | false =>
  simp only [Bool.false_or,Bool.false_eq_true,if_false]
  rw [(qko a c o d p hc).1,(qko a c o d p hc).2]
  by_cases h:q0W d p a=[0]
  ·simp [h,q95]
  ·simp [h,Bool.or_comm]
theorem q1P {a b c:List E9} {o:List E5} {d p z:Int}:z∈q2n a b c o d p↔(z=0∧(0∈q0W d p a∨(goP a c o d p).2=true))∨((goP a c o d p).1=true∧∃ h∈q0W d p a,h≠0∧z∈q07 d b h):=by
 unfold q2n
 rw [qd5]
 simp only [List.not_mem_nil,false_or]
 constructor
 ·rintro (⟨h1,x,hx,h2⟩ | ⟨h1,x,hx,h2,h3⟩)
  ·refine .inl ⟨h1,?_⟩
   rcases h2 with h2 | h2
   ·exact .inl ((q0p ..).2 ⟨x,hx,h2.symm⟩)
   ·exact .inr h2
  ·exact .inr ⟨h1,f0 x,(q0p ..).2 ⟨x,hx,rfl⟩,h2,h3⟩
 ·rintro (⟨h1,h2⟩ | ⟨h1,h,hh,h2,h3⟩)
  ·refine .inl ⟨h1,?_⟩
   rcases h2 with h2 | h2
   ·obtain ⟨x,hx,h2⟩:=(q0p ..).1 h2
    exact ⟨x,hx,.inl h2.symm⟩
   ·obtain ⟨z,hz⟩:=q7p d p a
    obtain ⟨x,hx,_⟩:=(q0p ..).1 hz
    exact ⟨x,hx,.inr h2⟩
  ·obtain ⟨x,hx,rfl⟩:=(q0p ..).1 hh
   exact .inr ⟨h1,x,hx,h2,h3⟩
theorem qkb {d p:Int} {a:List E9}:q0W d p a=[0]↔∀ h∈q0W d p a,h=0:=qd2 (qcx ..) (q7p ..)
end
section
def qcl (a:List E9):Prop:=∀ e∈a,1≤e.b∧e.b≤99
theorem q1T {d p:Int} {a:List E9} (ha:qcl a) {h:Int} (hh:h∈q0W d p a):0≤h∧h≤99:=by
 obtain ⟨x,hx,rfl⟩:=(q0p ..).1 hh
 cases x with
 | none=>simp [f0]
 | some w =>
  obtain ⟨e,he,_,h2,_⟩:=q53 _ _ _ _ hx
  have:=ha e (q3e he)
  simp only [f0,Option.getD_some];omega
theorem q41 {a b c:List E9} {o:List E5} {d p z:Int} (ha:qcl a) (hb:q5a b) (hz:z∈q2n a b c o d p):0≤z∧z≤99:=by
 rcases q1P.1 hz with ⟨rfl,_⟩ | ⟨_,h,hh,h0,hl⟩
 ·omega
 ·have:=q1T ha hh
  have:=q1d hb _ h z (Nat.le_refl _) (by omega) hl
  omega
theorem qdm {a b c:List E9} {o:List E5} {d p:Int} (ha:qcl a) (hb:q5a b):0∈q2n a b c o d p↔(0∈q0W d p a∨(goP a c o d p).2=true):=by
 rw [q1P]
 constructor
 ·rintro (⟨_,h⟩ | ⟨_,h,hh,h0,hl⟩)
  ·exact h
  ·have:=q1T ha hh
   have:=q1d hb _ h 0 (Nat.le_refl _) (by omega) hl
   omega
 ·intro h;exact .inl ⟨rfl,h⟩
theorem qgL {a b c:List E9} {o:List E5} {d p:Int} (ha:qcl a) (hb:q5a b):(∃ z∈q2n a b c o d p,z≠0)↔((goP a c o d p).1=true∧q0W d p a≠[0]):=by
 constructor
 ·rintro ⟨z,hz,h0⟩
  rcases q1P.1 hz with ⟨rfl,_⟩ | ⟨h1,h,hh,h2,_⟩
  ·exact absurd rfl h0
  ·exact ⟨h1,fun e=>h2 (qkb.1 e h hh)⟩
 ·rintro ⟨h1,h2⟩
  rw [Ne,qkb] at h2
  have:∃ h∈q0W d p a,h≠0:=by
   apply Classical.byContradiction;intro hn
   exact h2 fun h hh=>Classical.byContradiction fun h0=>hn ⟨h,hh,h0⟩
  obtain ⟨h,hh,h0⟩:=this
  have:=q1T ha hh
  obtain ⟨z,hz⟩:=q3h hb _ h (Nat.le_refl _) (by omega)
  have:=q1d hb _ h z (Nat.le_refl _) (by omega) hz
  exact ⟨z,q1P.2 (.inr ⟨h1,h,hh,h0,hz⟩),by omega⟩
theorem q8Z {a b c:List E9} {o:List E5} {d p:Int} (ha:qcl a) (hb:q5a b):∃ z,z∈q2n a b c o d p:=by
 by_cases h:0∈q2n a b c o d p
 ·exact ⟨0,h⟩
 ·rw [qdm ha hb,not_or] at h
  have h1:(goP a c o d p).1=true:=by
   cases hq:(goP a c o d p).1
   ·exact absurd (qke _ _ _ _ _ hq) h.2
   ·rfl
  have h2:q0W d p a≠[0]:=fun e=>h.1 (by rw [e];simp)
  obtain ⟨z,hz,_⟩:=(qgL (c:=c) (o:=o) ha hb).2 ⟨h1,h2⟩
  exact ⟨z,hz⟩
theorem qbi {l:List Int} (hu:Up l) (hr:∀ z∈l,0≤z) (hne:∃ z,z∈l):∃ x r,l=x::r∧(x=0↔0∈l):=by
 cases l with
 | nil=>obtain ⟨z,hz⟩:=hne;simp at hz
 | cons x r =>
  refine ⟨x,r,rfl,fun h=>by simp [h],fun h=>?_⟩
  rw [Up,List.pairwise_cons] at hu
  rcases List.mem_cons.1 h with h | h
  ·exact h.symm
  ·have:=hu.1 0 h
   have:=hr x (by simp)
   omega
theorem qfe:∀ {l:List Int},Up l→(∀ z∈l,0≤z)→∀ {y:Int},l[l.length - 1]?=some y→(y≠0↔∃ z∈l,z≠0)
 | [],_,_,y,h=>by simp at h
 | [x],_,_,y,h=>by simp at h;subst h;simp
 | x::w::r,hu,hr,y,h=>by
  rw [Up,List.pairwise_cons] at hu
  have h':(w::r)[(w::r).length - 1]?=some y:=by simpa using h
  have ih:=qfe (l:=w::r) hu.2 (fun z hz=>hr z (List.mem_cons_of_mem _ hz)) h'
  have hm:y∈w::r:=List.mem_of_getElem? h'
  have h1:=hu.1 y hm
  have h2:=hr x (by simp)
  exact ⟨fun _=>⟨y,List.mem_cons_of_mem _ hm,by omega⟩,fun _=>by omega⟩
theorem qln {a b c:List E9} {o:List E5} {d p:Int} (ha:qcl a) (hb:q5a b) (hc:By0 c) {x y:Int} {r:List Int} (hx:q2n a b c o d p=x::r) (hy:(q2n a b c o d p)[(q2n a b c o d p).length - 1]?=some y):q95 (decide (y≠0)) (decide (x=0))=q6I a c o d p:=by
 have hr:∀ z∈q2n a b c o d p,0≤z:=fun z hz=>(q41 ha hb hz).1
 have h1:=qfe (q4c a b c o d p) hr hy
 obtain ⟨x',r',e,h2⟩:=qbi (q4c a b c o d p) hr (q8Z ha hb)
 rw [hx] at e;cases e
 rw [qgL ha hb] at h1
 rw [qdm ha hb] at h2
 rw [qgw a c o d p hc]
 have e1:decide (y≠0)=((goP a c o d p).1&&!decide (q0W d p a=[0])):=by
  rw [Bool.eq_iff_iff,decide_eq_true_iff,h1];simp
 have e2:decide (x=0)=((goP a c o d p).2||decide (0∈q0W d p a)):=by
  rw [Bool.eq_iff_iff,decide_eq_true_iff,h2];simp [or_comm]
 rw [e1,e2]
def q4t (l:List Int) (f:Int):Int:=if f∈l then (if 1 < l.length then 2 else 1) else 0
theorem forP (l:List Int) (f x:Int) (r:List Int) (h:l=x::r):q95 (decide (f∈l)) (decide (1 < l.length)||decide (x≠f))=q4t l f:=by
 unfold q4t q95
 subst h
 by_cases h1:f∈x::r
 ·simp only [h1,decide_true,if_true]
  by_cases h2:1 < (x::r).length
  ·simp only [h2,decide_true,Bool.true_or,if_true]
  ·have:r=[]:=by cases r;rfl;simp at h2
   subst this
   have:f=x:=by simpa using h1
   subst this
   simp
 ·simp [h1]
end
section
def optR {σ:Type} (step:σ→Int→σ) (stopO noneO:σ→Out):σ→List (Option Int)→Out
 | s,[]=>stopO s
 | s,none::_=>noneO s
 | s,some w::os=>optR step stopO noneO (step s w) os
def qlU:List (Option Int)→Prop
 | []=>True
 | none::r=>r=[]
 | some _::r=>qlU r
theorem q4G (d who:Int):∀ l:List E9,qlU (q0O d who l)
 | []=>rfl
 | e::r=>by
  simp only [q0O]
  split
  ·split
   ·trivial
   ·exact q4G d who r
  ·exact q4G d who r
theorem q9w {σ:Type} (l:List E9) (hl:l.length≤1000000) (d who:Int) (bs:List ((Nat→List Yr→Out)→List Yr→Out)) (en:Nat→σ→Nat×List Yr) (I:Nat→σ→Prop) (step:σ→Int→σ) (stopO noneO:σ→Out)
  (h0:∀ s k,I 0 s→∃ b,bs[(en 0 s).1]?=some b∧b k (en 0 s).2=noneO s)
  (h1:∀ (m:Nat) e s (k:Nat→List Yr→Out),l[m]?=some e→m < l.length→IntKind.i64.wrap (((m:Nat):Int) - 1)=((m:Nat):Int) - 1→(((m+1:Nat):Int) - 1)=((m:Nat):Int)→I (m+1) s →
   I m s∧(e.a=who→q1J e.f1 e.t2 d=true→I m (step s e.b))∧∃ b,bs[(en (m+1) s).1]?=some b∧b k (en (m+1) s).2=if e.a=who∧q1J e.f1 e.t2 d=true then (if q1h e.f2 e.t1 d=true then stopO (step s e.b) else k (en m (step s e.b)).1 (en m (step s e.b)).2) else k (en m s).1 (en m s).2)
  (s:σ) (hs:I l.length s):q0o bs M0 (en l.length s).1 (en l.length s).2=optR step stopO noneO s (q0O d who (below l l.length)):=by
 refine q3g (σ:=Nat×σ) bs (fun s=>en s.1 s.2) (fun s=>s.1) (fun s=>s.1≤l.length∧I s.1 s.2) (fun s=>optR step stopO noneO s.2 (q0O d who (below l s.1))) ?_ M0 (l.length,s) ⟨Nat.le_refl _,hs⟩ (by unfold M0;simp only;omega)
 rintro ⟨m,s⟩ k ⟨g1,g2⟩ ih
 simp only at g1 g2 ih ⊢
 cases m with
 | zero=>exact h0 s k g2
 | succ m =>
  obtain ⟨e,he⟩:∃ e,l[m]?=some e:=⟨_,List.getElem?_eq_getElem (by omega)⟩
  obtain ⟨i1,i2,b,hb,hr⟩:=h1 m e s k he (by omega) (q0m (by omega) (by omega)) (by omega) g2
  refine ⟨b,hb,?_⟩
  rw [hr,q59 he,q0O]
  split
  ·rename_i hc
   split
   ·rfl
   ·exact ih (m,step s e.b) ⟨by simp only;omega,i2 hc.1 hc.2⟩ (by simp only;omega)
  ·exact ih (m,s) ⟨by simp only;omega,i1⟩ (by simp only;omega)
theorem q54 {σ:Type} {step:σ→Int→σ} {stopO noneO:σ→Out} (R:σ→List (Option Int)→Out) (h0:∀ s,stopO s=R s []) (h1:∀ s,noneO s=R s [none]) (h2:∀ s w os,R (step s w) os=R s (some w::os)):∀ (os:List (Option Int)) (s:σ),qlU os→optR step stopO noneO s os=R s os
 | [],s,_=>h0 s
 | none::r,s,h=>by have:r=[]:=h;subst this;exact h1 s
 | some w::os,s,h=>by
  have:=q54 R h0 h1 h2 os (step s w) h
  rw [optR,this,h2]
section
variable {Fn:Nat→List D→Out} {FnD:D→List Sh→List D→Out} {m:Nat}
end
end
section
def hB:Option Int→Bool
 | some w=>decide (w≠0)
 | none=>false
def zB:Option Int→Bool
 | some w=>decide (w=0)
 | none=>false
def R196 (x0 x1:D) (s:Bool×Bool) (os:List (Option Int)):Out:=some (if os.any Option.isNone=true then 0 else 1,[.d (bl false),.d (bl (s.1||os.any hB)),.d (bl (s.2||os.any zB)),.d x0,.d x1])
theorem l196_0 (n:Nat) (a b c:Option (List E9)) (o:Option (List E5)) (d who:Int) (hl:(a.getD []).length≤1000000) (s:Bool×Bool) :
  q0o [qaX (RP (n+4))] M0 0 [.d (il d),.d (il (((a.getD []).length:Int) - 1)),.d (bl false),.d (bl s.1),.d (bl s.2),.d (q0e a b c o),.d (il who)]=R196 (q0e a b c o) (il who) s (q0O d who (below (a.getD []) (a.getD []).length)):=by
 have:=q9w (σ:=Bool×Bool) (a.getD []) hl d who [qaX (RP (n+4))] (fun m s=>(0,[.d (il d),.d (il ((m:Int) - 1)),.d (bl false),.d (bl s.1),.d (bl s.2),.d (q0e a b c o),.d (il who)])) (fun _ _=>True) (fun s w=>(s.1||decide (w≠0),s.2||decide (w=0)))
  (fun s=>some (1,[.d (bl false),.d (bl s.1),.d (bl s.2),.d (q0e a b c o),.d (il who)])) (fun s=>some (0,[.d (bl false),.d (bl s.1),.d (bl s.2),.d (q0e a b c o),.d (il who)])) ?_ ?_ s trivial
 ·refine Eq.trans this (q54 (R196 (q0e a b c o) (il who)) ?_ ?_ ?_ _ s (q4G _ _ _))
  ·intro s;simp [R196]
  ·intro s;simp [R196,hB,zB]
  ·intro s w os;simp only [R196,List.any_cons,hB,zB,Option.isNone_some,Bool.false_or,Bool.or_assoc]
 ·intro s k _
  exact ⟨_,rfl,by simp [qaX]⟩
 ·intro m e s k he hm hw hm1 _
  refine ⟨trivial,fun _ _=>trivial,_,rfl,?_⟩
  have h157:=qjP (n+3) a b c o m e who he
  simp only [hm1,qaX,q02,q06,q04,q23,q00]
  rw [if_pos (by simp)]
  simp only [q08,h157,q01,q02,q06,q0z,q00,q1p,hw,q9X,q0D,q0c,q0Y]
  obtain ⟨s1,s2⟩:=s
  by_cases h1:e.a=who
  ·by_cases h2:q1J e.f1 e.t2 d=true
   ·rw [if_pos (⟨h1,h2⟩:e.a=who∧q1J e.f1 e.t2 d=true)]
    cases s1<;>cases s2<;>cases hq:q1h e.f2 e.t1 d<;>simp [h1,h2,q4C,hq]
   ·rw [if_neg (fun h=>h2 h.2:¬ (e.a=who∧q1J e.f1 e.t2 d=true))]
    simp [h1,h2]
  ·rw [if_neg (fun h=>h1 h.1:¬ (e.a=who∧q1J e.f1 e.t2 d=true))]
   simp [h1]
def qaT (x0 x1 x2 x3:D) (h:Bool) (s:Bool) (os:List (Option Int)):Out:=some (if os.any Option.isNone=true then 0 else 1,[.d (bl false),.d (bl h),.d (bl (s||os.any Option.isSome)),.d x0,.d x1,.d x2,.d x3])
theorem l196_1 (n:Nat) (a b c:Option (List E9)) (o:Option (List E5)) (d who:Int) (x0 x1:D) (hl:(c.getD []).length≤1000000) (h s:Bool) :
  q0o [q8p (RP (n+4))] M0 0 [.d (il d),.d (il (((c.getD []).length:Int) - 1)),.d (bl false),.d (bl h),.d (bl s),.d x0,.d x1,.d (q0e a b c o),.d (il who)]=qaT x0 x1 (q0e a b c o) (il who) h s (q0O d who (below (c.getD []) (c.getD []).length)):=by
 have:=q9w (σ:=Bool) (c.getD []) hl d who [q8p (RP (n+4))] (fun m s=>(0,[.d (il d),.d (il ((m:Int) - 1)),.d (bl false),.d (bl h),.d (bl s),.d x0,.d x1,.d (q0e a b c o),.d (il who)])) (fun _ _=>True) (fun _ _=>true)
  (fun s=>some (1,[.d (bl false),.d (bl h),.d (bl s),.d x0,.d x1,.d (q0e a b c o),.d (il who)])) (fun s=>some (0,[.d (bl false),.d (bl h),.d (bl s),.d x0,.d x1,.d (q0e a b c o),.d (il who)])) ?_ ?_ s trivial
 ·refine Eq.trans this (q54 (qaT x0 x1 (q0e a b c o) (il who) h) ?_ ?_ ?_ _ s (q4G _ _ _))
  ·intro s;simp [qaT]
  ·intro s;simp [qaT]
  ·intro s w os;simp [qaT]
 ·intro s k _
  exact ⟨_,rfl,by simp [q8p]⟩
 ·intro m e s k he hm hw hm1 _
  refine ⟨trivial,fun _ _=>trivial,_,rfl,?_⟩
  have h195:=s195 (n+3) a b c o m e who he
  have hnn:¬ ((m:Nat):Int) < 0:=by omega
  simp only [hm1,q8p,q02,q06,q04,q23,q00]
  rw [if_pos (by simp)]
  simp only [q08,h195,q01,q02,q06,q0z,q00,q1p,hw,q9X,q0D,q0c,q0A]
  by_cases h1:e.a=who
  ·by_cases h2:q1J e.f1 e.t2 d=true
   ·rw [if_pos (⟨h1,h2⟩:e.a=who∧q1J e.f1 e.t2 d=true)]
    cases s<;>cases hq:q1h e.f2 e.t1 d<;>simp [h1,h2,hnn,q4C,hq]
   ·rw [if_neg (fun h=>h2 h.2:¬ (e.a=who∧q1J e.f1 e.t2 d=true))]
    simp [h1,h2]
  ·rw [if_neg (fun h=>h1 h.1:¬ (e.a=who∧q1J e.f1 e.t2 d=true))]
   simp [h1]
theorem qlY (n:Nat):qks (RP n)=q8p (RP n):=rfl
theorem qlX (n:Nat):qkr (RP n)=q8p (RP n):=rfl
theorem hB_any (os:List (Option Int)):(os.any fun x=>decide (f0 x≠0))=os.any hB:=by
 congr 1;funext x;cases x<;>rfl
theorem zB_any (os:List (Option Int)):(os.any fun x=>decide (f0 x=0))=(os.any zB||os.any Option.isNone):=by
 induction os with
 | nil=>rfl
 | cons x os ih =>
  rw [List.any_cons,ih,List.any_cons,List.any_cons]
  cases x with
  | none=>simp [f0,zB]
  | some w=>simp only [zB,Option.isNone_some,Bool.false_or,Bool.or_assoc];rfl
theorem s196 (n:Nat) (a b c:Option (List E9)) (o:Option (List E5)) (d who:Int) (hd:0≤d∧d≤4166) (ha:(a.getD []).length≤1000000) (hc:(c.getD []).length≤1000000) (ho:(o.getD []).length≤1000000) :
  FN (n+6) 196 [d9 a,d9 b,d9 c,d5 o,il who,il d]=some (0,[.d (bl (q0U (a.getD []) (c.getD []) (o.getD []) d who).1),.d (bl (q0U (a.getD []) (c.getD []) (o.getD []) d who).2)]):=by
 rw [FS,qmd]
 have h0:=l196_0 (n+1) a b c o d who ha (false,false)
 have h1:=fun h s=>l196_1 (n+1) a b c o d who (q0e a b c o) (il who) hc h s
 simp only [q0e] at h0 h1
 simp only [G196,q08,s214 n (d9 a) (d9 b) (d9 c) o d who hd (by omega),q01,q02,q00,q0D,q0c,q5t,q1R]
 unfold q0U
 cases q8E d who (o.getD []) with
 | true=>simp
 | false =>
  simp only [Bool.false_eq_true,if_false]
  have hp:∀ k:List D→Out,(RP (n+5)).ptrW 4 (.dp [d9 a,d9 b,d9 c,d5 o] 0) k=k [d9 a,d9 b,d9 c,d5 o]:=fun k=>q1e _ 4 k rfl
  have w1:IntKind.i64.wrap (((a.getD []).length:Int) - 1)=((a.getD []).length:Int) - 1:=q0m (by omega) (by omega)
  have w2:IntKind.i64.wrap (((c.getD []).length:Int) - 1)=((c.getD []).length:Int) - 1:=q0m (by omega) (by omega)
  simp only [hp,q0b,q0j,q5A,q04,q1p,w1,w2,q0r]
  rw [show (RP (n+5))=RP (n+1+4) from rfl] at *
  rw [h0,hB_any,zB_any]
  simp only [R196,Bool.false_or]
  generalize q0O d who (below (a.getD []) (a.getD []).length)=q at *
  cases hn:q.any Option.isNone with
  | true =>
   simp only [if_true,q01,q02,q06,q00,q0Y,ne_eq,not_true_eq_false,decide_false]
   cases hh:q.any hB<;>cases hz:q.any zB<;>simp only [Bool.false_eq_true,if_true,if_false,q01,q02,q06,q00,qlY,h1,qaT] <;>
    (cases hn2:(q0O d who (below (c.getD []) (c.getD []).length)).any Option.isNone<;>cases hn3:(q0O d who (below (c.getD []) (c.getD []).length)).any Option.isSome<;>simp [h1,qaT,hn2,hn3])
  | false =>
   simp only [Bool.false_eq_true,if_false,q2N,q01,q02,q06,qlX,h1,qaT]
   cases hh:q.any hB<;>cases hz:q.any zB <;>
    (cases hn2:(q0O d who (below (c.getD []) (c.getD []).length)).any Option.isNone<;>cases hn3:(q0O d who (below (c.getD []) (c.getD []).length)).any Option.isSome<;>simp [])
end
section
def q4P (W:Int→Bool×Bool):Option Int→Bool×Bool
 | none=>(false,false)
 | some z=>q0v W (some z)
def Q163 (x0 x1:D) (W:Int→Bool×Bool) (s:Bool×Bool) (os:List (Option Int)):Out:=some (if os.any Option.isNone=true then 1 else 0,[.d (bl (s.1||os.any fun x=>(q4P W x).2)),.d (bl (s.2||os.any fun x=>(q4P W x).1)),.d x0,.d x1])
theorem l163 (n:Nat) (a b c:Option (List E9)) (o:Option (List E5)) (d who:Int) (hd:0≤d∧d≤4166) (ha:(a.getD []).length≤1000000) (hc:(c.getD []).length≤1000000) (ho:(o.getD []).length≤1000000) (s:Bool×Bool) :
  q0o [qaY (RP (n+6)) (d9 a) (d9 b) (d9 c) (d5 o) (il d)] M0 0 [.d (il d),.d (il (((c.getD []).length:Int) - 1)),.d (bl s.1),.d (bl s.2),.d (q0e a b c o),.d (il who)]=Q163 (q0e a b c o) (il who) (q0U (a.getD []) (c.getD []) (o.getD []) d) s (q0O d who (below (c.getD []) (c.getD []).length)):=by
 have:=q9w (σ:=Bool×Bool) (c.getD []) hc d who [qaY (RP (n+6)) (d9 a) (d9 b) (d9 c) (d5 o) (il d)] (fun m s=>(0,[.d (il d),.d (il ((m:Int) - 1)),.d (bl s.1),.d (bl s.2),.d (q0e a b c o),.d (il who)])) (fun _ _=>True) (fun s w=>(s.1||(q0v (q0U (a.getD []) (c.getD []) (o.getD []) d) (some w)).2,s.2||(q0v (q0U (a.getD []) (c.getD []) (o.getD []) d) (some w)).1))
  (fun s=>some (0,[.d (bl s.1),.d (bl s.2),.d (q0e a b c o),.d (il who)])) (fun s=>some (1,[.d (bl s.1),.d (bl s.2),.d (q0e a b c o),.d (il who)])) ?_ ?_ s trivial
 ·refine Eq.trans this (q54 (Q163 (q0e a b c o) (il who) (q0U (a.getD []) (c.getD []) (o.getD []) d)) ?_ ?_ ?_ _ s (q4G _ _ _))
  ·intro s;simp [Q163]
  ·intro s;simp [Q163,q4P]
  ·intro s w os;simp only [Q163,List.any_cons,q4P,Option.isNone_some,Bool.false_or,Bool.or_assoc]
 ·intro s k _
  exact ⟨_,rfl,by simp [qaY]⟩
 ·intro m e s k he hm hw hm1 _
  refine ⟨trivial,fun _ _=>trivial,_,rfl,?_⟩
  have h195:=s195 (n+5) a b c o m e who he
  have h196:=s196 n a b c o d e.b hd ha hc ho
  have hnn:¬ ((m:Nat):Int) < 0:=by omega
  have hp:∀ k:List D→Out,(RP (n+6)).ptrW 4 (.dp [d9 a,d9 b,d9 c,d5 o] 0) k=k [d9 a,d9 b,d9 c,d5 o]:=fun k=>q1e _ 4 k rfl
  simp only [hm1,qaY,q02,q06,q04,q23,q00]
  rw [if_pos (by simp)]
  simp only [q08,h195,q01,q02,q06,q0z,q00,q1p,hw,q9X,q4C,q0D,q0c,q1a,q0A,hnn,decide_false,Bool.false_eq_true,if_false,q5t,hp,q0b,q0j,h196,q0v]
  obtain ⟨s1,s2⟩:=s
  by_cases h1:e.a=who
  ·by_cases h2:q1J e.f1 e.t2 d=true
   ·rw [if_pos (⟨h1,h2⟩:e.a=who∧q1J e.f1 e.t2 d=true)]
    by_cases h3:e.b=0
    ·cases s1<;>cases s2<;>cases hq:q1h e.f2 e.t1 d<;>simp [h1,h2,h3]
    ·cases s1<;>cases s2<;>cases hq:q1h e.f2 e.t1 d<;>simp [h1,h2,h3]
   ·rw [if_neg (fun h=>h2 h.2:¬ (e.a=who∧q1J e.f1 e.t2 d=true))]
    simp [h1,h2]
  ·rw [if_neg (fun h=>h1 h.1:¬ (e.a=who∧q1J e.f1 e.t2 d=true))]
   simp [h1]
theorem qlm (W:Int→Bool×Bool) (os:List (Option Int)):(os.any fun x=>(q0v W x).1)=((os.any fun x=>(q4P W x).1)||os.any Option.isNone):=by
 induction os with
 | nil=>rfl
 | cons x os ih =>
  rw [List.any_cons,ih,List.any_cons,List.any_cons]
  cases x with
  | none=>simp [q0v,q4P]
  | some w=>simp [q4P,Bool.or_assoc]
theorem qll (W:Int→Bool×Bool) (os:List (Option Int)):(os.any fun x=>(q0v W x).2)=os.any fun x=>(q4P W x).2:=by
 congr 1;funext x;cases x<;>rfl
theorem s163 (n:Nat) (a b c:Option (List E9)) (o:Option (List E5)) (d who:Int) (hd:0≤d∧d≤4166) (ha:(a.getD []).length≤1000000) (hc:(c.getD []).length≤1000000) (ho:(o.getD []).length≤1000000) :
  FN (n+7) 163 [d9 a,d9 b,d9 c,d5 o,il who,il d]=some (0,[.d (bl (goP (a.getD []) (c.getD []) (o.getD []) d who).1),.d (bl (goP (a.getD []) (c.getD []) (o.getD []) d who).2)]):=by
 rw [FS,qmz]
 have h0:=l163 n a b c o d who hd ha hc ho (false,false)
 simp only [q0e] at h0
 have hp:∀ k:List D→Out,(RP (n+6)).ptrW 4 (.dp [d9 a,d9 b,d9 c,d5 o] 0) k=k [d9 a,d9 b,d9 c,d5 o]:=fun k=>q1e _ 4 k rfl
 have w2:IntKind.i64.wrap (((c.getD []).length:Int) - 1)=((c.getD []).length:Int) - 1:=q0m (by omega) (by omega)
 simp only [G163,q08,q5t,hp,q0b,q0j,s214 (n+1) (d9 a) (d9 b) (d9 c) o d who hd (by omega),q01,q02,q00,q0D,q0c,q1R]
 unfold goP
 cases q8E d who (o.getD []) with
 | true=>simp
 | false =>
  simp only [Bool.false_eq_true,if_false,q5A,q04,q1p,w2,q0r,h0,qlm,qll,Q163,Bool.false_or]
  generalize q0O d who (below (c.getD []) (c.getD []).length)=q
  cases hn:q.any Option.isNone with
  | true =>
   simp []
  | false =>
   simp
end
section
theorem q7Z (l:List Int) (hl:l.length≤1000000) (body:(Nat→List Yr→Out)→List Yr→Out) (st:Nat→List Int→List Yr) (ex:List Int→Out) (N:Nat)
  (h0:∀ acc k,body k (st l.length acc)=ex acc)
  (h1:∀ (i:Nat) c acc (k:Nat→List Yr→Out),l[i]?=some c→(i:Int) < (l.length:Int)→IntKind.i64.wrap ((i:Int)+1)=((i+1:Nat):Int)→Up acc→acc.length≤N+1000000→body k (st i acc)=k 0 (st (i+1) (ins c acc)))
  (acc:List Int) (hu:Up acc) (hN:acc.length≤N):q0o [body] M0 0 (st 0 acc)=ex (q0u acc l):=by
 refine q0T l (by omega) body st (fun i acc=>Up acc∧acc.length≤N+i) (fun _ r acc=>ex (q0u acc r)) (fun b k _=>h0 b k) ?_ M0 acc ⟨hu,by omega⟩ (by unfold M0;omega)
 intro i c r acc k hi hd hlt hw hI ih
 obtain ⟨g1,g2⟩:=hI
 rw [h1 i c acc k hi (by omega) (by rw [hw];simp) g1 (by omega)]
 have:=q5C c acc
 rw [ih (ins c acc) ⟨q5h c g1,by omega⟩]
 rfl
def enI (z:Nat→List Yr) (st:Nat→List Int→List Yr) (s:Nat×List Int):Nat×List Yr:=match s.2 with
 | []=>(0,z s.1)
 | y::r=>(1,st s.1 (y::r))
theorem qgO (z:Nat→List Yr) (st:Nat→List Int→List Yr) {i:Nat} {acc:List Int} (h:acc≠[]):enI z st (i,acc)=(1,st i acc):=by
 cases acc with
 | nil=>exact absurd rfl h
 | cons _ _=>rfl
theorem q9F (l:List Int) (hl:l.length≤1000000) (hne:l≠[]) (b0 b1:(Nat→List Yr→Out)→List Yr→Out) (z:Nat→List Yr) (st:Nat→List Int→List Yr) (ex:List Int→Out)
  (h0:∀ acc k,b1 k (st l.length acc)=ex acc)
  (hz:∀ c (k:Nat→List Yr→Out),l[0]?=some c→(0:Int) < (l.length:Int)→b0 k (z 0)=k 1 (st 1 [c]))
  (h1:∀ (i:Nat) c acc (k:Nat→List Yr→Out),l[i]?=some c→(i:Int) < (l.length:Int)→IntKind.i64.wrap ((i:Int)+1)=((i+1:Nat):Int)→Up acc→acc.length≤1000000→b1 k (st i acc)=k 1 (st (i+1) (ins c acc))) :
  q0o [b0,b1] M0 0 (z 0)=ex (q0u [] l):=by
 refine q3g (σ:=Nat×List Int) [b0,b1] (enI z st) (fun s=>l.length - s.1) (fun s=>s.1≤l.length∧Up s.2∧s.2.length≤s.1∧(s.2=[]→s.1=0)) (fun s=>ex (q0u s.2 (l.drop s.1))) ?_ M0 (0,[]) ⟨by simp,by simp,by simp,fun _=>rfl⟩ (by unfold M0;simp only;omega)
 rintro ⟨i,acc⟩ k ⟨g1,g2,g3,g4⟩ ih
 simp only at g1 g2 g3 g4 ih ⊢
 by_cases h:i < l.length
 ·have hd:=List.drop_eq_getElem_cons h
  have hi:l[i]?=some l[i]:=List.getElem?_eq_getElem h
  have ih':=ih (i+1,ins l[i] acc) ⟨by simp only;omega,q5h _ g2,by have:=q5C l[i] acc;simp only;omega,fun h=>absurd h (qdd _ _)⟩ (by simp only;omega)
  rw [hd,q5D]
  rw [qgO _ _ (qdd _ _)] at ih'
  by_cases ha:acc=[]
  ·subst ha
   have hi0:=g4 rfl
   subst hi0
   exact ⟨b0,rfl,by rw [show (enI z st (0,[])).2=z 0 from rfl,hz _ k hi (by omega)];exact ih'⟩
  ·rw [qgO _ _ ha]
   exact ⟨b1,rfl,by simp only;rw [h1 i _ acc k hi (by omega) (by rw [q0m (by omega) (by omega)];simp) g2 (by omega)];exact ih'⟩
 ·have hil:i=l.length:=by omega
  subst hil
  have ha:acc≠[]:=fun h=>hne (List.eq_nil_of_length_eq_zero (g4 h))
  rw [qgO _ _ ha]
  exact ⟨b1,rfl,by simp only [List.drop_length];exact h0 acc k⟩
section
variable {Fn:Nat→List D→Out} {FnD:D→List Sh→List D→Out} {m:Nat}
theorem q1I (q:Mr) (k:Mr→Out):(q05 Fn FnD m).asM false (.mp false q.1 q.2) k=k q:=rfl
theorem q1H (q:Mr):(q05 Fn FnD m).mpD false q=.mp false q.1 q.2:=rfl
theorem qfB (kd:Nat) (mm:Mr) (key:D) (ds:List D) (k:Mr→Out):(q05 Fn FnD m).upd kd mm key ds k=match qhI kd mm key ds with
  | some p=>k p
  | none=>none:=rfl
end
def q2H (d:Int) (b:List E9) (q:Mr):Prop:=q.1.length=q.2.length∧∀ (j:Nat) v,q.1[j]?=some v→∃ f:Int,v=.int .i64 f∧q.2[j]?=some [dI (some (q07 d b f))]
theorem q64 (d:Int) (b:List E9):q2H d b ([],[]):=⟨rfl,fun j v h=>by simp at h⟩
theorem q87 (f:Int):∀ (keys:List Value) (i:Nat),(∀ v∈keys,∃ g:Int,v=.int .i64 g)→(q3f 0 (.int .i64 f) keys i=some none∨∃ j,q3f 0 (.int .i64 f) keys i=some (some (i+j))∧keys[j]?=some (.int .i64 f))
 | [],i,_=>.inl rfl
 | x::r,i,h=>by
  obtain ⟨g,rfl⟩:=h x (by simp)
  have ih:=q87 f r (i+1) fun v hv=>h v (List.mem_cons_of_mem _ hv)
  have e:q3f 0 (.int .i64 f) (.int .i64 g::r) i=if f=g then some (some i) else q3f 0 (.int .i64 f) r (i+1):=by
   simp only [q3f,kEq,if_true]
   by_cases hfg:f=g
   ·subst hfg;simp
   ·have:(f==g)=false:=by simp [hfg]
    simp [this,hfg]
  rw [e]
  by_cases hfg:f=g
  ·subst hfg;exact .inr ⟨0,by simp⟩
  ·rw [if_neg hfg]
   rcases ih with ih | ⟨j,h1,h2⟩
   ·exact .inl ih
   ·exact .inr ⟨j+1,by rw [h1];congr 2;omega,by simpa using h2⟩
theorem qaq {d:Int} {b:List E9} {q:Mr} (h:q2H d b q):∀ v∈q.1,∃ g:Int,v=.int .i64 g:=fun v hv=>by
 obtain ⟨j,hj⟩:=List.getElem?_of_mem hv
 obtain ⟨f,hf,_⟩:=h.2 j v hj
 exact ⟨f,hf⟩
theorem qg2 {d:Int} {b:List E9} {q:Mr} (h:q2H d b q) (f:Int):q79 0 [.slice none 0 0] q (il f)=some ([dI (some (q07 d b f))],bl true)∨q79 0 [.slice none 0 0] q (il f)=some ([.lit (.slice none 0 0)],bl false):=by
 rcases q87 f q.1 0 (qaq h) with e | ⟨j,e,hj⟩
 ·right;simp only [q79,qhO,il,q6E,if_true,e];rfl
 ·left
  obtain ⟨g,hg,h2⟩:=h.2 j _ hj
  cases hg
  rw [Nat.zero_add] at e
  simp only [q79,qhO,il,q6E,if_true,e,h2];rfl
theorem qiJ {d:Int} {b:List E9} {q:Mr} (h:q2H d b q) (f:Int):∃ q',qhI 0 q (il f) [dI (some (q07 d b f))]=some q'∧q2H d b q':=by
 rcases q87 f q.1 0 (qaq h) with e | ⟨j,e,hj⟩
 ·refine ⟨(q.1++[.int .i64 f],q.2++[[dI (some (q07 d b f))]]),by simp only [qhI,qhO,il,q6E,if_true,e],by simp [h.1],?_⟩
  intro j v hv
  simp only at hv ⊢
  by_cases hj:j < q.1.length
  ·rw [List.getElem?_append_left hj] at hv
   obtain ⟨g,h1,h2⟩:=h.2 j v hv
   exact ⟨g,h1,by rw [List.getElem?_append_left (by rw [←h.1];exact hj)];exact h2⟩
  ·have hj2:j=q.1.length:=by
    have:=List.getElem?_eq_some_iff.1 hv
    obtain ⟨h3,_⟩:=this
    simp at h3;omega
   subst hj2
   simp at hv
   exact ⟨f,hv.symm,by rw [h.1];simp⟩
 ·rw [Nat.zero_add] at e
  refine ⟨(q.1,q.2.set j [dI (some (q07 d b f))]),by simp only [qhI,qhO,il,q6E,if_true,e],by simp [h.1],?_⟩
  intro i v hv
  simp only at hv ⊢
  obtain ⟨g,h1,h2⟩:=h.2 i v hv
  refine ⟨g,h1,?_⟩
  by_cases hij:j=i
  ·subst hij
   rw [hj] at hv
   cases hv
   have:f=g:=by cases h1;rfl
   subst this
   have hjl:j < q.2.length:=by
    obtain ⟨h3,_⟩:=List.getElem?_eq_some_iff.1 h2
    exact h3
   simp [hjl]
  ·rw [List.getElem?_set_ne hij];exact h2
end
section
attribute [local simp] q1I q1H
theorem put0 {m:Nat} {Fn:Nat→List D→Out} {FnD:D→List Sh→List D→Out} (c:Int) (k:Rr→Out) (e:Out):((q05 Fn FnD m).eqN ((q05 Fn FnD m).natN 1) ((q05 Fn FnD m).len ((q05 Fn FnD m).rows [[il c]])) ((q05 Fn FnD m).isNil ((q05 Fn FnD m).seg ((q05 Fn FnD m).rows [[il c]]) none ((q05 Fn FnD m).natN 1)) e ((q05 Fn FnD m).fits 8 ((q05 Fn FnD m).len ((q05 Fn FnD m).seg ((q05 Fn FnD m).rows [[il c]]) none ((q05 Fn FnD m).natN 1))) ((q05 Fn FnD m).ins (il 0) ((q05 Fn FnD m).rows []) ((q05 Fn FnD m).seg ((q05 Fn FnD m).rows [[il c]]) none ((q05 Fn FnD m).natN 1)) k))))=k ([c].map rI):=by
 simp only [q1o,q0C,q0B,q0J,List.length_cons,List.length_nil,q0K,List.take_succ_cons,List.take_zero,q28,q1j]
 rw [if_pos (by simp),if_pos (by simp []),qcW];rfl
theorem qcB (q:List Int):(q.map rI).take q.length=q.map rI:=List.take_of_length_le (by simp)
theorem li01 (n:Nat) (L:List Int) (hL:L.length≤1000000) (hne:L≠[]) (q:Mr) (x3 x4 x6 x7 x8 x9 x10 x11 x12 x13:D) :
  q0o [q6S (RP (n+4)),q5c (RP (n+4))] M0 0 [.d (dI (some L)),.d (il L.length),.d (il 0),.d x3,.d x4,.m q,.d x6,.d x7,.d x8,.d x9,.d x10,.d x11,.d x12,.d x13] =
   some (1,[.r ((q0u [] L).map rI),.d x3,.d x4,.m q,.d x6,.d x7,.n (q0u [] L).length,.n (q0u [] L).length,.d x8,.d x9,.d x10,.d x11,.d x12,.d x13]):=by
 refine q9F L hL hne _ _ (fun i=>[.d (dI (some L)),.d (il L.length),.d (il (i:Nat)),.d x3,.d x4,.m q,.d x6,.d x7,.d x8,.d x9,.d x10,.d x11,.d x12,.d x13])
  (fun i acc=>[.d (dI (some L)),.d (il L.length),.d (il (i:Nat)),.r (acc.map rI),.d x3,.d x4,.m q,.d x6,.d x7,.n acc.length,.n acc.length,.d x8,.d x9,.d x10,.d x11,.d x12,.d x13])
  (fun acc=>some (1,[.r (acc.map rI),.d x3,.d x4,.m q,.d x6,.d x7,.n acc.length,.n acc.length,.d x8,.d x9,.d x10,.d x11,.d x12,.d x13])) ?_ ?_ ?_
 ·intro acc k;simp [q5c]
 ·intro c k hi hlt
  have h0:=q76 (Fn:=FN (n+4)) (FnD:=q1Z Tryz.prog (cf3 tb Tryz.prog) (FN (n+4))) (m:=M0) (o:=some L) (i:=0) (c:=c) hi
  simp only [q6S,q02,q06,q0A,q00,Int.natCast_zero,hlt,decide_true,if_true]
  rw [show ((il 0):D)=il ((0:Nat):Int) from rfl,h0]
  simp only [rI,q0b,q08,q2h,qiI,q01,q02,q06,q00,Bool.false_eq_true,if_false]
  rw [put0]
  simp only [q04,q0s,q1o,q0C,q0B,q0J,List.length_cons,List.length_nil,List.take_succ_cons,List.take_zero,Int.natCast_zero]
  rw [show IntKind.i64.wrap (0+1)=((1:Nat):Int) from rfl]
  rfl
 ·intro i c acc k hi hlt hw hu hl
  have hi':((some L).getD [])[i]?=some c:=hi
  have hput:=q1A n acc c (by omega) hu
  simp only [q5c,q02,q06,q0Q,q0P,q0G,q0Z,q0A,q00,hlt,decide_true,if_true,q76 hi',rI,q0b,q0B,q0K,List.length_map,q1n,q08]
  simp only [hput,q01,q02,q1f,q04,q0s,hw,List.length_map,q0R,q0S]
theorem li5 (n:Nat) (L:List Int) (hL:L.length≤1000000) (q:Mr) (x3 x4 x6 x7 x11 x12 x13 x14 x15 x16:D) (acc:List Int) (hu:Up acc) (ha:acc.length≤1000) :
  q0o [q5b (RP (n+4))] M0 0 [.d (dI (some L)),.d (il L.length),.d (il 0),.d x3,.d x4,.m q,.d x6,.d x7,.n acc.length,.n acc.length,.r (acc.map rI),.d x11,.d x12,.d x13,.d x14,.d x15,.d x16] =
   some (0,[.d x3,.d x4,.m q,.d x6,.d x7,.n (q0u acc L).length,.n (q0u acc L).length,.r ((q0u acc L).map rI),.d x11,.d x12,.d x13,.d x14,.d x15,.d x16]):=by
 refine q7Z L hL _ (fun i acc=>[.d (dI (some L)),.d (il L.length),.d (il (i:Nat)),.d x3,.d x4,.m q,.d x6,.d x7,.n acc.length,.n acc.length,.r (acc.map rI),.d x11,.d x12,.d x13,.d x14,.d x15,.d x16])
  (fun acc=>some (0,[.d x3,.d x4,.m q,.d x6,.d x7,.n acc.length,.n acc.length,.r (acc.map rI),.d x11,.d x12,.d x13,.d x14,.d x15,.d x16])) 1000 ?_ ?_ acc hu ha
 ·intro acc k;simp [q5b]
 ·intro i c acc k hi hlt hw hu hl
  have hi':((some L).getD [])[i]?=some c:=hi
  have hput:=q1A n acc c (by omega) hu
  simp only [q5b,q02,q06,q0Q,q0P,q0G,q0Z,q0A,q00,hlt,decide_true,if_true,q76 hi',rI,q0b,q0B,q0K,List.length_map,q1n,q08]
  simp only [hput,q01,q02,q1f,q04,q0s,hw,List.length_map,q0R,q0S]
def qeG (d f:Int) (kin:D) (s:Nat×List Int×Mr):Nat×List Yr:=match s.2.1 with
 | []=>(0,[.d (il d),.d (il ((s.1:Int) - 1)),.d kin,.d (il d),.m s.2.2,.d kin,.d (il f)])
 | y::r=>(2,[.d (il d),.d (il ((s.1:Int) - 1)),.r ((y::r).map rI),.n (y::r).length,.n (y::r).length,.d kin,.d (il d),.m s.2.2,.d kin,.d (il f)])
theorem qdr (d f:Int) (kin:D) (m:Nat) {acc:List Int} (q:Mr) (h:acc≠[]):qeG d f kin (m,acc,q)=(2,[.d (il d),.d (il ((m:Int) - 1)),.r (acc.map rI),.n acc.length,.n acc.length,.d kin,.d (il d),.m q,.d kin,.d (il f)]):=by
 cases acc with
 | nil=>exact absurd rfl h
 | cons _ _=>rfl
def Q161 (d f:Int) (b:List E9) (kin:D) (T:List Int) (r:Out):Prop:=∃ (acc:List Int) (q:Mr),q2H d b q∧Up acc∧acc.length≤1000 ∧
 ((acc≠[]∧((r=some (4,[.r (acc.map rI),.n acc.length,.n acc.length,.d kin,.d (il d),.m q,.d kin,.d (il f)])∧acc=T)∨(r=some (5,[.r (acc.map rI),.n acc.length,.n acc.length,.d kin,.d (il d),.m q,.d kin,.d (il f)])∧ins f acc=T))) ∨
  (r=some (2,[.d kin,.d (il d),.m q,.d kin,.d (il f)])∧ins f []=T))
theorem q5J {acc:List Int} (hu:Up acc) (h:∀ z∈acc,1≤z∧z≤99):acc.length≤99:=by
 have:=qcw acc 1 99 hu h
 omega
theorem q4M (acc:List Int) {l:List Int} (h:l≠[]):q0u acc l≠[]:=fun e=>by
 cases l with
 | nil=>exact h rfl
 | cons x r =>
  have:x∈q0u acc (x::r):=(q1X x _ _).2 (.inr (by simp))
  rw [e] at this;simp at this
theorem l161 (n:Nat) (a b c:Option (List E9)) (o:Option (List E5)) (d f:Int) (hb:q5a (b.getD [])) (hl:(b.getD []).length≤1000000) (hf:f≤99)
  (hrec:∀ (w:Int) (q:Mr),1≤w→w < f→q2H d (b.getD []) q→∃ q':Mr,q2H d (b.getD []) q'∧FN (n+4) 1000161 [q0e a b c o,il d,.mp false q.1 q.2,il w,q0e a b c o,il d]=some (0,[.d (dI (some (q07 d (b.getD []) w))),.d (q0e a b c o),.d (il d),.d (.mp false q'.1 q'.2)]))
  (q:Mr) (hq:q2H d (b.getD []) q) :
  Q161 d f (b.getD []) (q0e a b c o) (q4y (q07 d (b.getD [])) f (q0O d f (below (b.getD []) (b.getD []).length)) []) (q0o [q2J (RP (n+4)) (il f),q6R (RP (n+4)) (il f),q2I (RP (n+4)) (il f)] M0 0 [.d (il d),.d (il (((b.getD []).length:Int) - 1)),.d (q0e a b c o),.d (il d),.m q,.d (q0e a b c o),.d (il f)]):=by
 generalize hT:q4y (q07 d (b.getD [])) f (q0O d f (below (b.getD []) (b.getD []).length)) []=T
 refine q4K (σ:=Nat×List Int×Mr) [q2J (RP (n+4)) (il f),q6R (RP (n+4)) (il f),q2I (RP (n+4)) (il f)] (qeG d f (q0e a b c o)) (fun s=>s.1)
  (fun s=>s.1≤(b.getD []).length∧Up s.2.1∧(∀ z∈s.2.1,1≤z∧z≤99)∧q2H d (b.getD []) s.2.2∧q4y (q07 d (b.getD [])) f (q0O d f (below (b.getD []) s.1)) s.2.1=T)
  (Q161 d f (b.getD []) (q0e a b c o) T) ?_ M0 ((b.getD []).length,[],q) ⟨Nat.le_refl _,by simp,by simp,hq,hT⟩ (by unfold M0;simp only;omega)
 clear hT hq q
 rintro ⟨m,acc,q⟩ k ⟨g1,g2,g3,g4,g5⟩ ih
 simp only at g1 g2 g3 g4 g5 ih
 have gl:=q5J g2 g3
 cases m with
 | zero =>
  rw [q6P] at g5
  cases acc with
  | nil =>
   refine ⟨q2J (RP (n+4)) (il f),rfl,[],q,g4,g2,by simp,.inr ⟨?_,g5⟩⟩
   simp [qeG,q2J]
  | cons y r =>
   refine ⟨q2I (RP (n+4)) (il f),rfl,y::r,q,g4,g2,by omega,.inl ⟨by simp,.inr ⟨?_,g5⟩⟩⟩
   simp [qeG,q2I]
 | succ m =>
  obtain ⟨e,he⟩:∃ e,(b.getD [])[m]?=some e:=⟨_,List.getElem?_eq_getElem (by omega)⟩
  rw [q59 he,q0O] at g5
  have hm:(((m+1:Nat):Int) - 1)=((m:Nat):Int):=by omega
  have hw:IntKind.i64.wrap (((m:Nat):Int) - 1)=((m:Nat):Int) - 1:=q0m (by omega) (by omega)
  have h194:=s194 (n+3) a b c o m e f he
  have hnn:¬ ((m:Nat):Int) < 0:=by omega
  have hmem:e∈b.getD []:=List.mem_of_getElem? he
  cases acc with
  | nil =>
   refine ⟨q2J (RP (n+4)) (il f),rfl,?_⟩
   simp only [qeG,hm,q2J,q02,q06,q04,q23,q00]
   rw [if_pos (by simp)]
   simp only [q08,h194,q01,q02,q06,q0z,q00,q1p,hw,q0S,q0R]
   by_cases h1:e.a=f
   ·rw [if_neg (by simp [h1])]
    simp only [q9X,q01,q02,q0z,q00]
    by_cases h2:q1J e.f1 e.t2 d=true
    ·rw [if_neg (by simp [h2])]
     rw [if_pos ⟨h1,h2⟩] at g5
     have hbe:=hb e hmem
     obtain ⟨q',hq',hcall⟩:=hrec e.b q hbe.1 (by omega) g4
     have hne:q07 d (b.getD []) e.b≠[]:=fun h=>by
      obtain ⟨z,hz⟩:=q3h hb (d:=d) _ e.b (Nat.le_refl _) hbe.1
      rw [h] at hz;simp at hz
     have hlen:=q6A (d:=d) hb hbe.1
     simp only [q0A,hnn,decide_false,q00,Bool.false_eq_true,if_false,q1H,hcall,q01,q02,q06,q1I,q6o,Option.getD_some,q0r]
     rw [li01 n _ (by omega) hne]
     have hin:=q4M [] hne
     have hiu:=q3O (q07 d (b.getD []) e.b) (acc:=[]) (by simp)
     have hir:∀ z∈q0u [] (q07 d (b.getD []) e.b),1≤z∧z≤99:=fun z hz=>by
      rw [q1X] at hz
      rcases hz with hz | hz
      ·simp at hz
      ·have:=q1d hb _ e.b z (Nat.le_refl _) hbe.1 hz;omega
     have hil:=q5J hiu hir
     simp only [q2N,q01,q4C,q02,q06,q0S,q0R,q0G,q0Q,q0P,q00,q0c]
     rw [q4y] at g5
     by_cases h3:q1h e.f2 e.t1 d=true
     ·rw [if_pos h3] at g5 ⊢
      exact ⟨q0u [] (q07 d (b.getD []) e.b),q',hq',hiu,by omega,.inl ⟨hin,.inl ⟨rfl,g5⟩⟩⟩
     ·rw [if_neg h3] at g5 ⊢
      have:=ih (m,q0u [] (q07 d (b.getD []) e.b),q') ⟨by simp only;omega,hiu,hir,hq',g5⟩ (by simp only;omega)
      rw [qdr _ _ _ _ _ hin] at this
      exact this
    ·rw [if_pos (by simp [h2])]
     rw [if_neg fun h=>h2 h.2] at g5
     exact ih (m,[],q) ⟨by simp only;omega,g2,g3,g4,g5⟩ (by simp only;omega)
   ·rw [if_pos (by simp [h1])]
    rw [if_neg fun h=>h1 h.1] at g5
    exact ih (m,[],q) ⟨by simp only;omega,g2,g3,g4,g5⟩ (by simp only;omega)
  | cons y r =>
   refine ⟨q2I (RP (n+4)) (il f),rfl,?_⟩
   simp only [qeG,hm,q2I,q02,q06,q04,q23,q00]
   rw [if_pos (by simp)]
   simp only [q08,h194,q01,q02,q06,q0z,q00,q1p,hw,q0S,q0R,q0G,q0Z,q0Q,q0P]
   by_cases h1:e.a=f
   ·rw [if_neg (by simp [h1])]
    simp only [q9X,q01,q02,q0z,q00]
    by_cases h2:q1J e.f1 e.t2 d=true
    ·rw [if_neg (by simp [h2])]
     rw [if_pos ⟨h1,h2⟩] at g5
     have hbe:=hb e hmem
     obtain ⟨q',hq',hcall⟩:=hrec e.b q hbe.1 (by omega) g4
     have hne:q07 d (b.getD []) e.b≠[]:=fun h=>by
      obtain ⟨z,hz⟩:=q3h hb (d:=d) _ e.b (Nat.le_refl _) hbe.1
      rw [h] at hz;simp at hz
     have hlen:=q6A (d:=d) hb hbe.1
     simp only [q0A,hnn,decide_false,q00,Bool.false_eq_true,if_false,q1H,hcall,q01,q02,q06,q1I,q6o,Option.getD_some,q0r]
     rw [li5 n _ (by omega) _ _ _ _ _ _ _ _ _ _ _ (y::r) g2 (by omega)]
     have hin:=q4M (y::r) hne
     have hiu:=q3O (q07 d (b.getD []) e.b) g2
     have hir:∀ z∈q0u (y::r) (q07 d (b.getD []) e.b),1≤z∧z≤99:=fun z hz=>by
      rw [q1X] at hz
      rcases hz with hz | hz
      ·exact g3 z hz
      ·have:=q1d hb _ e.b z (Nat.le_refl _) hbe.1 hz;omega
     have hil:=q5J hiu hir
     simp only [q01,q4C,q02,q06,q0S,q0R,q0G,q0Z,q0Q,q0P,q00,q0c]
     rw [q4y] at g5
     by_cases h3:q1h e.f2 e.t1 d=true
     ·rw [if_pos h3] at g5 ⊢
      exact ⟨q0u (y::r) (q07 d (b.getD []) e.b),q',hq',hiu,by omega,.inl ⟨hin,.inl ⟨rfl,g5⟩⟩⟩
     ·rw [if_neg h3] at g5 ⊢
      have:=ih (m,q0u (y::r) (q07 d (b.getD []) e.b),q') ⟨by simp only;omega,hiu,hir,hq',g5⟩ (by simp only;omega)
      rw [qdr _ _ _ _ _ hin] at this
      exact this
    ·rw [if_pos (by simp [h2])]
     rw [if_neg fun h=>h2 h.2] at g5
     exact ih (m,y::r,q) ⟨by simp only;omega,g2,g3,g4,g5⟩ (by simp only;omega)
   ·rw [if_pos (by simp [h1])]
    rw [if_neg fun h=>h1 h.1] at g5
    exact ih (m,y::r,q) ⟨by simp only;omega,g2,g3,g4,g5⟩ (by simp only;omega)
end
section
attribute [local simp] q1I q1H
theorem q8c (q:List Int):(.sl 1 ((q.map rI).take q.length):D)=dI (some q):=by rw [qcB];rfl
theorem s161 (a b c:Option (List E9)) (o:Option (List E5)) (d:Int) (hb:q5a (b.getD [])) (hl:(b.getD []).length≤1000000):∀ (N n:Nat) (f:Int) (q:Mr),1≤f→f.toNat≤N→f≤99→q2H d (b.getD []) q →
  ∃ q':Mr,q2H d (b.getD []) q'∧FN (n+5+N) 1000161 [q0e a b c o,il d,.mp false q.1 q.2,il f,q0e a b c o,il d]=some (0,[.d (dI (some (q07 d (b.getD []) f))),.d (q0e a b c o),.d (il d),.d (.mp false q'.1 q'.2)]):=by
 intro N
 induction N with
 | zero=>intro n f q h1 h2;omega
 | succ N ih =>
  intro n f q h1 h2 h3 hq
  have hrec:∀ (w:Int) (q:Mr),1≤w→w < f→q2H d (b.getD []) q→∃ q':Mr,q2H d (b.getD []) q'∧FN (n+1+N+4) 1000161 [q0e a b c o,il d,.mp false q.1 q.2,il w,q0e a b c o,il d]=some (0,[.d (dI (some (q07 d (b.getD []) w))),.d (q0e a b c o),.d (il d),.d (.mp false q'.1 q'.2)]):=fun w q hw1 hw2 hq=>by
   have:=ih n w q hw1 (by omega) (by omega) hq
   rw [show n+1+N+4=n+5+N by omega]
   exact this
  have hloop:=l161 (n+1+N) a b c o d f hb hl h3 hrec q hq
  rw [show n+5+(N+1)=(n+1+N+4)+1 by omega,FS,qcc]
  rw [←qax hb h1] at hloop
  generalize n+1+N=n at hloop ⊢
  simp only [qdV,q1I,qfE]
  rcases qg2 hq f with e | e
  ·rw [e]
   refine ⟨q,hq,?_⟩
   simp
  ·rw [e]
   have hp:∀ k:List D→Out,(RP (n+4)).ptrW 4 (q0e a b c o) k=k [d9 a,d9 b,d9 c,d5 o]:=fun k=>q1e _ 4 k rfl
   have w1:IntKind.i64.wrap (((b.getD []).length:Int) - 1)=((b.getD []).length:Int) - 1:=q0m (by omega) (by omega)
   have hip:∀ k:Out,(RP (n+4)).isPtr (q0e a b c o) k=k:=fun k=>rfl
   simp only [q00,Bool.false_eq_true,if_false,hip,hp,q0b,q0j,q5A,q04,q1p,w1,q0r]
   obtain ⟨acc,q1,hq1,hu,hlen,hr⟩:=hloop
   obtain ⟨q2,hq2,hm2⟩:=qiJ hq1 f
   have hd:∀ x,x=q07 d (b.getD []) f→(.sl 1 ((x.map rI).take x.length):D)=dI (some (q07 d (b.getD []) f)):=fun x hx=>by rw [q8c,hx]
   refine ⟨q2,hm2,?_⟩
   rcases hr with ⟨hne,⟨hr,hT⟩ | ⟨hr,hT⟩⟩ | ⟨hr,hT⟩
   ·rw [hr]
    simp only [q2N,q01,q0G,q0Q,q0P,q02,q06,q0S,q0R,q0B,List.length_map,q0K,if_true,q0J,q1n,q0c,qfB]
    rw [hd acc hT,hq2]
    simp
   ·rw [hr]
    have hput:=q1A n acc f (by omega) hu
    simp only [q2N,q01,q0G,q0Q,q0P,q02,q06,q0S,q0R,q0B,List.length_map,q0K,if_true,q0J,q1n,q0c,qfB,q0A,q00,q08,hput,q1f]
    rw [if_pos (by simp)]
    simp only [q01,q02,q06,q0S,q0R]
    rw [show (List.map rI (ins f acc)).take (ins f acc).length=(List.map rI (ins f acc)).take (ins f acc).length from rfl,hd (ins f acc) hT,hq2]
    simp
   ·rw [hr]
    simp only [q2N,q01,q02,q06,q0S,q0R,q0A,q00,q08,q2h,qiI]
    rw [if_pos (by simp)]
    simp only [Bool.false_eq_true,if_false]
    have hx:[f]=q07 d (b.getD []) f:=hT
    rw [←hx] at hq2 ⊢
    simp only [q1o,q0C,q0B,q0J,List.length_cons,List.length_nil,q0K,List.take_succ_cons,List.take_zero,q28,q1j]
    rw [if_pos (by simp),if_pos (by simp []),qcW]
    simp only [List.length_cons,List.length_nil,if_true,q0c,q01,q1n,List.take_succ_cons,List.take_zero,q02,q06,q0S,q0R,qfB]
    rw [show (.sl 1 [[il f]]:D)=dI (some [f]) from rfl,hq2]
    simp
end
section
theorem q7F (d who:Int):∀ {l:List E9},(∀ e∈l,e.a≠who)→q0O d who l=[none]
 | [],_=>rfl
 | e::r,h=>by
  rw [q0O,if_neg fun hh=>h e (by simp) hh.1]
  exact q7F d who fun e he=>h e (List.mem_cons_of_mem _ he)
end
section
theorem q7K {α:Type} {p:α→Bool} {src:α→Int}:∀ {l:List α} {o:Option Int},okL p src o l=true→∀ e∈l,p e=true
 | [],_,_,e,he=>by simp at he
 | x::r,o,h,e,he=>by
  unfold okL at h
  simp only [Bool.and_eq_true] at h
  rcases List.mem_cons.1 he with rfl | he
  ·exact h.1.1
  ·exact q7K h.2 e he
end
end Go.VE
