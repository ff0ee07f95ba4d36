/- Family: the plain law of leads, goes and families: the program's and the reference's are the same. -/
import Derived.Test.YtobeabinccohlaaGreatMg1
namespace Go.VE
open Go.RowKit Go.Proofs
def q0b (acc l:List Int):List Int:=l.foldl (fun acc x=>ins x acc) acc
theorem q5B (acc:List Int) (x:Int) (l:List Int):q0b acc (x::l)=q0b (ins x acc) l:=rfl
theorem q1p:∀ (l:List Int) {acc:List Int},Up acc→Up (q0b acc l)
 | [],_,h=>h
 | x::l,_,h=>q1p l (q3J x h)
theorem q19 (z:Int):∀ (l acc:List Int),z∈q0b acc l↔z∈acc∨z∈l
 | [],acc=>by simp [q0b]
 | x::l,acc=>by
  rw [q5B,q19 z l,q41,List.mem_cons]
  constructor
  ·rintro ((h | h) | h)
   ·exact .inr (.inl h)
   ·exact .inl h
   ·exact .inr (.inr h)
  ·rintro (h | h | h)
   ·exact .inl (.inr h)
   ·exact .inl (.inl h)
   ·exact .inr h
theorem q4c:∀ (l acc:List Int),(q0b acc l).length≤acc.length+l.length
 | [],acc=>by simp [q0b]
 | x::l,acc=>by
  have h1:=q4c l (ins x acc)
  have h2:=q2Z x acc
  rw [q5B];simp only [List.length_cons];omega
def q3H (L:Int→List Int) (f:Int):List (Option Int)→List Int→List Int
 | [],acc=>acc
 | none::os,acc=>q3H L f os (ins f acc)
 | some w::os,acc=>q3H L f os (q0b acc (L w))
theorem q4w {L M:Int→List Int} (f:Int):∀ {os:List (Option Int)} (acc:List Int),(∀ w,some w∈os→L w=M w)→q3H L f os acc=q3H M f os acc
 | [],_,_=>rfl
 | none::os,acc,h=>q4w f (os:=os) _ fun w hw=>h w (List.mem_cons_of_mem _ hw)
 | some w::os,acc,h=>by
  rw [q3H,q3H,h w (by simp)]
  exact q4w f (os:=os) _ fun w hw=>h w (List.mem_cons_of_mem _ hw)
theorem q9n (L:Int→List Int) (f:Int):∀ (os:List (Option Int)) {acc:List Int},Up acc→Up (q3H L f os acc)
 | [],_,h=>h
 | none::os,_,h=>q9n L f os (q3J f h)
 | some _::os,_,h=>q9n L f os (q1p _ h)
theorem q7I (L:Int→List Int) (f z:Int):∀ (os:List (Option Int)) (acc:List Int),z∈q3H L f os acc↔z∈acc∨(none∈os∧z=f)∨∃ w,some w∈os∧z∈L w
 | [],acc=>by simp [q3H]
 | none::os,acc=>by
  rw [q3H,q7I L f z os,q41]
  constructor
  ·rintro ((h | h) | ⟨h1,h2⟩ | ⟨w,hw,h⟩)
   ·exact .inr (.inl ⟨by simp,h⟩)
   ·exact .inl h
   ·exact .inr (.inl ⟨by simp,h2⟩)
   ·exact .inr (.inr ⟨w,by simp [hw],h⟩)
  ·rintro (h | ⟨_,h⟩ | ⟨w,hw,h⟩)
   ·exact .inl (.inr h)
   ·exact .inl (.inl h)
   ·exact .inr (.inr ⟨w,by simpa using hw,h⟩)
 | some v::os,acc=>by
  rw [q3H,q7I L f z os,q19]
  constructor
  ·rintro ((h | h) | ⟨h1,h2⟩ | ⟨w,hw,h⟩)
   ·exact .inl h
   ·exact .inr (.inr ⟨v,by simp,h⟩)
   ·exact .inr (.inl ⟨by simp [h1],h2⟩)
   ·exact .inr (.inr ⟨w,by simp [hw],h⟩)
  ·rintro (h | ⟨h1,h⟩ | ⟨w,hw,h⟩)
   ·exact .inl (.inl h)
   ·exact .inr (.inl ⟨by simpa using h1,h⟩)
   ·rcases List.mem_cons.1 hw with e | hw
    ·cases e;exact .inl (.inr h)
    ·exact .inr (.inr ⟨w,hw,h⟩)
def qbu (d:Int) (l:List E9):Nat→Int→List Int
 | 0,_=>[]
 | n+1,f=>q3H (qbu d l n) f (q11 d f (below l l.length)) []
def q0e (d:Int) (l:List E9) (f:Int):List Int:=qbu d l f.toNat f
def q5q (l:List E9):Prop:=∀ e∈l,1≤e.b∧e.b < e.a∧e.a≤99
theorem q5Y (d who:Int):∀ (l:List E9) (w:Int),some w∈q11 d who l→∃ e∈l,e.a=who∧e.b=w∧q1Z e.f1 e.t2 d=true
 | [],w,h=>by simp [q11] at h
 | e::r,w,h=>by
  simp only [q11] at h
  split at h
  ·rename_i h1
   rcases List.mem_cons.1 h with h | h
   ·cases h;exact ⟨e,by simp,h1.1,rfl,h1.2⟩
   ·split at h
    ·simp at h
    ·obtain ⟨e',h2,h3⟩:=q5Y d who r w h
     exact ⟨e',by simp [h2],h3⟩
  ·obtain ⟨e',h2,h3⟩:=q5Y d who r w h
   exact ⟨e',by simp [h2],h3⟩
theorem q7D (d who:Int):∀ l:List E9,q11 d who l≠[]
 | []=>by simp [q11]
 | e::r=>by
  simp only [q11]
  split
  ·simp
  ·exact q7D d who r
theorem q3r {l:List E9} {m:Nat} {e:E9} (h:e∈below l m):e∈l:=by
 unfold below at h
 exact List.mem_of_mem_take (List.mem_reverse.1 h)
theorem q2m {d f:Int} {l:List E9} {m:Nat} (hl:q5q l) {w:Int} (h:some w∈q11 d f (below l m)):1≤w∧w < f∧f≤99:=by
 obtain ⟨e,he,h1,h2,_⟩:=q5Y _ _ _ _ h
 have:=hl e (q3r he)
 omega
theorem qhf {d:Int} {l:List E9} (hl:q5q l):∀ (n:Nat) (f:Int),1≤f→f.toNat≤n→qbu d l n f=q0e d l f:=by
 intro n
 induction n using Nat.strongRecOn with
 | _ n ih =>
  intro f h1 h2
  cases n with
  | zero=>omega
  | succ n =>
   unfold q0e
   obtain ⟨m,hm⟩:∃ m,f.toNat=m+1:=⟨f.toNat - 1,by omega⟩
   rw [hm,qbu,qbu]
   refine q4w f _ fun w hw=>?_
   have:=q2m hl hw
   rw [ih n (by omega) w this.1 (by omega),ih m (by omega) w this.1 (by omega)]
theorem q67 {d:Int} {l:List E9} (hl:q5q l) {f:Int} (h1:1≤f):q0e d l f=q3H (q0e d l) f (q11 d f (below l l.length)) []:=by
 obtain ⟨m,hm⟩:∃ m,f.toNat=m+1:=⟨f.toNat - 1,by omega⟩
 unfold q0e
 rw [hm,qbu]
 refine q4w f _ fun w hw=>?_
 have:=q2m hl hw
 exact qhf hl m w this.1 (by omega)
theorem qa9 (d:Int) (l:List E9) (f:Int):Up (q0e d l f):=by
 unfold q0e
 cases f.toNat with
 | zero=>simp [qbu]
 | succ m=>exact q9n _ _ _ (by simp)
theorem q2e {d:Int} {l:List E9} (hl:q5q l) {f z:Int} (h1:1≤f):z∈q0e d l f↔(none∈q11 d f (below l l.length)∧z=f)∨∃ w,some w∈q11 d f (below l l.length)∧z∈q0e d l w:=by
 rw [q67 hl h1,q7I];simp
theorem q1c {d:Int} {l:List E9} (hl:q5q l):∀ (n:Nat) (f z:Int),f.toNat≤n→1≤f→z∈q0e d l f→1≤z∧z≤f:=by
 intro n
 induction n with
 | zero=>intro f z h1 h2;omega
 | succ n ih =>
  intro f z h1 h2 h
  rcases (q2e hl h2).1 h with ⟨_,rfl⟩ | ⟨w,hw,h⟩
  ·exact ⟨h2,Int.le_refl _⟩
  ·have:=q2m hl hw
   have:=ih w z (by omega) this.1 h
   omega
theorem q4T {d:Int} {l:List E9} (hl:q5q l):∀ (n:Nat) (f:Int),f.toNat≤n→1≤f→∃ z,z∈q0e d l f:=by
 intro n
 induction n with
 | zero=>intro f h1 h2;omega
 | succ n ih =>
  intro f h1 h2
  have hne:=q7D d f (below l l.length)
  revert hne
  generalize hq:q11 d f (below l l.length)=q
  intro hne
  cases q with
  | nil=>exact absurd rfl hne
  | cons o os =>
   cases o with
   | none=>exact ⟨f,(q2e hl h2).2 (.inl ⟨by rw [hq];simp,rfl⟩)⟩
   | some w =>
    have hw:some w∈q11 d f (below l l.length):=by rw [hq];simp
    have:=q2m hl hw
    obtain ⟨z,hz⟩:=ih w (by omega) this.1
    exact ⟨z,(q2e hl h2).2 (.inr ⟨w,hw,hz⟩)⟩
theorem qa8:∀ (l:List Int) (a b:Int),Up l→(∀ z∈l,a≤z∧z≤b)→(l.length:Int)≤max 0 (b - a+1)
 | [],a,b,_,_=>by simp;omega
 | x::l,a,b,hu,h=>by
  rw [Up,List.pairwise_cons] at hu
  have hx:=h x (by simp)
  have:=qa8 l (x+1) b hu.2 fun z hz=>⟨by have:=hu.1 z hz;omega,(h z (by simp [hz])).2⟩
  simp only [List.length_cons,Int.natCast_add,Int.natCast_one]
  omega
theorem q3i {d:Int} {l:List E9} (hl:q5q l) {f:Int} (h1:1≤f):((q0e d l f).length:Int)≤f:=by
 have:=qa8 _ 1 f (qa9 d l f) fun z hz=>q1c hl _ f z (Nat.le_refl _) h1 hz
 omega
end Go.VE
namespace Go.VE
open Go.RowKit Go.Proofs
def q2F (a c:List E9) (o:List E5) (d p:Int):Bool×Bool:=if q8y d p o=true then (false,true) else
 (((q11 d p (below a a.length)).any fun x=>decide (f0 x≠0))&&(q11 d p (below c c.length)).any Option.isNone,((q11 d p (below a a.length)).any fun x=>decide (f0 x=0))||(q11 d p (below c c.length)).any Option.isSome)
def q1F (W:Int→Bool×Bool):Option Int→Bool×Bool
 | none=>(true,false)
 | some z=>if z=0 then (false,true) else W z
def goP (a c:List E9) (o:List E5) (d p:Int):Bool×Bool:=if q8y d p o=true then (false,true) else
 ((q11 d p (below c c.length)).any fun x=>(q1F (q2F a c o d) x).1,(q11 d p (below c c.length)).any fun x=>(q1F (q2F a c o d) x).2)
def q0O (L:Int→List Int) (yes no:Bool) (x:Option Int) (acc:List Int):List Int :=
 if f0 x=0∨yes=false then (if f0 x=0∨no=true then ins 0 acc else acc) else q0b (if f0 x=0∨no=true then ins 0 acc else acc) (L (f0 x))
def qbb (L:Int→List Int) (yes no:Bool):List (Option Int)→List Int→List Int
 | [],acc=>acc
 | x::os,acc=>qbb L yes no os (q0O L yes no x acc)
def q1j (a b c:List E9) (o:List E5) (d p:Int):List Int:=qbb (q0e d b) (goP a c o d p).1 (goP a c o d p).2 (q11 d p (below a a.length)) []
theorem q8P (L:Int→List Int) (yes no:Bool) (x:Option Int) {acc:List Int} (h:Up acc):Up (q0O L yes no x acc):=by
 unfold q0O
 have h1:Up (if f0 x=0∨no=true then ins 0 acc else acc):=by split;exact q3J 0 h;exact h
 split
 ·exact h1
 ·exact q1p _ h1
theorem qed (L:Int→List Int) (yes no:Bool):∀ (os:List (Option Int)) {acc:List Int},Up acc→Up (qbb L yes no os acc)
 | [],_,h=>h
 | x::os,_,h=>qed L yes no os (q8P L yes no x h)
theorem q1v (a b c:List E9) (o:List E5) (d p:Int):Up (q1j a b c o d p):=qed _ _ _ _ (by simp)
theorem q7K (L:Int→List Int) (yes no:Bool) (x:Option Int) (acc:List Int) (z:Int):z∈q0O L yes no x acc↔z∈acc∨(z=0∧(f0 x=0∨no=true))∨(yes=true∧f0 x≠0∧z∈L (f0 x)):=by
 unfold q0O
 by_cases h0:f0 x=0
 ·simp only [h0,true_or,if_true,q41,and_true,ne_eq,not_true_eq_false,false_and,and_false,or_false]
  exact Or.comm
 ·cases yes with
  | false =>
   cases no with
   | false=>simp [h0]
   | true=>simp [h0,q41];exact Or.comm
  | true =>
   cases no with
   | false=>simp [h0,q19]
   | true =>
    simp only [h0,false_or,Bool.true_eq_false,if_false,if_true,q19,q41,and_true,true_and,ne_eq,not_false_eq_true]
    constructor
    ·rintro ((h | h) | h)
     ·exact .inr (.inl h)
     ·exact .inl h
     ·exact .inr (.inr h)
    ·rintro (h | h | h)
     ·exact .inl (.inr h)
     ·exact .inl (.inl h)
     ·exact .inr h
theorem qcE (L:Int→List Int) (yes no:Bool) (z:Int):∀ (os:List (Option Int)) (acc:List Int),z∈qbb L yes no os acc↔z∈acc∨(z=0∧∃ x∈os,f0 x=0∨no=true)∨(yes=true∧∃ x∈os,f0 x≠0∧z∈L (f0 x))
 | [],acc=>by simp [qbb]
 | x::os,acc=>by
  rw [qbb,qcE L yes no z os,q7K]
  constructor
  ·rintro ((h | ⟨h1,h2⟩ | ⟨h1,h2,h3⟩) | ⟨h1,y,hy,h2⟩ | ⟨h1,y,hy,h2⟩)
   ·exact .inl h
   ·exact .inr (.inl ⟨h1,x,by simp,h2⟩)
   ·exact .inr (.inr ⟨h1,x,by simp,h2,h3⟩)
   ·exact .inr (.inl ⟨h1,y,by simp [hy],h2⟩)
   ·exact .inr (.inr ⟨h1,y,by simp [hy],h2⟩)
  ·rintro (h | ⟨h1,y,hy,h2⟩ | ⟨h1,y,hy,h2⟩)
   ·exact .inl (.inl h)
   ·rcases List.mem_cons.1 hy with rfl | hy
    ·exact .inl (.inr (.inl ⟨h1,h2⟩))
    ·exact .inr (.inl ⟨h1,y,hy,h2⟩)
   ·rcases List.mem_cons.1 hy with rfl | hy
    ·exact .inl (.inr (.inr ⟨h1,h2⟩))
    ·exact .inr (.inr ⟨h1,y,hy,h2⟩)
theorem q1a (d p z:Int) (a:List E9):z∈q0I d p a↔∃ x∈q11 d p (below a a.length),z=f0 x:=by
 unfold q0I;rw [q6A];simp
theorem q2M (d p z:Int) (c:List E9):z∈q1T d p c↔∃ x∈q11 d p (below c c.length),z=fm x:=by
 unfold q1T;rw [q6A];simp
theorem q31 {α:Type} (p:α→Bool) (l:List α):l.any p=true↔∃ x∈l,p x=true:=List.any_eq_true
def By0 (c:List E9):Prop:=∀ e∈c,0≤e.b
theorem qbP {d p:Int} {c:List E9} (hc:By0 c) {m:Nat} {w:Int} (h:some w∈q11 d p (below c m)):0≤w:=by
 obtain ⟨e,he,_,h2,_⟩:=q5Y _ _ _ _ h
 have:=hc e (q3r he)
 omega
theorem qiV {l:List Int} {x:Int} (hx:x∈l) (hu:Up l):1 < l.length↔∃ z∈l,z≠x:=by
 cases l with
 | nil=>simp at hx
 | cons u r =>
  cases r with
  | nil =>
   simp at hx;subst hx
   constructor
   ·intro h;simp at h
   ·rintro ⟨z,hz,h⟩;simp at hz;exact absurd hz h
  | cons v r =>
   refine ⟨fun _=>?_,fun _=>by simp⟩
   rw [Up,List.pairwise_cons] at hu
   have:=hu.1 v (by simp)
   by_cases h:u=x
   ·exact ⟨v,by simp,by omega⟩
   ·exact ⟨u,by simp,h⟩
theorem qeQ {l:List Int} {x:Int} (hu:Up l) (hne:∃ z,z∈l):l=[x]↔∀ z∈l,z=x:=by
 constructor
 ·rintro rfl z hz;simpa using hz
 ·intro h
  refine qc5 hu (by simp) fun z=>?_
  obtain ⟨y,hy⟩:=hne
  have:=h y hy;subst this
  constructor
  ·intro hz;simp [h z hz]
  ·intro hz;simp at hz;subst hz;exact hy
theorem q7m (d p:Int) (a:List E9):∃ z,z∈q0I d p a:=by
 have:=q7D d p (below a a.length)
 cases hq:q11 d p (below a a.length) with
 | nil=>exact absurd hq this
 | cons x q=>exact ⟨f0 x,(q1a ..).2 ⟨x,by rw [hq];simp,rfl⟩⟩
theorem qdV {d p:Int} {c:List E9} (hc:By0 c):-1∈q1T d p c↔none∈q11 d p (below c c.length):=by
 rw [q2M]
 constructor
 ·rintro ⟨x,hx,h⟩
  cases x with
  | none=>exact hx
  | some w=>have:=qbP hc hx;simp [fm] at h;omega
 ·intro h;exact ⟨none,h,rfl⟩
theorem qdU {d p:Int} {c:List E9} (hc:By0 c):(∃ z∈q1T d p c,z≠-1)↔∃ w,some w∈q11 d p (below c c.length):=by
 constructor
 ·rintro ⟨z,hz,h⟩
  obtain ⟨x,hx,rfl⟩:=(q2M ..).1 hz
  cases x with
  | none=>simp [fm] at h
  | some w=>exact ⟨w,hx⟩
 ·rintro ⟨w,hw⟩
  have:=qbP hc hw
  exact ⟨w,(q2M ..).2 ⟨some w,hw,rfl⟩,by omega⟩
theorem q96 (l:List (Option Int)):l.any Option.isSome=true↔∃ w,some w∈l:=by
 rw [q31]
 constructor
 ·rintro ⟨x,hx,h⟩;cases x with
  | none=>simp at h
  | some w=>exact ⟨w,hx⟩
 ·rintro ⟨w,h⟩;exact ⟨_,h,rfl⟩
theorem qdz (l:List (Option Int)):l.any Option.isNone=true↔none∈l:=by
 rw [q31]
 constructor
 ·rintro ⟨x,hx,h⟩;cases x with
  | none=>exact hx
  | some w=>simp at h
 ·intro h;exact ⟨_,h,rfl⟩
theorem qc1 (a c:List E9) (o:List E5) (d p:Int) (h:(q2F a c o d p).1=false):(q2F a c o d p).2=true:=by
 revert h
 unfold q2F
 split
 ·intro _;rfl
 ·simp only
  intro h
  rw [Bool.and_eq_false_iff] at h
  rw [Bool.or_eq_true]
  rcases h with h | h
  ·left
   obtain ⟨z,hz⟩:=q7m d p a
   obtain ⟨x,hx,rfl⟩:=(q1a ..).1 hz
   have h3:=(List.any_eq_false.1 h) x hx
   exact (q31 _ _).2 ⟨x,hx,by simpa using h3⟩
  ·right
   have:=q7D d p (below c c.length)
   rw [q96]
   cases hq:q11 d p (below c c.length) with
   | nil=>exact absurd hq this
   | cons x q =>
    rw [hq] at h
    cases x with
    | none=>simp at h
    | some w=>exact ⟨w,by simp⟩
theorem qiR (a c:List E9) (o:List E5) (d p:Int) (hc:By0 c):q7p a c o d p=q5H (q2F a c o d p).1 (q2F a c o d p).2:=by
 unfold q7p qea q2F
 cases hb:q8y d p o with
 | true=>simp [q5H]
 | false =>
  simp only [Bool.false_or,Bool.false_eq_true,if_false]
  have e1:q0I d p a=[0]↔((q11 d p (below a a.length)).any fun x=>decide (f0 x≠0))=false:=by
   rw [qeQ (qc3 ..) (q7m ..),List.any_eq_false]
   constructor
   ·intro h x hx;have:=h _ ((q1a ..).2 ⟨x,hx,rfl⟩);simp [this]
   ·intro h z hz
    obtain ⟨x,hx,rfl⟩:=(q1a ..).1 hz
    have:=h x hx;simpa using this
  have e2:0∈q0I d p a↔((q11 d p (below a a.length)).any fun x=>decide (f0 x=0))=true:=by
   rw [q1a,q31]
   constructor
   ·rintro ⟨x,hx,h⟩;exact ⟨x,hx,by simp [←h]⟩
   ·rintro ⟨x,hx,h⟩;exact ⟨x,hx,by simpa using (of_decide_eq_true h).symm⟩
  have e3:-1∈q1T d p c↔(q11 d p (below c c.length)).any Option.isNone=true:=by rw [qdV hc,qdz]
  have e4:-1∈q1T d p c→(1 < (q1T d p c).length↔(q11 d p (below c c.length)).any Option.isSome=true):=fun h=>by
   rw [qiV h (qgC ..),qdU hc,q96]
  revert e1 e2 e3 e4
  generalize (q11 d p (below a a.length)).any (fun x=>decide (f0 x≠0))=q1
  generalize (q11 d p (below a a.length)).any (fun x=>decide (f0 x=0))=q2
  generalize (q11 d p (below c c.length)).any Option.isNone=q3
  generalize (q11 d p (below c c.length)).any Option.isSome=q4
  intro e1 e2 e3 e4
  cases q1 with
  | false=>simp [e1.2 rfl,q5H]
  | true =>
   have n1:¬ q0I d p a=[0]:=fun h=>by have:=e1.1 h;cases this
   cases q3 with
   | false =>
    have n3:¬ -1∈q1T d p c:=fun h=>by have:=e3.1 h;cases this
    simp [n1,n3,q5H]
   | true =>
    have n3:=e3.2 rfl
    have e4:=e4 n3
    rw [if_neg (by simp [n1,n3])]
    by_cases h2:0∈q0I d p a
    ·have:=e2.1 h2;subst this
     rw [if_pos (.inl h2)];simp [q5H]
    ·have:q2=false:=by cases q2;rfl;exact absurd (e2.2 rfl) h2
     subst this
     cases q4 with
     | true=>rw [if_pos (.inr (e4.2 rfl))];simp [q5H]
     | false =>
      rw [if_neg]
      ·simp [q5H]
      ·rintro (h | h)
       ·exact h2 h
       ·have:=e4.1 h;cases this
theorem qk8 (y n:Bool):q5H y n≠0↔y=true:=by cases y<;>cases n<;>simp [q5H]
theorem qhS (y n:Bool):q5H y n≠1↔(y=false∨n=true):=by cases y<;>cases n<;>simp [q5H]
theorem q7o (a c:List E9) (o:List E5) (d:Int) (hc:By0 c) (x:Option Int) (hx:∀ w,x=some w→0≤w):(byI a c o d (fm x)≠0↔(q1F (q2F a c o d) x).1=true)∧(byI a c o d (fm x)≠1↔(q1F (q2F a c o d) x).2=true):=by
 cases x with
 | none=>simp [byI,fm,q1F]
 | some w =>
  have:=hx w rfl
  by_cases h:w=0
  ·subst h;simp [byI,fm,q1F]
  ·have h2:0 < w:=by omega
   simp only [byI,fm,Option.getD_some,h2,if_true,q1F,h,if_false]
   rw [qiR a c o d w hc,qk8,qhS]
   refine ⟨Iff.rfl,⟨fun h=>?_,fun h=>.inr h⟩⟩
   rcases h with h | h
   ·exact qc1 _ _ _ _ _ h
   ·exact h
theorem qiK (a c:List E9) (o:List E5) (d p:Int) (hc:By0 c):((q1T d p c).any fun z=>decide (byI a c o d z≠0))=((q11 d p (below c c.length)).any fun x=>(q1F (q2F a c o d) x).1)∧((q1T d p c).any fun z=>decide (byI a c o d z≠1))=((q11 d p (below c c.length)).any fun x=>(q1F (q2F a c o d) x).2):=by
 have key:∀ x∈q11 d p (below c c.length),∀ w,x=some w→0≤w:=fun x hx w h=>by subst h;exact qbP hc hx
 constructor
 ·rw [Bool.eq_iff_iff,q31,q31]
  constructor
  ·rintro ⟨z,hz,h⟩
   obtain ⟨x,hx,rfl⟩:=(q2M ..).1 hz
   exact ⟨x,hx,(q7o a c o d hc x (key x hx)).1.1 (by simpa using h)⟩
  ·rintro ⟨x,hx,h⟩
   exact ⟨fm x,(q2M ..).2 ⟨x,hx,rfl⟩,by simpa using (q7o a c o d hc x (key x hx)).1.2 h⟩
 ·rw [Bool.eq_iff_iff,q31,q31]
  constructor
  ·rintro ⟨z,hz,h⟩
   obtain ⟨x,hx,rfl⟩:=(q2M ..).1 hz
   exact ⟨x,hx,(q7o a c o d hc x (key x hx)).2.1 (by simpa using h)⟩
  ·rintro ⟨x,hx,h⟩
   exact ⟨fm x,(q2M ..).2 ⟨x,hx,rfl⟩,by simpa using (q7o a c o d hc x (key x hx)).2.2 h⟩
theorem qfs (a c:List E9) (o:List E5) (d p:Int) (h:(goP a c o d p).1=false):(goP a c o d p).2=true:=by
 revert h
 unfold goP
 split
 ·intro _;rfl
 ·simp only
  intro h
  have:=q7D d p (below c c.length)
  cases hq:q11 d p (below c c.length) with
  | nil=>exact absurd hq this
  | cons x q =>
   rw [hq] at h
   have h1:=List.any_eq_false.1 h x (by simp)
   have h2:(q1F (q2F a c o d) x).2=true:=by
    cases x with
    | none=>simp [q1F] at h1
    | some w =>
     simp only [q1F] at h1 ⊢
     split
     ·rfl
     ·rename_i hw
      rw [if_neg hw] at h1
      exact qc1 _ _ _ _ _ (by simpa using h1)
   exact (q31 _ _).2 ⟨x,by simp,h2⟩
theorem q84 (a c:List E9) (o:List E5) (d p:Int) (hc:By0 c):q1g a c o d p=q5H ((goP a c o d p).1&&!decide (q0I d p a=[0])) ((goP a c o d p).2||decide (0∈q0I d p a)):=by
 unfold q1g goP
 cases hb:q8y d p o with
 | true=>simp [q5H]
 | false =>
  simp only [Bool.false_or,Bool.false_eq_true,if_false]
  rw [(qiK a c o d p hc).1,(qiK a c o d p hc).2]
  by_cases h:q0I d p a=[0]
  ·simp [h,q5H]
  ·simp [h,Bool.or_comm]
theorem q2q {a b c:List E9} {o:List E5} {d p z:Int}:z∈q1j a b c o d p↔(z=0∧(0∈q0I d p a∨(goP a c o d p).2=true))∨((goP a c o d p).1=true∧∃ h∈q0I d p a,h≠0∧z∈q0e d b h):=by
 unfold q1j
 rw [qcE]
 simp only [List.not_mem_nil,false_or]
 constructor
 ·rintro (⟨h1,x,hx,h2⟩ | ⟨h1,x,hx,h2,h3⟩)
  ·refine .inl ⟨h1,?_⟩
   rcases h2 with h2 | h2
   ·exact .inl ((q1a ..).2 ⟨x,hx,h2.symm⟩)
   ·exact .inr h2
  ·exact .inr ⟨h1,f0 x,(q1a ..).2 ⟨x,hx,rfl⟩,h2,h3⟩
 ·rintro (⟨h1,h2⟩ | ⟨h1,h,hh,h2,h3⟩)
  ·refine .inl ⟨h1,?_⟩
   rcases h2 with h2 | h2
   ·obtain ⟨x,hx,h2⟩:=(q1a ..).1 h2
    exact ⟨x,hx,.inl h2.symm⟩
   ·obtain ⟨z,hz⟩:=q7m d p a
    obtain ⟨x,hx,_⟩:=(q1a ..).1 hz
    exact ⟨x,hx,.inr h2⟩
  ·obtain ⟨x,hx,rfl⟩:=(q1a ..).1 hh
   exact .inr ⟨h1,x,hx,h2,h3⟩
theorem qiA {d p:Int} {a:List E9}:q0I d p a=[0]↔∀ h∈q0I d p a,h=0:=qeQ (qc3 ..) (q7m ..)
end Go.VE
namespace Go.VE
open Go.RowKit Go.Proofs
def qe7 (a:List E9):Prop:=∀ e∈a,1≤e.b∧e.b≤99
theorem q2b {d p:Int} {a:List E9} (ha:qe7 a) {h:Int} (hh:h∈q0I d p a):0≤h∧h≤99:=by
 obtain ⟨x,hx,rfl⟩:=(q1a ..).1 hh
 cases x with
 | none=>simp [f0]
 | some w =>
  obtain ⟨e,he,_,h2,_⟩:=q5Y _ _ _ _ hx
  have:=ha e (q3r he)
  simp only [f0,Option.getD_some];omega
theorem q1d {a b c:List E9} {o:List E5} {d p z:Int} (ha:qe7 a) (hb:q5q b) (hz:z∈q1j a b c o d p):0≤z∧z≤99:=by
 rcases q2q.1 hz with ⟨rfl,_⟩ | ⟨_,h,hh,h0,hl⟩
 ·omega
 ·have:=q2b ha hh
  have:=q1c hb _ h z (Nat.le_refl _) (by omega) hl
  omega
theorem q9U {a b c:List E9} {o:List E5} {d p:Int} (ha:qe7 a) (hb:q5q b):0∈q1j a b c o d p↔(0∈q0I d p a∨(goP a c o d p).2=true):=by
 rw [q2q]
 constructor
 ·rintro (⟨_,h⟩ | ⟨_,h,hh,h0,hl⟩)
  ·exact h
  ·have:=q2b ha hh
   have:=q1c hb _ h 0 (Nat.le_refl _) (by omega) hl
   omega
 ·intro h;exact .inl ⟨rfl,h⟩
theorem qbI {a b c:List E9} {o:List E5} {d p:Int} (ha:qe7 a) (hb:q5q b):(∃ z∈q1j a b c o d p,z≠0)↔((goP a c o d p).1=true∧q0I d p a≠[0]):=by
 constructor
 ·rintro ⟨z,hz,h0⟩
  rcases q2q.1 hz with ⟨rfl,_⟩ | ⟨h1,h,hh,h2,_⟩
  ·exact absurd rfl h0
  ·exact ⟨h1,fun e=>h2 (qiA.1 e h hh)⟩
 ·rintro ⟨h1,h2⟩
  rw [Ne,qiA] at h2
  have:∃ h∈q0I d p a,h≠0:=by
   apply Classical.byContradiction;intro hn
   exact h2 fun h hh=>Classical.byContradiction fun h0=>hn ⟨h,hh,h0⟩
  obtain ⟨h,hh,h0⟩:=this
  have:=q2b ha hh
  obtain ⟨z,hz⟩:=q4T hb _ h (Nat.le_refl _) (by omega)
  have:=q1c hb _ h z (Nat.le_refl _) (by omega) hz
  exact ⟨z,q2q.2 (.inr ⟨h1,h,hh,h0,hz⟩),by omega⟩
theorem q78 {a b c:List E9} {o:List E5} {d p:Int} (ha:qe7 a) (hb:q5q b):∃ z,z∈q1j a b c o d p:=by
 by_cases h:0∈q1j a b c o d p
 ·exact ⟨0,h⟩
 ·rw [q9U ha hb,not_or] at h
  have h1:(goP a c o d p).1=true:=by
   cases hq:(goP a c o d p).1
   ·exact absurd (qfs _ _ _ _ _ hq) h.2
   ·rfl
  have h2:q0I d p a≠[0]:=fun e=>h.1 (by rw [e];simp)
  obtain ⟨z,hz,_⟩:=(qbI (c:=c) (o:=o) ha hb).2 ⟨h1,h2⟩
  exact ⟨z,hz⟩
theorem qbc {l:List Int} (hu:Up l) (hr:∀ z∈l,0≤z) (hne:∃ z,z∈l):∃ x r,l=x::r∧(x=0↔0∈l):=by
 cases l with
 | nil=>obtain ⟨z,hz⟩:=hne;simp at hz
 | cons x r =>
  refine ⟨x,r,rfl,fun h=>by simp [h],fun h=>?_⟩
  rw [Up,List.pairwise_cons] at hu
  rcases List.mem_cons.1 h with h | h
  ·exact h.symm
  ·have:=hu.1 0 h
   have:=hr x (by simp)
   omega
theorem qec:∀ {l:List Int},Up l→(∀ z∈l,0≤z)→∀ {y:Int},l[l.length - 1]?=some y→(y≠0↔∃ z∈l,z≠0)
 | [],_,_,y,h=>by simp at h
 | [x],_,_,y,h=>by simp at h;subst h;simp
 | x::w::r,hu,hr,y,h=>by
  rw [Up,List.pairwise_cons] at hu
  have h':(w::r)[(w::r).length - 1]?=some y:=by simpa using h
  have ih:=qec (l:=w::r) hu.2 (fun z hz=>hr z (List.mem_cons_of_mem _ hz)) h'
  have hm:y∈w::r:=List.mem_of_getElem? h'
  have h1:=hu.1 y hm
  have h2:=hr x (by simp)
  exact ⟨fun _=>⟨y,List.mem_cons_of_mem _ hm,by omega⟩,fun _=>by omega⟩
theorem qjD {a b c:List E9} {o:List E5} {d p:Int} (ha:qe7 a) (hb:q5q b) (hc:By0 c) {x y:Int} {r:List Int} (hx:q1j a b c o d p=x::r) (hy:(q1j a b c o d p)[(q1j a b c o d p).length - 1]?=some y):q5H (decide (y≠0)) (decide (x=0))=q1g a c o d p:=by
 have hr:∀ z∈q1j a b c o d p,0≤z:=fun z hz=>(q1d ha hb hz).1
 have h1:=qec (q1v a b c o d p) hr hy
 obtain ⟨x',r',e,h2⟩:=qbc (q1v a b c o d p) hr (q78 ha hb)
 rw [hx] at e;cases e
 rw [qbI ha hb] at h1
 rw [q9U ha hb] at h2
 rw [q84 a c o d p hc]
 have e1:decide (y≠0)=((goP a c o d p).1&&!decide (q0I d p a=[0])):=by
  rw [Bool.eq_iff_iff,decide_eq_true_iff,h1];simp
 have e2:decide (x=0)=((goP a c o d p).2||decide (0∈q0I d p a)):=by
  rw [Bool.eq_iff_iff,decide_eq_true_iff,h2];simp [or_comm]
 rw [e1,e2]
def q3b (l:List Int) (f:Int):Int:=if f∈l then (if 1 < l.length then 2 else 1) else 0
theorem forP (l:List Int) (f x:Int) (r:List Int) (h:l=x::r):q5H (decide (f∈l)) (decide (1 < l.length)||decide (x≠f))=q3b l f:=by
 unfold q3b q5H
 subst h
 by_cases h1:f∈x::r
 ·simp only [h1,decide_true,if_true]
  by_cases h2:1 < (x::r).length
  ·simp only [h2,decide_true,Bool.true_or,if_true]
  ·have:r=[]:=by cases r;rfl;simp at h2
   subst this
   have:f=x:=by simpa using h1
   subst this
   simp
 ·simp [h1]
end Go.VE
namespace Go.VE
open Go.RowKit Go.Proofs
def qgl {σ:Type} (step:σ→Int→σ) (stopO noneO:σ→Out):σ→List (Option Int)→Out
 | s,[]=>stopO s
 | s,none::_=>noneO s
 | s,some w::os=>qgl step stopO noneO (step s w) os
def qgc:List (Option Int)→Prop
 | []=>True
 | none::r=>r=[]
 | some _::r=>qgc r
theorem q48 (d who:Int):∀ l:List E9,qgc (q11 d who l)
 | []=>rfl
 | e::r=>by
  simp only [q11]
  split
  ·split
   ·trivial
   ·exact q48 d who r
  ·exact q48 d who r
theorem q5Z {σ:Type} (l:List E9) (hl:l.length≤1000000) (d who:Int) (bs:List ((Nat→List Yr→Out)→List Yr→Out)) (en:Nat→σ→Nat×List Yr) (I:Nat→σ→Prop) (step:σ→Int→σ) (stopO noneO:σ→Out)
  (h0:∀ s k,I 0 s→∃ b,bs[(en 0 s).1]?=some b∧b k (en 0 s).2=noneO s)
  (h1:∀ (m:Nat) e s (k:Nat→List Yr→Out),l[m]?=some e→m < l.length→IntKind.i64.wrap (((m:Nat):Int) - 1)=((m:Nat):Int) - 1→(((m+1:Nat):Int) - 1)=((m:Nat):Int)→I (m+1) s →
   I m s∧(e.a=who→q1Z e.f1 e.t2 d=true→I m (step s e.b))∧∃ b,bs[(en (m+1) s).1]?=some b∧b k (en (m+1) s).2=if e.a=who∧q1Z e.f1 e.t2 d=true then (if q1C e.f2 e.t1 d=true then stopO (step s e.b) else k (en m (step s e.b)).1 (en m (step s e.b)).2) else k (en m s).1 (en m s).2)
  (s:σ) (hs:I l.length s):q0l bs M0 (en l.length s).1 (en l.length s).2=qgl step stopO noneO s (q11 d who (below l l.length)):=by
 refine q1Y (σ:=Nat×σ) bs (fun s=>en s.1 s.2) (fun s=>s.1) (fun s=>s.1≤l.length∧I s.1 s.2) (fun s=>qgl step stopO noneO s.2 (q11 d who (below l s.1))) ?_ M0 (l.length,s) ⟨Nat.le_refl _,hs⟩ (by unfold M0;simp only;omega)
 rintro ⟨m,s⟩ k ⟨g1,g2⟩ ih
 simp only at g1 g2 ih ⊢
 cases m with
 | zero=>exact h0 s k g2
 | succ m =>
  obtain ⟨e,he⟩:∃ e,l[m]?=some e:=⟨_,List.getElem?_eq_getElem (by omega)⟩
  obtain ⟨i1,i2,b,hb,hr⟩:=h1 m e s k he (by omega) (q0f (by omega) (by omega)) (by omega) g2
  refine ⟨b,hb,?_⟩
  rw [hr,q3m he,q11]
  split
  ·rename_i hc
   split
   ·rfl
   ·exact ih (m,step s e.b) ⟨by simp only;omega,i2 hc.1 hc.2⟩ (by simp only;omega)
  ·exact ih (m,s) ⟨by simp only;omega,i1⟩ (by simp only;omega)
theorem q59 {σ:Type} {step:σ→Int→σ} {stopO noneO:σ→Out} (R:σ→List (Option Int)→Out) (h0:∀ s,stopO s=R s []) (h1:∀ s,noneO s=R s [none]) (h2:∀ s w os,R (step s w) os=R s (some w::os)):∀ (os:List (Option Int)) (s:σ),qgc os→qgl step stopO noneO s os=R s os
 | [],s,_=>h0 s
 | none::r,s,h=>by have:r=[]:=h;subst this;exact h1 s
 | some w::os,s,h=>by
  have:=q59 R h0 h1 h2 os (step s w) h
  rw [qgl,this,h2]
section
variable {Fn:Nat→List D→Out} {FnD:D→List Sh→List D→Out} {m:Nat}
end
end Go.VE
namespace Go.VE
open Go.RowKit Go.Proofs
def hB:Option Int→Bool
 | some w=>decide (w≠0)
 | none=>false
def zB:Option Int→Bool
 | some w=>decide (w=0)
 | none=>false
def R196 (x0 x1:D) (s:Bool×Bool) (os:List (Option Int)):Out:=some (if os.any Option.isNone=true then 0 else 1,[.d (bl false),.d (bl (s.1||os.any hB)),.d (bl (s.2||os.any zB)),.d x0,.d x1])
set_option maxRecDepth 20000 in
theorem l196_0 (n:Nat) (a b c:Option (List E9)) (o:Option (List E5)) (d who:Int) (hl:(a.getD []).length≤1000000) (s:Bool×Bool) :
  q0l [L196_0 (RP (n+4))] M0 0 [.d (il d),.d (il (((a.getD []).length:Int) - 1)),.d (bl false),.d (bl s.1),.d (bl s.2),.d (q0U a b c o),.d (il who)]=R196 (q0U a b c o) (il who) s (q11 d who (below (a.getD []) (a.getD []).length)):=by
 have:=q5Z (σ:=Bool×Bool) (a.getD []) hl d who [L196_0 (RP (n+4))] (fun m s=>(0,[.d (il d),.d (il ((m:Int) - 1)),.d (bl false),.d (bl s.1),.d (bl s.2),.d (q0U a b c o),.d (il who)])) (fun _ _=>True) (fun s w=>(s.1||decide (w≠0),s.2||decide (w=0)))
  (fun s=>some (1,[.d (bl false),.d (bl s.1),.d (bl s.2),.d (q0U a b c o),.d (il who)])) (fun s=>some (0,[.d (bl false),.d (bl s.1),.d (bl s.2),.d (q0U a b c o),.d (il who)])) ?_ ?_ s trivial
 ·refine Eq.trans this (q59 (R196 (q0U a b c o) (il who)) ?_ ?_ ?_ _ s (q48 _ _ _))
  ·intro s;simp [R196]
  ·intro s;simp [R196,hB,zB]
  ·intro s w os;simp only [R196,List.any_cons,hB,zB,Option.isNone_some,Bool.false_or,Bool.or_assoc]
 ·intro s k _
  exact ⟨_,rfl,by simp [L196_0]⟩
 ·intro m e s k he hm hw hm1 _
  refine ⟨trivial,fun _ _=>trivial,_,rfl,?_⟩
  have h157:=s157 (n+3) a b c o m e who he
  simp only [hm1,L196_0,q02,q04,q03,q1S,q01]
  rw [if_pos (by simp)]
  simp only [q06,h157,q00,q02,q04,q0J,q01,q1o,hw,qgi,q0K,q0d,q0y]
  obtain ⟨s1,s2⟩:=s
  by_cases h1:e.a=who
  ·by_cases h2:q1Z e.f1 e.t2 d=true
   ·rw [if_pos (⟨h1,h2⟩:e.a=who∧q1Z e.f1 e.t2 d=true)]
    cases s1<;>cases s2<;>cases hq:q1C e.f2 e.t1 d<;>simp [h1,h2,qa5,hq]
   ·rw [if_neg (fun h=>h2 h.2:¬ (e.a=who∧q1Z e.f1 e.t2 d=true))]
    simp [h1,h2]
  ·rw [if_neg (fun h=>h1 h.1:¬ (e.a=who∧q1Z e.f1 e.t2 d=true))]
   simp [h1]
def qb7 (x0 x1 x2 x3:D) (h:Bool) (s:Bool) (os:List (Option Int)):Out:=some (if os.any Option.isNone=true then 0 else 1,[.d (bl false),.d (bl h),.d (bl (s||os.any Option.isSome)),.d x0,.d x1,.d x2,.d x3])
set_option maxRecDepth 20000 in
theorem l196_1 (n:Nat) (a b c:Option (List E9)) (o:Option (List E5)) (d who:Int) (x0 x1:D) (hl:(c.getD []).length≤1000000) (h s:Bool) :
  q0l [L196_1 (RP (n+4))] M0 0 [.d (il d),.d (il (((c.getD []).length:Int) - 1)),.d (bl false),.d (bl h),.d (bl s),.d x0,.d x1,.d (q0U a b c o),.d (il who)]=qb7 x0 x1 (q0U a b c o) (il who) h s (q11 d who (below (c.getD []) (c.getD []).length)):=by
 have:=q5Z (σ:=Bool) (c.getD []) hl d who [L196_1 (RP (n+4))] (fun m s=>(0,[.d (il d),.d (il ((m:Int) - 1)),.d (bl false),.d (bl h),.d (bl s),.d x0,.d x1,.d (q0U a b c o),.d (il who)])) (fun _ _=>True) (fun _ _=>true)
  (fun s=>some (1,[.d (bl false),.d (bl h),.d (bl s),.d x0,.d x1,.d (q0U a b c o),.d (il who)])) (fun s=>some (0,[.d (bl false),.d (bl h),.d (bl s),.d x0,.d x1,.d (q0U a b c o),.d (il who)])) ?_ ?_ s trivial
 ·refine Eq.trans this (q59 (qb7 x0 x1 (q0U a b c o) (il who) h) ?_ ?_ ?_ _ s (q48 _ _ _))
  ·intro s;simp [qb7]
  ·intro s;simp [qb7]
  ·intro s w os;simp [qb7]
 ·intro s k _
  exact ⟨_,rfl,by simp [L196_1]⟩
 ·intro m e s k he hm hw hm1 _
  refine ⟨trivial,fun _ _=>trivial,_,rfl,?_⟩
  have h195:=s195 (n+3) a b c o m e who he
  have hnn:¬ ((m:Nat):Int) < 0:=by omega
  simp only [hm1,L196_1,q02,q04,q03,q1S,q01]
  rw [if_pos (by simp)]
  simp only [q06,h195,q00,q02,q04,q0J,q01,q1o,hw,qgi,q0K,q0d,q0n]
  by_cases h1:e.a=who
  ·by_cases h2:q1Z e.f1 e.t2 d=true
   ·rw [if_pos (⟨h1,h2⟩:e.a=who∧q1Z e.f1 e.t2 d=true)]
    cases s<;>cases hq:q1C e.f2 e.t1 d<;>simp [h1,h2,hnn,qa5,hq]
   ·rw [if_neg (fun h=>h2 h.2:¬ (e.a=who∧q1Z e.f1 e.t2 d=true))]
    simp [h1,h2]
  ·rw [if_neg (fun h=>h1 h.1:¬ (e.a=who∧q1Z e.f1 e.t2 d=true))]
   simp [h1]
theorem qkf (n:Nat):L196_2 (RP n)=L196_1 (RP n):=rfl
theorem qke (n:Nat):L196_3 (RP n)=L196_1 (RP n):=rfl
theorem hB_any (os:List (Option Int)):(os.any fun x=>decide (f0 x≠0))=os.any hB:=by
 congr 1;funext x;cases x<;>rfl
theorem zB_any (os:List (Option Int)):(os.any fun x=>decide (f0 x=0))=(os.any zB||os.any Option.isNone):=by
 induction os with
 | nil=>rfl
 | cons x os ih =>
  rw [List.any_cons,ih,List.any_cons,List.any_cons]
  cases x with
  | none=>simp [f0,zB]
  | some w=>simp only [zB,Option.isNone_some,Bool.false_or,Bool.or_assoc];rfl
set_option maxRecDepth 20000 in
theorem s196 (n:Nat) (a b c:Option (List E9)) (o:Option (List E5)) (d who:Int) (hd:0≤d∧d≤4166) (ha:(a.getD []).length≤1000000) (hc:(c.getD []).length≤1000000) (ho:(o.getD []).length≤1000000) :
  FN (n+6) 196 [d9 a,d9 b,d9 c,d5 o,il who,il d]=some (0,[.d (bl (q2F (a.getD []) (c.getD []) (o.getD []) d who).1),.d (bl (q2F (a.getD []) (c.getD []) (o.getD []) d who).2)]):=by
 rw [F196]
 have h0:=l196_0 (n+1) a b c o d who ha (false,false)
 have h1:=fun h s=>l196_1 (n+1) a b c o d who (q0U a b c o) (il who) hc h s
 simp only [q0U] at h0 h1
 simp only [G196,q06,s214 n (d9 a) (d9 b) (d9 c) o d who hd (by omega),q00,q02,q01,q0K,q0d,q5u,q3Z]
 unfold q2F
 cases q8y d who (o.getD []) with
 | true=>simp
 | false =>
  simp only [Bool.false_eq_true,if_false]
  have hp:∀ k:List D→Out,(RP (n+5)).ptrW 4 (.dp [d9 a,d9 b,d9 c,d5 o] 0) k=k [d9 a,d9 b,d9 c,d5 o]:=fun k=>q1O _ 4 k rfl
  have w1:IntKind.i64.wrap (((a.getD []).length:Int) - 1)=((a.getD []).length:Int) - 1:=q0f (by omega) (by omega)
  have w2:IntKind.i64.wrap (((c.getD []).length:Int) - 1)=((c.getD []).length:Int) - 1:=q0f (by omega) (by omega)
  simp only [hp,q07,q0g,q4R,q03,q1o,w1,w2,q0r]
  rw [show (RP (n+5))=RP (n+1+4) from rfl] at *
  rw [h0,hB_any,zB_any]
  simp only [R196,Bool.false_or]
  generalize q11 d who (below (a.getD []) (a.getD []).length)=q at *
  cases hn:q.any Option.isNone with
  | true =>
   simp only [if_true,q00,q02,q04,q01,q0y,ne_eq,not_true_eq_false,decide_false]
   cases hh:q.any hB<;>cases hz:q.any zB<;>simp only [Bool.false_eq_true,if_true,if_false,q00,q02,q04,q01,qkf,h1,qb7] <;>
    (cases hn2:(q11 d who (below (c.getD []) (c.getD []).length)).any Option.isNone<;>cases hn3:(q11 d who (below (c.getD []) (c.getD []).length)).any Option.isSome<;>simp [h1,qb7,hn2,hn3])
  | false =>
   simp only [Bool.false_eq_true,if_false,q1E,q00,q02,q04,qke,h1,qb7]
   cases hh:q.any hB<;>cases hz:q.any zB <;>
    (cases hn2:(q11 d who (below (c.getD []) (c.getD []).length)).any Option.isNone<;>cases hn3:(q11 d who (below (c.getD []) (c.getD []).length)).any Option.isSome<;>simp [])
end Go.VE
namespace Go.VE
open Go.RowKit Go.Proofs
def q4W (W:Int→Bool×Bool):Option Int→Bool×Bool
 | none=>(false,false)
 | some z=>q1F W (some z)
def Q163 (x0 x1:D) (W:Int→Bool×Bool) (s:Bool×Bool) (os:List (Option Int)):Out:=some (if os.any Option.isNone=true then 1 else 0,[.d (bl (s.1||os.any fun x=>(q4W W x).2)),.d (bl (s.2||os.any fun x=>(q4W W x).1)),.d x0,.d x1])
set_option maxRecDepth 20000 in
theorem l163 (n:Nat) (a b c:Option (List E9)) (o:Option (List E5)) (d who:Int) (hd:0≤d∧d≤4166) (ha:(a.getD []).length≤1000000) (hc:(c.getD []).length≤1000000) (ho:(o.getD []).length≤1000000) (s:Bool×Bool) :
  q0l [L163_0 (RP (n+6)) (d9 a) (d9 b) (d9 c) (d5 o) (il d)] M0 0 [.d (il d),.d (il (((c.getD []).length:Int) - 1)),.d (bl s.1),.d (bl s.2),.d (q0U a b c o),.d (il who)]=Q163 (q0U a b c o) (il who) (q2F (a.getD []) (c.getD []) (o.getD []) d) s (q11 d who (below (c.getD []) (c.getD []).length)):=by
 have:=q5Z (σ:=Bool×Bool) (c.getD []) hc d who [L163_0 (RP (n+6)) (d9 a) (d9 b) (d9 c) (d5 o) (il d)] (fun m s=>(0,[.d (il d),.d (il ((m:Int) - 1)),.d (bl s.1),.d (bl s.2),.d (q0U a b c o),.d (il who)])) (fun _ _=>True) (fun s w=>(s.1||(q1F (q2F (a.getD []) (c.getD []) (o.getD []) d) (some w)).2,s.2||(q1F (q2F (a.getD []) (c.getD []) (o.getD []) d) (some w)).1))
  (fun s=>some (0,[.d (bl s.1),.d (bl s.2),.d (q0U a b c o),.d (il who)])) (fun s=>some (1,[.d (bl s.1),.d (bl s.2),.d (q0U a b c o),.d (il who)])) ?_ ?_ s trivial
 ·refine Eq.trans this (q59 (Q163 (q0U a b c o) (il who) (q2F (a.getD []) (c.getD []) (o.getD []) d)) ?_ ?_ ?_ _ s (q48 _ _ _))
  ·intro s;simp [Q163]
  ·intro s;simp [Q163,q4W]
  ·intro s w os;simp only [Q163,List.any_cons,q4W,Option.isNone_some,Bool.false_or,Bool.or_assoc]
 ·intro s k _
  exact ⟨_,rfl,by simp [L163_0]⟩
 ·intro m e s k he hm hw hm1 _
  refine ⟨trivial,fun _ _=>trivial,_,rfl,?_⟩
  have h195:=s195 (n+5) a b c o m e who he
  have h196:=s196 n a b c o d e.b hd ha hc ho
  have hnn:¬ ((m:Nat):Int) < 0:=by omega
  have hp:∀ k:List D→Out,(RP (n+6)).ptrW 4 (.dp [d9 a,d9 b,d9 c,d5 o] 0) k=k [d9 a,d9 b,d9 c,d5 o]:=fun k=>q1O _ 4 k rfl
  simp only [hm1,L163_0,q02,q04,q03,q1S,q01]
  rw [if_pos (by simp)]
  simp only [q06,h195,q00,q02,q04,q0J,q01,q1o,hw,qgi,qa5,q0K,q0d,q0M,q0n,hnn,decide_false,Bool.false_eq_true,if_false,q5u,hp,q07,q0g,h196,q1F]
  obtain ⟨s1,s2⟩:=s
  by_cases h1:e.a=who
  ·by_cases h2:q1Z e.f1 e.t2 d=true
   ·rw [if_pos (⟨h1,h2⟩:e.a=who∧q1Z e.f1 e.t2 d=true)]
    by_cases h3:e.b=0
    ·cases s1<;>cases s2<;>cases hq:q1C e.f2 e.t1 d<;>simp [h1,h2,h3]
    ·cases s1<;>cases s2<;>cases hq:q1C e.f2 e.t1 d<;>simp [h1,h2,h3]
   ·rw [if_neg (fun h=>h2 h.2:¬ (e.a=who∧q1Z e.f1 e.t2 d=true))]
    simp [h1,h2]
  ·rw [if_neg (fun h=>h1 h.1:¬ (e.a=who∧q1Z e.f1 e.t2 d=true))]
   simp [h1]
theorem qjC (W:Int→Bool×Bool) (os:List (Option Int)):(os.any fun x=>(q1F W x).1)=((os.any fun x=>(q4W W x).1)||os.any Option.isNone):=by
 induction os with
 | nil=>rfl
 | cons x os ih =>
  rw [List.any_cons,ih,List.any_cons,List.any_cons]
  cases x with
  | none=>simp [q1F,q4W]
  | some w=>simp [q4W,Bool.or_assoc]
theorem qjB (W:Int→Bool×Bool) (os:List (Option Int)):(os.any fun x=>(q1F W x).2)=os.any fun x=>(q4W W x).2:=by
 congr 1;funext x;cases x<;>rfl
set_option maxRecDepth 20000 in
theorem s163 (n:Nat) (a b c:Option (List E9)) (o:Option (List E5)) (d who:Int) (hd:0≤d∧d≤4166) (ha:(a.getD []).length≤1000000) (hc:(c.getD []).length≤1000000) (ho:(o.getD []).length≤1000000) :
  FN (n+7) 163 [d9 a,d9 b,d9 c,d5 o,il who,il d]=some (0,[.d (bl (goP (a.getD []) (c.getD []) (o.getD []) d who).1),.d (bl (goP (a.getD []) (c.getD []) (o.getD []) d who).2)]):=by
 rw [F163]
 have h0:=l163 n a b c o d who hd ha hc ho (false,false)
 simp only [q0U] at h0
 have hp:∀ k:List D→Out,(RP (n+6)).ptrW 4 (.dp [d9 a,d9 b,d9 c,d5 o] 0) k=k [d9 a,d9 b,d9 c,d5 o]:=fun k=>q1O _ 4 k rfl
 have w2:IntKind.i64.wrap (((c.getD []).length:Int) - 1)=((c.getD []).length:Int) - 1:=q0f (by omega) (by omega)
 simp only [G163,q06,q5u,hp,q07,q0g,s214 (n+1) (d9 a) (d9 b) (d9 c) o d who hd (by omega),q00,q02,q01,q0K,q0d,q3Z]
 unfold goP
 cases q8y d who (o.getD []) with
 | true=>simp
 | false =>
  simp only [Bool.false_eq_true,if_false,q4R,q03,q1o,w2,q0r,h0,qjC,qjB,Q163,Bool.false_or]
  generalize q11 d who (below (c.getD []) (c.getD []).length)=q
  cases hn:q.any Option.isNone with
  | true =>
   simp []
  | false =>
   simp
end Go.VE
namespace Go.VE
open Go.RowKit Go.Proofs
theorem q6G (l:List Int) (hl:l.length≤1000000) (body:(Nat→List Yr→Out)→List Yr→Out) (st:Nat→List Int→List Yr) (ex:List Int→Out) (N:Nat)
  (h0:∀ acc k,body k (st l.length acc)=ex acc)
  (h1:∀ (i:Nat) c acc (k:Nat→List Yr→Out),l[i]?=some c→(i:Int) < (l.length:Int)→IntKind.i64.wrap ((i:Int)+1)=((i+1:Nat):Int)→Up acc→acc.length≤N+1000000→body k (st i acc)=k 0 (st (i+1) (ins c acc)))
  (acc:List Int) (hu:Up acc) (hN:acc.length≤N):q0l [body] M0 0 (st 0 acc)=ex (q0b acc l):=by
 refine q0C l (by omega) body st (fun i acc=>Up acc∧acc.length≤N+i) (fun _ r acc=>ex (q0b acc r)) (fun b k _=>h0 b k) ?_ M0 acc ⟨hu,by omega⟩ (by unfold M0;omega)
 intro i c r acc k hi hd hlt hw hI ih
 obtain ⟨g1,g2⟩:=hI
 rw [h1 i c acc k hi (by omega) (by rw [hw];simp) g1 (by omega)]
 have:=q2Z c acc
 rw [ih (ins c acc) ⟨q3J c g1,by omega⟩]
 rfl
def enI (z:Nat→List Yr) (st:Nat→List Int→List Yr) (s:Nat×List Int):Nat×List Yr:=match s.2 with
 | []=>(0,z s.1)
 | y::r=>(1,st s.1 (y::r))
theorem qfL (z:Nat→List Yr) (st:Nat→List Int→List Yr) {i:Nat} {acc:List Int} (h:acc≠[]):enI z st (i,acc)=(1,st i acc):=by
 cases acc with
 | nil=>exact absurd rfl h
 | cons _ _=>rfl
theorem q7Z (l:List Int) (hl:l.length≤1000000) (hne:l≠[]) (b0 b1:(Nat→List Yr→Out)→List Yr→Out) (z:Nat→List Yr) (st:Nat→List Int→List Yr) (ex:List Int→Out)
  (h0:∀ acc k,b1 k (st l.length acc)=ex acc)
  (hz:∀ c (k:Nat→List Yr→Out),l[0]?=some c→(0:Int) < (l.length:Int)→b0 k (z 0)=k 1 (st 1 [c]))
  (h1:∀ (i:Nat) c acc (k:Nat→List Yr→Out),l[i]?=some c→(i:Int) < (l.length:Int)→IntKind.i64.wrap ((i:Int)+1)=((i+1:Nat):Int)→Up acc→acc.length≤1000000→b1 k (st i acc)=k 1 (st (i+1) (ins c acc))) :
  q0l [b0,b1] M0 0 (z 0)=ex (q0b [] l):=by
 refine q1Y (σ:=Nat×List Int) [b0,b1] (enI z st) (fun s=>l.length - s.1) (fun s=>s.1≤l.length∧Up s.2∧s.2.length≤s.1∧(s.2=[]→s.1=0)) (fun s=>ex (q0b s.2 (l.drop s.1))) ?_ M0 (0,[]) ⟨by simp,by simp,by simp,fun _=>rfl⟩ (by unfold M0;simp only;omega)
 rintro ⟨i,acc⟩ k ⟨g1,g2,g3,g4⟩ ih
 simp only at g1 g2 g3 g4 ih ⊢
 by_cases h:i < l.length
 ·have hd:=List.drop_eq_getElem_cons h
  have hi:l[i]?=some l[i]:=List.getElem?_eq_getElem h
  have ih':=ih (i+1,ins l[i] acc) ⟨by simp only;omega,q3J _ g2,by have:=q2Z l[i] acc;simp only;omega,fun h=>absurd h (q80 _ _)⟩ (by simp only;omega)
  rw [hd,q5B]
  rw [qfL _ _ (q80 _ _)] at ih'
  by_cases ha:acc=[]
  ·subst ha
   have hi0:=g4 rfl
   subst hi0
   exact ⟨b0,rfl,by rw [show (enI z st (0,[])).2=z 0 from rfl,hz _ k hi (by omega)];exact ih'⟩
  ·rw [qfL _ _ ha]
   exact ⟨b1,rfl,by simp only;rw [h1 i _ acc k hi (by omega) (by rw [q0f (by omega) (by omega)];simp) g2 (by omega)];exact ih'⟩
 ·have hil:i=l.length:=by omega
  subst hil
  have ha:acc≠[]:=fun h=>hne (List.eq_nil_of_length_eq_zero (g4 h))
  rw [qfL _ _ ha]
  exact ⟨b1,rfl,by simp only [List.drop_length];exact h0 acc k⟩
section
variable {Fn:Nat→List D→Out} {FnD:D→List Sh→List D→Out} {m:Nat}
theorem q5U (q:Mr) (k:Mr→Out):(q08 Fn FnD m).asM false (.mp false q.1 q.2) k=k q:=rfl
theorem q6u (q:Mr):(q08 Fn FnD m).mpD false q=.mp false q.1 q.2:=rfl
theorem qez (kd:Nat) (mm:Mr) (key:D) (ds:List D) (k:Mr→Out):(q08 Fn FnD m).upd kd mm key ds k=match qiT kd mm key ds with
  | some p=>k p
  | none=>none:=rfl
end
def q6p (d:Int) (b:List E9) (q:Mr):Prop:=q.1.length=q.2.length∧∀ (j:Nat) v,q.1[j]?=some v→∃ f:Int,v=.int .i64 f∧q.2[j]?=some [dI (some (q0e d b f))]
theorem qcB (d:Int) (b:List E9):q6p d b ([],[]):=⟨rfl,fun j v h=>by simp at h⟩
theorem q8b (f:Int):∀ (keys:List Value) (i:Nat),(∀ v∈keys,∃ g:Int,v=.int .i64 g)→(q4u 0 (.int .i64 f) keys i=some none∨∃ j,q4u 0 (.int .i64 f) keys i=some (some (i+j))∧keys[j]?=some (.int .i64 f))
 | [],i,_=>.inl rfl
 | x::r,i,h=>by
  obtain ⟨g,rfl⟩:=h x (by simp)
  have ih:=q8b f r (i+1) fun v hv=>h v (List.mem_cons_of_mem _ hv)
  have e:q4u 0 (.int .i64 f) (.int .i64 g::r) i=if f=g then some (some i) else q4u 0 (.int .i64 f) r (i+1):=by
   simp only [q4u,kEq,if_true]
   by_cases hfg:f=g
   ·subst hfg;simp
   ·have:(f==g)=false:=by simp [hfg]
    simp [this,hfg]
  rw [e]
  by_cases hfg:f=g
  ·subst hfg;exact .inr ⟨0,by simp⟩
  ·rw [if_neg hfg]
   rcases ih with ih | ⟨j,h1,h2⟩
   ·exact .inl ih
   ·exact .inr ⟨j+1,by rw [h1];congr 2;omega,by simpa using h2⟩
theorem qaz {d:Int} {b:List E9} {q:Mr} (h:q6p d b q):∀ v∈q.1,∃ g:Int,v=.int .i64 g:=fun v hv=>by
 obtain ⟨j,hj⟩:=List.getElem?_of_mem hv
 obtain ⟨f,hf,_⟩:=h.2 j v hj
 exact ⟨f,hf⟩
theorem qf0 {d:Int} {b:List E9} {q:Mr} (h:q6p d b q) (f:Int):q9I 0 [.slice none 0 0] q (il f)=some ([dI (some (q0e d b f))],bl true)∨q9I 0 [.slice none 0 0] q (il f)=some ([.lit (.slice none 0 0)],bl false):=by
 rcases q8b f q.1 0 (qaz h) with e | ⟨j,e,hj⟩
 ·right;simp only [q9I,qip,il,q7X,if_true,e];rfl
 ·left
  obtain ⟨g,hg,h2⟩:=h.2 j _ hj
  cases hg
  rw [Nat.zero_add] at e
  simp only [q9I,qip,il,q7X,if_true,e,h2];rfl
theorem qh3 {d:Int} {b:List E9} {q:Mr} (h:q6p d b q) (f:Int):∃ q',qiT 0 q (il f) [dI (some (q0e d b f))]=some q'∧q6p d b q':=by
 rcases q8b f q.1 0 (qaz h) with e | ⟨j,e,hj⟩
 ·refine ⟨(q.1++[.int .i64 f],q.2++[[dI (some (q0e d b f))]]),by simp only [qiT,qip,il,q7X,if_true,e],by simp [h.1],?_⟩
  intro j v hv
  simp only at hv ⊢
  by_cases hj:j < q.1.length
  ·rw [List.getElem?_append_left hj] at hv
   obtain ⟨g,h1,h2⟩:=h.2 j v hv
   exact ⟨g,h1,by rw [List.getElem?_append_left (by rw [←h.1];exact hj)];exact h2⟩
  ·have hj2:j=q.1.length:=by
    have:=List.getElem?_eq_some_iff.1 hv
    obtain ⟨h3,_⟩:=this
    simp at h3;omega
   subst hj2
   simp at hv
   exact ⟨f,hv.symm,by rw [h.1];simp⟩
 ·rw [Nat.zero_add] at e
  refine ⟨(q.1,q.2.set j [dI (some (q0e d b f))]),by simp only [qiT,qip,il,q7X,if_true,e],by simp [h.1],?_⟩
  intro i v hv
  simp only at hv ⊢
  obtain ⟨g,h1,h2⟩:=h.2 i v hv
  refine ⟨g,h1,?_⟩
  by_cases hij:j=i
  ·subst hij
   rw [hj] at hv
   cases hv
   have:f=g:=by cases h1;rfl
   subst this
   have hjl:j < q.2.length:=by
    obtain ⟨h3,_⟩:=List.getElem?_eq_some_iff.1 h2
    exact h3
   simp [hjl]
  ·rw [List.getElem?_set_ne hij];exact h2
end Go.VE
namespace Go.VE
open Go.RowKit Go.Proofs
attribute [local simp] q5U q6u
theorem put0 {m:Nat} {Fn:Nat→List D→Out} {FnD:D→List Sh→List D→Out} (c:Int) (k:Rr→Out) (e:Out):((q08 Fn FnD m).eqN ((q08 Fn FnD m).natN 1) ((q08 Fn FnD m).len ((q08 Fn FnD m).rows [[il c]])) ((q08 Fn FnD m).isNil ((q08 Fn FnD m).seg ((q08 Fn FnD m).rows [[il c]]) none ((q08 Fn FnD m).natN 1)) e ((q08 Fn FnD m).fits 8 ((q08 Fn FnD m).len ((q08 Fn FnD m).seg ((q08 Fn FnD m).rows [[il c]]) none ((q08 Fn FnD m).natN 1))) ((q08 Fn FnD m).ins (il 0) ((q08 Fn FnD m).rows []) ((q08 Fn FnD m).seg ((q08 Fn FnD m).rows [[il c]]) none ((q08 Fn FnD m).natN 1)) k))))=k ([c].map rI):=by
 simp only [q0G,q0u,q0A,q0q,List.length_cons,List.length_nil,q0B,List.take_succ_cons,List.take_zero,q0S,q0v]
 rw [if_pos (by simp),if_pos (by simp []),qcv];rfl
theorem qi8 (q:List Int):(q.map rI).take q.length=q.map rI:=List.take_of_length_le (by simp)
set_option maxRecDepth 20000 in
theorem li01 (n:Nat) (L:List Int) (hL:L.length≤1000000) (hne:L≠[]) (q:Mr) (x3 x4 x6 x7 x8 x9 x10 x11 x12 x13:D) :
  q0l [L1000161_0 (RP (n+4)),L1000161_1 (RP (n+4))] M0 0 [.d (dI (some L)),.d (il L.length),.d (il 0),.d x3,.d x4,.m q,.d x6,.d x7,.d x8,.d x9,.d x10,.d x11,.d x12,.d x13] =
   some (1,[.r ((q0b [] L).map rI),.d x3,.d x4,.m q,.d x6,.d x7,.n (q0b [] L).length,.n (q0b [] L).length,.d x8,.d x9,.d x10,.d x11,.d x12,.d x13]):=by
 refine q7Z L hL hne _ _ (fun i=>[.d (dI (some L)),.d (il L.length),.d (il (i:Nat)),.d x3,.d x4,.m q,.d x6,.d x7,.d x8,.d x9,.d x10,.d x11,.d x12,.d x13])
  (fun i acc=>[.d (dI (some L)),.d (il L.length),.d (il (i:Nat)),.r (acc.map rI),.d x3,.d x4,.m q,.d x6,.d x7,.n acc.length,.n acc.length,.d x8,.d x9,.d x10,.d x11,.d x12,.d x13])
  (fun acc=>some (1,[.r (acc.map rI),.d x3,.d x4,.m q,.d x6,.d x7,.n acc.length,.n acc.length,.d x8,.d x9,.d x10,.d x11,.d x12,.d x13])) ?_ ?_ ?_
 ·intro acc k;simp [L1000161_1]
 ·intro c k hi hlt
  have h0:=q2R (Fn:=FN (n+4)) (FnD:=q1z Tryz.prog (cf3 tb Tryz.prog) (FN (n+4))) (m:=M0) (o:=some L) (i:=0) (c:=c) hi
  simp only [L1000161_0,q02,q04,q0n,q01,Int.natCast_zero,hlt,decide_true,if_true]
  rw [show ((il 0):D)=il ((0:Nat):Int) from rfl,h0]
  simp only [rI,q07,q06,q0Z,qh2,q00,q02,q04,q01,Bool.false_eq_true,if_false]
  rw [put0]
  simp only [q03,q0i,q0G,q0u,q0A,q0q,List.length_cons,List.length_nil,List.take_succ_cons,List.take_zero,Int.natCast_zero]
  rw [show IntKind.i64.wrap (0+1)=((1:Nat):Int) from rfl]
  rfl
 ·intro i c acc k hi hlt hw hu hl
  have hi':((some L).getD [])[i]?=some c:=hi
  have hput:=q1n n acc c (by omega) hu
  simp only [L1000161_1,q02,q04,q0E,q0D,q0x,q0F,q0n,q01,hlt,decide_true,if_true,q2R hi',rI,q07,q0A,q0B,List.length_map,q1e,q06]
  simp only [hput,q00,q02,q12,q03,q0i,hw,List.length_map,q27,q28]
set_option maxRecDepth 20000 in
theorem li5 (n:Nat) (L:List Int) (hL:L.length≤1000000) (q:Mr) (x3 x4 x6 x7 x11 x12 x13 x14 x15 x16:D) (acc:List Int) (hu:Up acc) (ha:acc.length≤1000) :
  q0l [L1000161_5 (RP (n+4))] M0 0 [.d (dI (some L)),.d (il L.length),.d (il 0),.d x3,.d x4,.m q,.d x6,.d x7,.n acc.length,.n acc.length,.r (acc.map rI),.d x11,.d x12,.d x13,.d x14,.d x15,.d x16] =
   some (0,[.d x3,.d x4,.m q,.d x6,.d x7,.n (q0b acc L).length,.n (q0b acc L).length,.r ((q0b acc L).map rI),.d x11,.d x12,.d x13,.d x14,.d x15,.d x16]):=by
 refine q6G L hL _ (fun i acc=>[.d (dI (some L)),.d (il L.length),.d (il (i:Nat)),.d x3,.d x4,.m q,.d x6,.d x7,.n acc.length,.n acc.length,.r (acc.map rI),.d x11,.d x12,.d x13,.d x14,.d x15,.d x16])
  (fun acc=>some (0,[.d x3,.d x4,.m q,.d x6,.d x7,.n acc.length,.n acc.length,.r (acc.map rI),.d x11,.d x12,.d x13,.d x14,.d x15,.d x16])) 1000 ?_ ?_ acc hu ha
 ·intro acc k;simp [L1000161_5]
 ·intro i c acc k hi hlt hw hu hl
  have hi':((some L).getD [])[i]?=some c:=hi
  have hput:=q1n n acc c (by omega) hu
  simp only [L1000161_5,q02,q04,q0E,q0D,q0x,q0F,q0n,q01,hlt,decide_true,if_true,q2R hi',rI,q07,q0A,q0B,List.length_map,q1e,q06]
  simp only [hput,q00,q02,q12,q03,q0i,hw,List.length_map,q27,q28]
def qdO (d f:Int) (kin:D) (s:Nat×List Int×Mr):Nat×List Yr:=match s.2.1 with
 | []=>(0,[.d (il d),.d (il ((s.1:Int) - 1)),.d kin,.d (il d),.m s.2.2,.d kin,.d (il f)])
 | y::r=>(2,[.d (il d),.d (il ((s.1:Int) - 1)),.r ((y::r).map rI),.n (y::r).length,.n (y::r).length,.d kin,.d (il d),.m s.2.2,.d kin,.d (il f)])
theorem qcY (d f:Int) (kin:D) (m:Nat) {acc:List Int} (q:Mr) (h:acc≠[]):qdO d f kin (m,acc,q)=(2,[.d (il d),.d (il ((m:Int) - 1)),.r (acc.map rI),.n acc.length,.n acc.length,.d kin,.d (il d),.m q,.d kin,.d (il f)]):=by
 cases acc with
 | nil=>exact absurd rfl h
 | cons _ _=>rfl
def Q161 (d f:Int) (b:List E9) (kin:D) (T:List Int) (r:Out):Prop:=∃ (acc:List Int) (q:Mr),q6p d b q∧Up acc∧acc.length≤1000 ∧
 ((acc≠[]∧((r=some (4,[.r (acc.map rI),.n acc.length,.n acc.length,.d kin,.d (il d),.m q,.d kin,.d (il f)])∧acc=T)∨(r=some (5,[.r (acc.map rI),.n acc.length,.n acc.length,.d kin,.d (il d),.m q,.d kin,.d (il f)])∧ins f acc=T))) ∨
  (r=some (2,[.d kin,.d (il d),.m q,.d kin,.d (il f)])∧ins f []=T))
theorem q8s {acc:List Int} (hu:Up acc) (h:∀ z∈acc,1≤z∧z≤99):acc.length≤99:=by
 have:=qa8 acc 1 99 hu h
 omega
theorem q3t (acc:List Int) {l:List Int} (h:l≠[]):q0b acc l≠[]:=fun e=>by
 cases l with
 | nil=>exact h rfl
 | cons x r =>
  have:x∈q0b acc (x::r):=(q19 x _ _).2 (.inr (by simp))
  rw [e] at this;simp at this
set_option maxRecDepth 20000 in
theorem l161 (n:Nat) (a b c:Option (List E9)) (o:Option (List E5)) (d f:Int) (hb:q5q (b.getD [])) (hl:(b.getD []).length≤1000000) (hf:f≤99)
  (hrec:∀ (w:Int) (q:Mr),1≤w→w < f→q6p d (b.getD []) q→∃ q':Mr,q6p d (b.getD []) q'∧FN (n+4) 1000161 [q0U a b c o,il d,.mp false q.1 q.2,il w,q0U a b c o,il d]=some (0,[.d (dI (some (q0e d (b.getD []) w))),.d (q0U a b c o),.d (il d),.d (.mp false q'.1 q'.2)]))
  (q:Mr) (hq:q6p d (b.getD []) q) :
  Q161 d f (b.getD []) (q0U a b c o) (q3H (q0e d (b.getD [])) f (q11 d f (below (b.getD []) (b.getD []).length)) []) (q0l [L1000161_2 (RP (n+4)) (il f),L1000161_4 (RP (n+4)) (il f),L1000161_6 (RP (n+4)) (il f)] M0 0 [.d (il d),.d (il (((b.getD []).length:Int) - 1)),.d (q0U a b c o),.d (il d),.m q,.d (q0U a b c o),.d (il f)]):=by
 generalize hT:q3H (q0e d (b.getD [])) f (q11 d f (below (b.getD []) (b.getD []).length)) []=T
 refine q4P (σ:=Nat×List Int×Mr) [L1000161_2 (RP (n+4)) (il f),L1000161_4 (RP (n+4)) (il f),L1000161_6 (RP (n+4)) (il f)] (qdO d f (q0U a b c o)) (fun s=>s.1)
  (fun s=>s.1≤(b.getD []).length∧Up s.2.1∧(∀ z∈s.2.1,1≤z∧z≤99)∧q6p d (b.getD []) s.2.2∧q3H (q0e d (b.getD [])) f (q11 d f (below (b.getD []) s.1)) s.2.1=T)
  (Q161 d f (b.getD []) (q0U a b c o) T) ?_ M0 ((b.getD []).length,[],q) ⟨Nat.le_refl _,by simp,by simp,hq,hT⟩ (by unfold M0;simp only;omega)
 clear hT hq q
 rintro ⟨m,acc,q⟩ k ⟨g1,g2,g3,g4,g5⟩ ih
 simp only at g1 g2 g3 g4 g5 ih
 have gl:=q8s g2 g3
 cases m with
 | zero =>
  rw [q4l] at g5
  cases acc with
  | nil =>
   refine ⟨L1000161_2 (RP (n+4)) (il f),rfl,[],q,g4,g2,by simp,.inr ⟨?_,g5⟩⟩
   simp [qdO,L1000161_2]
  | cons y r =>
   refine ⟨L1000161_6 (RP (n+4)) (il f),rfl,y::r,q,g4,g2,by omega,.inl ⟨by simp,.inr ⟨?_,g5⟩⟩⟩
   simp [qdO,L1000161_6]
 | succ m =>
  obtain ⟨e,he⟩:∃ e,(b.getD [])[m]?=some e:=⟨_,List.getElem?_eq_getElem (by omega)⟩
  rw [q3m he,q11] at g5
  have hm:(((m+1:Nat):Int) - 1)=((m:Nat):Int):=by omega
  have hw:IntKind.i64.wrap (((m:Nat):Int) - 1)=((m:Nat):Int) - 1:=q0f (by omega) (by omega)
  have h194:=s194 (n+3) a b c o m e f he
  have hnn:¬ ((m:Nat):Int) < 0:=by omega
  have hmem:e∈b.getD []:=List.mem_of_getElem? he
  cases acc with
  | nil =>
   refine ⟨L1000161_2 (RP (n+4)) (il f),rfl,?_⟩
   simp only [qdO,hm,L1000161_2,q02,q04,q03,q1S,q01]
   rw [if_pos (by simp)]
   simp only [q06,h194,q00,q02,q04,q0J,q01,q1o,hw,q28,q27]
   by_cases h1:e.a=f
   ·rw [if_neg (by simp [h1])]
    simp only [qgi,q00,q02,q0J,q01]
    by_cases h2:q1Z e.f1 e.t2 d=true
    ·rw [if_neg (by simp [h2])]
     rw [if_pos ⟨h1,h2⟩] at g5
     have hbe:=hb e hmem
     obtain ⟨q',hq',hcall⟩:=hrec e.b q hbe.1 (by omega) g4
     have hne:q0e d (b.getD []) e.b≠[]:=fun h=>by
      obtain ⟨z,hz⟩:=q4T hb (d:=d) _ e.b (Nat.le_refl _) hbe.1
      rw [h] at hz;simp at hz
     have hlen:=q3i (d:=d) hb hbe.1
     simp only [q0n,hnn,decide_false,q01,Bool.false_eq_true,if_false,q6u,hcall,q00,q02,q04,q5U,q2I,Option.getD_some,q0r]
     rw [li01 n _ (by omega) hne]
     have hin:=q3t [] hne
     have hiu:=q1p (q0e d (b.getD []) e.b) (acc:=[]) (by simp)
     have hir:∀ z∈q0b [] (q0e d (b.getD []) e.b),1≤z∧z≤99:=fun z hz=>by
      rw [q19] at hz
      rcases hz with hz | hz
      ·simp at hz
      ·have:=q1c hb _ e.b z (Nat.le_refl _) hbe.1 hz;omega
     have hil:=q8s hiu hir
     simp only [q1E,q00,qa5,q02,q04,q28,q27,q0x,q0E,q0D,q01,q0d]
     rw [q3H] at g5
     by_cases h3:q1C e.f2 e.t1 d=true
     ·rw [if_pos h3] at g5 ⊢
      exact ⟨q0b [] (q0e d (b.getD []) e.b),q',hq',hiu,by omega,.inl ⟨hin,.inl ⟨rfl,g5⟩⟩⟩
     ·rw [if_neg h3] at g5 ⊢
      have:=ih (m,q0b [] (q0e d (b.getD []) e.b),q') ⟨by simp only;omega,hiu,hir,hq',g5⟩ (by simp only;omega)
      rw [qcY _ _ _ _ _ hin] at this
      exact this
    ·rw [if_pos (by simp [h2])]
     rw [if_neg fun h=>h2 h.2] at g5
     exact ih (m,[],q) ⟨by simp only;omega,g2,g3,g4,g5⟩ (by simp only;omega)
   ·rw [if_pos (by simp [h1])]
    rw [if_neg fun h=>h1 h.1] at g5
    exact ih (m,[],q) ⟨by simp only;omega,g2,g3,g4,g5⟩ (by simp only;omega)
  | cons y r =>
   refine ⟨L1000161_6 (RP (n+4)) (il f),rfl,?_⟩
   simp only [qdO,hm,L1000161_6,q02,q04,q03,q1S,q01]
   rw [if_pos (by simp)]
   simp only [q06,h194,q00,q02,q04,q0J,q01,q1o,hw,q28,q27,q0x,q0F,q0E,q0D]
   by_cases h1:e.a=f
   ·rw [if_neg (by simp [h1])]
    simp only [qgi,q00,q02,q0J,q01]
    by_cases h2:q1Z e.f1 e.t2 d=true
    ·rw [if_neg (by simp [h2])]
     rw [if_pos ⟨h1,h2⟩] at g5
     have hbe:=hb e hmem
     obtain ⟨q',hq',hcall⟩:=hrec e.b q hbe.1 (by omega) g4
     have hne:q0e d (b.getD []) e.b≠[]:=fun h=>by
      obtain ⟨z,hz⟩:=q4T hb (d:=d) _ e.b (Nat.le_refl _) hbe.1
      rw [h] at hz;simp at hz
     have hlen:=q3i (d:=d) hb hbe.1
     simp only [q0n,hnn,decide_false,q01,Bool.false_eq_true,if_false,q6u,hcall,q00,q02,q04,q5U,q2I,Option.getD_some,q0r]
     rw [li5 n _ (by omega) _ _ _ _ _ _ _ _ _ _ _ (y::r) g2 (by omega)]
     have hin:=q3t (y::r) hne
     have hiu:=q1p (q0e d (b.getD []) e.b) g2
     have hir:∀ z∈q0b (y::r) (q0e d (b.getD []) e.b),1≤z∧z≤99:=fun z hz=>by
      rw [q19] at hz
      rcases hz with hz | hz
      ·exact g3 z hz
      ·have:=q1c hb _ e.b z (Nat.le_refl _) hbe.1 hz;omega
     have hil:=q8s hiu hir
     simp only [q00,qa5,q02,q04,q28,q27,q0x,q0F,q0E,q0D,q01,q0d]
     rw [q3H] at g5
     by_cases h3:q1C e.f2 e.t1 d=true
     ·rw [if_pos h3] at g5 ⊢
      exact ⟨q0b (y::r) (q0e d (b.getD []) e.b),q',hq',hiu,by omega,.inl ⟨hin,.inl ⟨rfl,g5⟩⟩⟩
     ·rw [if_neg h3] at g5 ⊢
      have:=ih (m,q0b (y::r) (q0e d (b.getD []) e.b),q') ⟨by simp only;omega,hiu,hir,hq',g5⟩ (by simp only;omega)
      rw [qcY _ _ _ _ _ hin] at this
      exact this
    ·rw [if_pos (by simp [h2])]
     rw [if_neg fun h=>h2 h.2] at g5
     exact ih (m,y::r,q) ⟨by simp only;omega,g2,g3,g4,g5⟩ (by simp only;omega)
   ·rw [if_pos (by simp [h1])]
    rw [if_neg fun h=>h1 h.1] at g5
    exact ih (m,y::r,q) ⟨by simp only;omega,g2,g3,g4,g5⟩ (by simp only;omega)
end Go.VE
namespace Go.VE
open Go.RowKit Go.Proofs
attribute [local simp] q5U q6u
theorem q51 (q:List Int):(.sl 1 ((q.map rI).take q.length):D)=dI (some q):=by rw [qi8];rfl
set_option maxRecDepth 20000 in
theorem s161 (a b c:Option (List E9)) (o:Option (List E5)) (d:Int) (hb:q5q (b.getD [])) (hl:(b.getD []).length≤1000000):∀ (N n:Nat) (f:Int) (q:Mr),1≤f→f.toNat≤N→f≤99→q6p d (b.getD []) q →
  ∃ q':Mr,q6p d (b.getD []) q'∧FN (n+5+N) 1000161 [q0U a b c o,il d,.mp false q.1 q.2,il f,q0U a b c o,il d]=some (0,[.d (dI (some (q0e d (b.getD []) f))),.d (q0U a b c o),.d (il d),.d (.mp false q'.1 q'.2)]):=by
 intro N
 induction N with
 | zero=>intro n f q h1 h2;omega
 | succ N ih =>
  intro n f q h1 h2 h3 hq
  have hrec:∀ (w:Int) (q:Mr),1≤w→w < f→q6p d (b.getD []) q→∃ q':Mr,q6p d (b.getD []) q'∧FN (n+1+N+4) 1000161 [q0U a b c o,il d,.mp false q.1 q.2,il w,q0U a b c o,il d]=some (0,[.d (dI (some (q0e d (b.getD []) w))),.d (q0U a b c o),.d (il d),.d (.mp false q'.1 q'.2)]):=fun w q hw1 hw2 hq=>by
   have:=ih n w q hw1 (by omega) (by omega) hq
   rw [show n+1+N+4=n+5+N by omega]
   exact this
  have hloop:=l161 (n+1+N) a b c o d f hb hl h3 hrec q hq
  rw [show n+5+(N+1)=(n+1+N+4)+1 by omega,F1000161]
  rw [←q67 hb h1] at hloop
  generalize n+1+N=n at hloop ⊢
  simp only [G1000161,q5U,qeC]
  rcases qf0 hq f with e | e
  ·rw [e]
   refine ⟨q,hq,?_⟩
   simp
  ·rw [e]
   have hp:∀ k:List D→Out,(RP (n+4)).ptrW 4 (q0U a b c o) k=k [d9 a,d9 b,d9 c,d5 o]:=fun k=>q1O _ 4 k rfl
   have w1:IntKind.i64.wrap (((b.getD []).length:Int) - 1)=((b.getD []).length:Int) - 1:=q0f (by omega) (by omega)
   have hip:∀ k:Out,(RP (n+4)).isPtr (q0U a b c o) k=k:=fun k=>rfl
   simp only [q01,Bool.false_eq_true,if_false,hip,hp,q07,q0g,q4R,q03,q1o,w1,q0r]
   obtain ⟨acc,q1,hq1,hu,hlen,hr⟩:=hloop
   obtain ⟨q2,hq2,hm2⟩:=qh3 hq1 f
   have hd:∀ x,x=q0e d (b.getD []) f→(.sl 1 ((x.map rI).take x.length):D)=dI (some (q0e d (b.getD []) f)):=fun x hx=>by rw [q51,hx]
   refine ⟨q2,hm2,?_⟩
   rcases hr with ⟨hne,⟨hr,hT⟩ | ⟨hr,hT⟩⟩ | ⟨hr,hT⟩
   ·rw [hr]
    simp only [q1E,q00,q0x,q0E,q0D,q02,q04,q28,q27,q0A,List.length_map,q0B,if_true,q0q,q1e,q0d,qez]
    rw [hd acc hT,hq2]
    simp
   ·rw [hr]
    have hput:=q1n n acc f (by omega) hu
    simp only [q1E,q00,q0x,q0E,q0D,q02,q04,q28,q27,q0A,List.length_map,q0B,if_true,q0q,q1e,q0d,qez,q0n,q01,q06,hput,q12]
    rw [if_pos (by simp)]
    simp only [q00,q02,q04,q28,q27]
    rw [show (List.map rI (ins f acc)).take (ins f acc).length=(List.map rI (ins f acc)).take (ins f acc).length from rfl,hd (ins f acc) hT,hq2]
    simp
   ·rw [hr]
    simp only [q1E,q00,q02,q04,q28,q27,q0n,q01,q06,q0Z,qh2]
    rw [if_pos (by simp)]
    simp only [Bool.false_eq_true,if_false]
    have hx:[f]=q0e d (b.getD []) f:=hT
    rw [←hx] at hq2 ⊢
    simp only [q0G,q0u,q0A,q0q,List.length_cons,List.length_nil,q0B,List.take_succ_cons,List.take_zero,q0S,q0v]
    rw [if_pos (by simp),if_pos (by simp []),qcv]
    simp only [List.length_cons,List.length_nil,if_true,q0d,q00,q1e,List.take_succ_cons,List.take_zero,q02,q04,q28,q27,qez]
    rw [show (.sl 1 [[il f]]:D)=dI (some [f]) from rfl,hq2]
    simp
end Go.VE
namespace Go.VE
open Go.RowKit Go.Proofs
theorem q5X (d who:Int):∀ {l:List E9},(∀ e∈l,e.a≠who)→q11 d who l=[none]
 | [],_=>rfl
 | e::r,h=>by
  rw [q11,if_neg fun hh=>h e (by simp) hh.1]
  exact q5X d who fun e he=>h e (List.mem_cons_of_mem _ he)
end Go.VE
namespace Go.VE
open Go.RowKit Go.Proofs
theorem q7E {α:Type} {p:α→Bool} {src:α→Int}:∀ {l:List α} {o:Option Int},okL p src o l=true→∀ e∈l,p e=true
 | [],_,_,e,he=>by simp at he
 | x::r,o,h,e,he=>by
  unfold okL at h
  simp only [Bool.and_eq_true] at h
  rcases List.mem_cons.1 he with rfl | he
  ·exact h.1.1
  ·exact q7E h.2 e he
end Go.VE
