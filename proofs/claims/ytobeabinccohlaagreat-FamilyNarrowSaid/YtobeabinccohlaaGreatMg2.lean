/- Family: Gleans (reference). -/
import Derived.Test.YtobeabinccohlaaGreatMg1
namespace Go.VE
open Go.RowKit Go.Proofs
theorem askE_days {ok ps fs:Bool} {p f d k:Int} (h:askE ok ps fs p f [d,k]=0):(0≤d∧d≤4166)∧0≤k∧k≤4166:=by
 unfold askE at h
 split at h
 ·simp at h
 ·split at h
  ·simp at h
  ·split at h
   ·simp at h
   ·split at h
    ·simp at h
    ·rename_i hh
     simp only [List.any_cons,List.any_nil,Bool.or_false,Bool.or_eq_true,Bool.not_eq_true',decide_eq_false_iff_not,not_or,Decidable.not_not] at hh
     exact hh
end Go.VE
namespace Go.VE
open Go.RowKit Go.Proofs
def insAll (acc l:List Int):List Int:=l.foldl (fun acc x=>ins x acc) acc
theorem insAll_cons (acc:List Int) (x:Int) (l:List Int):insAll acc (x::l)=insAll (ins x acc) l:=rfl
theorem up_insAll:∀ (l:List Int) {acc:List Int},Up acc→Up (insAll acc l)
 | [],_,h=>h
 | x::l,_,h=>up_insAll l (up_ins x h)
theorem mem_insAll (z:Int):∀ (l acc:List Int),z∈insAll acc l↔z∈acc∨z∈l
 | [],acc=>by simp [insAll]
 | x::l,acc=>by
  rw [insAll_cons,mem_insAll z l,mem_ins,List.mem_cons]
  constructor
  ·rintro ((h | h) | h)
   ·exact .inr (.inl h)
   ·exact .inl h
   ·exact .inr (.inr h)
  ·rintro (h | h | h)
   ·exact .inl (.inr h)
   ·exact .inl (.inl h)
   ·exact .inr h
theorem len_insAll:∀ (l acc:List Int),(insAll acc l).length≤acc.length+l.length
 | [],acc=>by simp [insAll]
 | x::l,acc=>by
  have h1:=len_insAll l (ins x acc)
  have h2:=ins_len x acc
  rw [insAll_cons];simp only [List.length_cons];omega
def leadB (L:Int→List Int) (f:Int):List (Option Int)→List Int→List Int
 | [],acc=>acc
 | none::os,acc=>leadB L f os (ins f acc)
 | some w::os,acc=>leadB L f os (insAll acc (L w))
theorem leadB_congr {L M:Int→List Int} (f:Int):∀ {os:List (Option Int)} (acc:List Int),(∀ w,some w∈os→L w=M w)→leadB L f os acc=leadB M f os acc
 | [],_,_=>rfl
 | none::os,acc,h=>leadB_congr f (os:=os) _ fun w hw=>h w (List.mem_cons_of_mem _ hw)
 | some w::os,acc,h=>by
  rw [leadB,leadB,h w (by simp)]
  exact leadB_congr f (os:=os) _ fun w hw=>h w (List.mem_cons_of_mem _ hw)
theorem up_leadB (L:Int→List Int) (f:Int):∀ (os:List (Option Int)) {acc:List Int},Up acc→Up (leadB L f os acc)
 | [],_,h=>h
 | none::os,_,h=>up_leadB L f os (up_ins f h)
 | some _::os,_,h=>up_leadB L f os (up_insAll _ h)
theorem mem_leadB (L:Int→List Int) (f z:Int):∀ (os:List (Option Int)) (acc:List Int),z∈leadB L f os acc↔z∈acc∨(none∈os∧z=f)∨∃ w,some w∈os∧z∈L w
 | [],acc=>by simp [leadB]
 | none::os,acc=>by
  rw [leadB,mem_leadB L f z os,mem_ins]
  constructor
  ·rintro ((h | h) | ⟨h1,h2⟩ | ⟨w,hw,h⟩)
   ·exact .inr (.inl ⟨by simp,h⟩)
   ·exact .inl h
   ·exact .inr (.inl ⟨by simp,h2⟩)
   ·exact .inr (.inr ⟨w,by simp [hw],h⟩)
  ·rintro (h | ⟨_,h⟩ | ⟨w,hw,h⟩)
   ·exact .inl (.inr h)
   ·exact .inl (.inl h)
   ·exact .inr (.inr ⟨w,by simpa using hw,h⟩)
 | some v::os,acc=>by
  rw [leadB,mem_leadB L f z os,mem_insAll]
  constructor
  ·rintro ((h | h) | ⟨h1,h2⟩ | ⟨w,hw,h⟩)
   ·exact .inl h
   ·exact .inr (.inr ⟨v,by simp,h⟩)
   ·exact .inr (.inl ⟨by simp [h1],h2⟩)
   ·exact .inr (.inr ⟨w,by simp [hw],h⟩)
  ·rintro (h | ⟨h1,h⟩ | ⟨w,hw,h⟩)
   ·exact .inl (.inl h)
   ·exact .inr (.inl ⟨by simpa using h1,h⟩)
   ·rcases List.mem_cons.1 hw with e | hw
    ·cases e;exact .inl (.inr h)
    ·exact .inr (.inr ⟨w,hw,h⟩)
def leadL (d:Int) (l:List E9):Nat→Int→List Int
 | 0,_=>[]
 | n+1,f=>leadB (leadL d l n) f (opts d f (below l l.length)) []
def leadsL (d:Int) (l:List E9) (f:Int):List Int:=leadL d l f.toNat f
def Less (l:List E9):Prop:=∀ e∈l,1≤e.b∧e.b < e.a∧e.a≤99
theorem opts_mem (d who:Int):∀ (l:List E9) (w:Int),some w∈opts d who l→∃ e∈l,e.a=who∧e.b=w∧mayB e.f1 e.t2 d=true
 | [],w,h=>by simp [opts] at h
 | e::r,w,h=>by
  simp only [opts] at h
  split at h
  ·rename_i h1
   rcases List.mem_cons.1 h with h | h
   ·cases h;exact ⟨e,by simp,h1.1,rfl,h1.2⟩
   ·split at h
    ·simp at h
    ·obtain ⟨e',h2,h3⟩:=opts_mem d who r w h
     exact ⟨e',by simp [h2],h3⟩
  ·obtain ⟨e',h2,h3⟩:=opts_mem d who r w h
   exact ⟨e',by simp [h2],h3⟩
theorem opts_ne (d who:Int):∀ l:List E9,opts d who l≠[]
 | []=>by simp [opts]
 | e::r=>by
  simp only [opts]
  split
  ·simp
  ·exact opts_ne d who r
theorem mem_below {l:List E9} {m:Nat} {e:E9} (h:e∈below l m):e∈l:=by
 unfold below at h
 exact List.mem_of_mem_take (List.mem_reverse.1 h)
theorem opts_less {d f:Int} {l:List E9} {m:Nat} (hl:Less l) {w:Int} (h:some w∈opts d f (below l m)):1≤w∧w < f∧f≤99:=by
 obtain ⟨e,he,h1,h2,_⟩:=opts_mem _ _ _ _ h
 have:=hl e (mem_below he)
 omega
theorem leadL_eq {d:Int} {l:List E9} (hl:Less l):∀ (n:Nat) (f:Int),1≤f→f.toNat≤n→leadL d l n f=leadsL d l f:=by
 intro n
 induction n using Nat.strongRecOn with
 | _ n ih =>
  intro f h1 h2
  cases n with
  | zero=>omega
  | succ n =>
   unfold leadsL
   obtain ⟨m,hm⟩:∃ m,f.toNat=m+1:=⟨f.toNat - 1,by omega⟩
   rw [hm,leadL,leadL]
   refine leadB_congr f _ fun w hw=>?_
   have:=opts_less hl hw
   rw [ih n (by omega) w this.1 (by omega),ih m (by omega) w this.1 (by omega)]
theorem leadsL_eq {d:Int} {l:List E9} (hl:Less l) {f:Int} (h1:1≤f):leadsL d l f=leadB (leadsL d l) f (opts d f (below l l.length)) []:=by
 obtain ⟨m,hm⟩:∃ m,f.toNat=m+1:=⟨f.toNat - 1,by omega⟩
 unfold leadsL
 rw [hm,leadL]
 refine leadB_congr f _ fun w hw=>?_
 have:=opts_less hl hw
 exact leadL_eq hl m w this.1 (by omega)
theorem up_leadsL (d:Int) (l:List E9) (f:Int):Up (leadsL d l f):=by
 unfold leadsL
 cases f.toNat with
 | zero=>simp [leadL]
 | succ m=>exact up_leadB _ _ _ (by simp)
theorem mem_leadsL {d:Int} {l:List E9} (hl:Less l) {f z:Int} (h1:1≤f):z∈leadsL d l f↔(none∈opts d f (below l l.length)∧z=f)∨∃ w,some w∈opts d f (below l l.length)∧z∈leadsL d l w:=by
 rw [leadsL_eq hl h1,mem_leadB];simp
theorem leadsL_range {d:Int} {l:List E9} (hl:Less l):∀ (n:Nat) (f z:Int),f.toNat≤n→1≤f→z∈leadsL d l f→1≤z∧z≤f:=by
 intro n
 induction n with
 | zero=>intro f z h1 h2;omega
 | succ n ih =>
  intro f z h1 h2 h
  rcases (mem_leadsL hl h2).1 h with ⟨_,rfl⟩ | ⟨w,hw,h⟩
  ·exact ⟨h2,Int.le_refl _⟩
  ·have:=opts_less hl hw
   have:=ih w z (by omega) this.1 h
   omega
theorem leadsL_ne {d:Int} {l:List E9} (hl:Less l):∀ (n:Nat) (f:Int),f.toNat≤n→1≤f→∃ z,z∈leadsL d l f:=by
 intro n
 induction n with
 | zero=>intro f h1 h2;omega
 | succ n ih =>
  intro f h1 h2
  have hne:=opts_ne d f (below l l.length)
  revert hne
  generalize hq:opts d f (below l l.length)=q
  intro hne
  cases q with
  | nil=>exact absurd rfl hne
  | cons o os =>
   cases o with
   | none=>exact ⟨f,(mem_leadsL hl h2).2 (.inl ⟨by rw [hq];simp,rfl⟩)⟩
   | some w =>
    have hw:some w∈opts d f (below l l.length):=by rw [hq];simp
    have:=opts_less hl hw
    obtain ⟨z,hz⟩:=ih w (by omega) this.1
    exact ⟨z,(mem_leadsL hl h2).2 (.inr ⟨w,hw,hz⟩)⟩
theorem up_len:∀ (l:List Int) (a b:Int),Up l→(∀ z∈l,a≤z∧z≤b)→(l.length:Int)≤max 0 (b - a+1)
 | [],a,b,_,_=>by simp;omega
 | x::l,a,b,hu,h=>by
  rw [Up,List.pairwise_cons] at hu
  have hx:=h x (by simp)
  have:=up_len l (x+1) b hu.2 fun z hz=>⟨by have:=hu.1 z hz;omega,(h z (by simp [hz])).2⟩
  simp only [List.length_cons,Int.natCast_add,Int.natCast_one]
  omega
theorem len_leadsL {d:Int} {l:List E9} (hl:Less l) {f:Int} (h1:1≤f):((leadsL d l f).length:Int)≤f:=by
 have:=up_len _ 1 f (up_leadsL d l f) fun z hz=>leadsL_range hl _ f z (Nat.le_refl _) h1 hz
 omega
end Go.VE
namespace Go.VE
open Go.RowKit Go.Proofs
def walkP (a c:List E9) (o:List E5) (d p:Int):Bool×Bool:=if barB d p o=true then (false,true) else
 (((opts d p (below a a.length)).any fun x=>decide (f0 x≠0))&&(opts d p (below c c.length)).any Option.isNone,((opts d p (below a a.length)).any fun x=>decide (f0 x=0))||(opts d p (below c c.length)).any Option.isSome)
def goStep (W:Int→Bool×Bool):Option Int→Bool×Bool
 | none=>(true,false)
 | some z=>if z=0 then (false,true) else W z
def goP (a c:List E9) (o:List E5) (d p:Int):Bool×Bool:=if barB d p o=true then (false,true) else
 ((opts d p (below c c.length)).any fun x=>(goStep (walkP a c o d) x).1,(opts d p (below c c.length)).any fun x=>(goStep (walkP a c o d) x).2)
def famStep (L:Int→List Int) (yes no:Bool) (x:Option Int) (acc:List Int):List Int :=
 if f0 x=0∨yes=false then (if f0 x=0∨no=true then ins 0 acc else acc) else insAll (if f0 x=0∨no=true then ins 0 acc else acc) (L (f0 x))
def famB (L:Int→List Int) (yes no:Bool):List (Option Int)→List Int→List Int
 | [],acc=>acc
 | x::os,acc=>famB L yes no os (famStep L yes no x acc)
def famP (a b c:List E9) (o:List E5) (d p:Int):List Int:=famB (leadsL d b) (goP a c o d p).1 (goP a c o d p).2 (opts d p (below a a.length)) []
theorem up_famStep (L:Int→List Int) (yes no:Bool) (x:Option Int) {acc:List Int} (h:Up acc):Up (famStep L yes no x acc):=by
 unfold famStep
 have h1:Up (if f0 x=0∨no=true then ins 0 acc else acc):=by split;exact up_ins 0 h;exact h
 split
 ·exact h1
 ·exact up_insAll _ h1
theorem up_famB (L:Int→List Int) (yes no:Bool):∀ (os:List (Option Int)) {acc:List Int},Up acc→Up (famB L yes no os acc)
 | [],_,h=>h
 | x::os,_,h=>up_famB L yes no os (up_famStep L yes no x h)
theorem up_famP (a b c:List E9) (o:List E5) (d p:Int):Up (famP a b c o d p):=up_famB _ _ _ _ (by simp)
theorem mem_famStep (L:Int→List Int) (yes no:Bool) (x:Option Int) (acc:List Int) (z:Int):z∈famStep L yes no x acc↔z∈acc∨(z=0∧(f0 x=0∨no=true))∨(yes=true∧f0 x≠0∧z∈L (f0 x)):=by
 unfold famStep
 by_cases h0:f0 x=0
 ·simp only [h0,true_or,if_true,mem_ins,and_true,ne_eq,not_true_eq_false,false_and,and_false,or_false]
  exact Or.comm
 ·cases yes with
  | false =>
   cases no with
   | false=>simp [h0]
   | true=>simp [h0,mem_ins];exact Or.comm
  | true =>
   cases no with
   | false=>simp [h0,mem_insAll]
   | true =>
    simp only [h0,false_or,Bool.true_eq_false,if_false,if_true,mem_insAll,mem_ins,and_true,true_and,ne_eq,not_false_eq_true]
    constructor
    ·rintro ((h | h) | h)
     ·exact .inr (.inl h)
     ·exact .inl h
     ·exact .inr (.inr h)
    ·rintro (h | h | h)
     ·exact .inl (.inr h)
     ·exact .inl (.inl h)
     ·exact .inr h
theorem mem_famB (L:Int→List Int) (yes no:Bool) (z:Int):∀ (os:List (Option Int)) (acc:List Int),z∈famB L yes no os acc↔z∈acc∨(z=0∧∃ x∈os,f0 x=0∨no=true)∨(yes=true∧∃ x∈os,f0 x≠0∧z∈L (f0 x))
 | [],acc=>by simp [famB]
 | x::os,acc=>by
  rw [famB,mem_famB L yes no z os,mem_famStep]
  constructor
  ·rintro ((h | ⟨h1,h2⟩ | ⟨h1,h2,h3⟩) | ⟨h1,y,hy,h2⟩ | ⟨h1,y,hy,h2⟩)
   ·exact .inl h
   ·exact .inr (.inl ⟨h1,x,by simp,h2⟩)
   ·exact .inr (.inr ⟨h1,x,by simp,h2,h3⟩)
   ·exact .inr (.inl ⟨h1,y,by simp [hy],h2⟩)
   ·exact .inr (.inr ⟨h1,y,by simp [hy],h2⟩)
  ·rintro (h | ⟨h1,y,hy,h2⟩ | ⟨h1,y,hy,h2⟩)
   ·exact .inl (.inl h)
   ·rcases List.mem_cons.1 hy with rfl | hy
    ·exact .inl (.inr (.inl ⟨h1,h2⟩))
    ·exact .inr (.inl ⟨h1,y,hy,h2⟩)
   ·rcases List.mem_cons.1 hy with rfl | hy
    ·exact .inl (.inr (.inr ⟨h1,h2⟩))
    ·exact .inr (.inr ⟨h1,y,hy,h2⟩)
theorem mem_homesL (d p z:Int) (a:List E9):z∈homesL d p a↔∃ x∈opts d p (below a a.length),z=f0 x:=by
 unfold homesL;rw [mem_putAll];simp
theorem mem_awaysL (d p z:Int) (c:List E9):z∈awaysL d p c↔∃ x∈opts d p (below c c.length),z=fm x:=by
 unfold awaysL;rw [mem_putAll];simp
theorem any_iff {α:Type} (p:α→Bool) (l:List α):l.any p=true↔∃ x∈l,p x=true:=List.any_eq_true
def By0 (c:List E9):Prop:=∀ e∈c,0≤e.b
theorem by0_opt {d p:Int} {c:List E9} (hc:By0 c) {m:Nat} {w:Int} (h:some w∈opts d p (below c m)):0≤w:=by
 obtain ⟨e,he,_,h2,_⟩:=opts_mem _ _ _ _ h
 have:=hc e (mem_below he)
 omega
theorem two_len {l:List Int} {x:Int} (hx:x∈l) (hu:Up l):1 < l.length↔∃ z∈l,z≠x:=by
 cases l with
 | nil=>simp at hx
 | cons u r =>
  cases r with
  | nil =>
   simp at hx;subst hx
   constructor
   ·intro h;simp at h
   ·rintro ⟨z,hz,h⟩;simp at hz;exact absurd hz h
  | cons v r =>
   refine ⟨fun _=>?_,fun _=>by simp⟩
   rw [Up,List.pairwise_cons] at hu
   have:=hu.1 v (by simp)
   by_cases h:u=x
   ·exact ⟨v,by simp,by omega⟩
   ·exact ⟨u,by simp,h⟩
theorem one_eq {l:List Int} {x:Int} (hu:Up l) (hne:∃ z,z∈l):l=[x]↔∀ z∈l,z=x:=by
 constructor
 ·rintro rfl z hz;simpa using hz
 ·intro h
  refine up_ext hu (by simp) fun z=>?_
  obtain ⟨y,hy⟩:=hne
  have:=h y hy;subst this
  constructor
  ·intro hz;simp [h z hz]
  ·intro hz;simp at hz;subst hz;exact hy
theorem homes_ne (d p:Int) (a:List E9):∃ z,z∈homesL d p a:=by
 have:=opts_ne d p (below a a.length)
 cases hq:opts d p (below a a.length) with
 | nil=>exact absurd hq this
 | cons x q=>exact ⟨f0 x,(mem_homesL ..).2 ⟨x,by rw [hq];simp,rfl⟩⟩
theorem aways_none {d p:Int} {c:List E9} (hc:By0 c):-1∈awaysL d p c↔none∈opts d p (below c c.length):=by
 rw [mem_awaysL]
 constructor
 ·rintro ⟨x,hx,h⟩
  cases x with
  | none=>exact hx
  | some w=>have:=by0_opt hc hx;simp [fm] at h;omega
 ·intro h;exact ⟨none,h,rfl⟩
theorem aways_some {d p:Int} {c:List E9} (hc:By0 c):(∃ z∈awaysL d p c,z≠-1)↔∃ w,some w∈opts d p (below c c.length):=by
 constructor
 ·rintro ⟨z,hz,h⟩
  obtain ⟨x,hx,rfl⟩:=(mem_awaysL ..).1 hz
  cases x with
  | none=>simp [fm] at h
  | some w=>exact ⟨w,hx⟩
 ·rintro ⟨w,hw⟩
  have:=by0_opt hc hw
  exact ⟨w,(mem_awaysL ..).2 ⟨some w,hw,rfl⟩,by omega⟩
theorem isSome_any (l:List (Option Int)):l.any Option.isSome=true↔∃ w,some w∈l:=by
 rw [any_iff]
 constructor
 ·rintro ⟨x,hx,h⟩;cases x with
  | none=>simp at h
  | some w=>exact ⟨w,hx⟩
 ·rintro ⟨w,h⟩;exact ⟨_,h,rfl⟩
theorem isNone_any (l:List (Option Int)):l.any Option.isNone=true↔none∈l:=by
 rw [any_iff]
 constructor
 ·rintro ⟨x,hx,h⟩;cases x with
  | none=>exact hx
  | some w=>simp at h
 ·intro h;exact ⟨_,h,rfl⟩
theorem walkP_no (a c:List E9) (o:List E5) (d p:Int) (h:(walkP a c o d p).1=false):(walkP a c o d p).2=true:=by
 revert h
 unfold walkP
 split
 ·intro _;rfl
 ·simp only
  intro h
  rw [Bool.and_eq_false_iff] at h
  rw [Bool.or_eq_true]
  rcases h with h | h
  ·left
   obtain ⟨z,hz⟩:=homes_ne d p a
   obtain ⟨x,hx,rfl⟩:=(mem_homesL ..).1 hz
   have h3:=(List.any_eq_false.1 h) x hx
   exact (any_iff _ _).2 ⟨x,hx,by simpa using h3⟩
  ·right
   have:=opts_ne d p (below c c.length)
   rw [isSome_any]
   cases hq:opts d p (below c c.length) with
   | nil=>exact absurd hq this
   | cons x q =>
    rw [hq] at h
    cases x with
    | none=>simp at h
    | some w=>exact ⟨w,by simp⟩
theorem walk_eq (a c:List E9) (o:List E5) (d p:Int) (hc:By0 c):walkOf a c o d p=ansB (walkP a c o d p).1 (walkP a c o d p).2:=by
 unfold walkOf walkI walkP
 cases hb:barB d p o with
 | true=>simp [ansB]
 | false =>
  simp only [Bool.false_or,Bool.false_eq_true,if_false]
  have e1:homesL d p a=[0]↔((opts d p (below a a.length)).any fun x=>decide (f0 x≠0))=false:=by
   rw [one_eq (up_homes ..) (homes_ne ..),List.any_eq_false]
   constructor
   ·intro h x hx;have:=h _ ((mem_homesL ..).2 ⟨x,hx,rfl⟩);simp [this]
   ·intro h z hz
    obtain ⟨x,hx,rfl⟩:=(mem_homesL ..).1 hz
    have:=h x hx;simpa using this
  have e2:0∈homesL d p a↔((opts d p (below a a.length)).any fun x=>decide (f0 x=0))=true:=by
   rw [mem_homesL,any_iff]
   constructor
   ·rintro ⟨x,hx,h⟩;exact ⟨x,hx,by simp [←h]⟩
   ·rintro ⟨x,hx,h⟩;exact ⟨x,hx,by simpa using (of_decide_eq_true h).symm⟩
  have e3:-1∈awaysL d p c↔(opts d p (below c c.length)).any Option.isNone=true:=by rw [aways_none hc,isNone_any]
  have e4:-1∈awaysL d p c→(1 < (awaysL d p c).length↔(opts d p (below c c.length)).any Option.isSome=true):=fun h=>by
   rw [two_len h (up_aways ..),aways_some hc,isSome_any]
  revert e1 e2 e3 e4
  generalize (opts d p (below a a.length)).any (fun x=>decide (f0 x≠0))=q1
  generalize (opts d p (below a a.length)).any (fun x=>decide (f0 x=0))=q2
  generalize (opts d p (below c c.length)).any Option.isNone=q3
  generalize (opts d p (below c c.length)).any Option.isSome=q4
  intro e1 e2 e3 e4
  cases q1 with
  | false=>simp [e1.2 rfl,ansB]
  | true =>
   have n1:¬ homesL d p a=[0]:=fun h=>by have:=e1.1 h;cases this
   cases q3 with
   | false =>
    have n3:¬ -1∈awaysL d p c:=fun h=>by have:=e3.1 h;cases this
    simp [n1,n3,ansB]
   | true =>
    have n3:=e3.2 rfl
    have e4:=e4 n3
    rw [if_neg (by simp [n1,n3])]
    by_cases h2:0∈homesL d p a
    ·have:=e2.1 h2;subst this
     rw [if_pos (.inl h2)];simp [ansB]
    ·have:q2=false:=by cases q2;rfl;exact absurd (e2.2 rfl) h2
     subst this
     cases q4 with
     | true=>rw [if_pos (.inr (e4.2 rfl))];simp [ansB]
     | false =>
      rw [if_neg]
      ·simp [ansB]
      ·rintro (h | h)
       ·exact h2 h
       ·have:=e4.1 h;cases this
theorem ansB_ne (y n:Bool):ansB y n≠0↔y=true:=by cases y<;>cases n<;>simp [ansB]
theorem ansB_one (y n:Bool):ansB y n≠1↔(y=false∨n=true):=by cases y<;>cases n<;>simp [ansB]
theorem byI_step (a c:List E9) (o:List E5) (d:Int) (hc:By0 c) (x:Option Int) (hx:∀ w,x=some w→0≤w):(byI a c o d (fm x)≠0↔(goStep (walkP a c o d) x).1=true)∧(byI a c o d (fm x)≠1↔(goStep (walkP a c o d) x).2=true):=by
 cases x with
 | none=>simp [byI,fm,goStep]
 | some w =>
  have:=hx w rfl
  by_cases h:w=0
  ·subst h;simp [byI,fm,goStep]
  ·have h2:0 < w:=by omega
   simp only [byI,fm,Option.getD_some,h2,if_true,goStep,h,if_false]
   rw [walk_eq a c o d w hc,ansB_ne,ansB_one]
   refine ⟨Iff.rfl,⟨fun h=>?_,fun h=>.inr h⟩⟩
   rcases h with h | h
   ·exact walkP_no _ _ _ _ _ h
   ·exact h
theorem any_by (a c:List E9) (o:List E5) (d p:Int) (hc:By0 c):((awaysL d p c).any fun z=>decide (byI a c o d z≠0))=((opts d p (below c c.length)).any fun x=>(goStep (walkP a c o d) x).1)∧((awaysL d p c).any fun z=>decide (byI a c o d z≠1))=((opts d p (below c c.length)).any fun x=>(goStep (walkP a c o d) x).2):=by
 have key:∀ x∈opts d p (below c c.length),∀ w,x=some w→0≤w:=fun x hx w h=>by subst h;exact by0_opt hc hx
 constructor
 ·rw [Bool.eq_iff_iff,any_iff,any_iff]
  constructor
  ·rintro ⟨z,hz,h⟩
   obtain ⟨x,hx,rfl⟩:=(mem_awaysL ..).1 hz
   exact ⟨x,hx,(byI_step a c o d hc x (key x hx)).1.1 (by simpa using h)⟩
  ·rintro ⟨x,hx,h⟩
   exact ⟨fm x,(mem_awaysL ..).2 ⟨x,hx,rfl⟩,by simpa using (byI_step a c o d hc x (key x hx)).1.2 h⟩
 ·rw [Bool.eq_iff_iff,any_iff,any_iff]
  constructor
  ·rintro ⟨z,hz,h⟩
   obtain ⟨x,hx,rfl⟩:=(mem_awaysL ..).1 hz
   exact ⟨x,hx,(byI_step a c o d hc x (key x hx)).2.1 (by simpa using h)⟩
  ·rintro ⟨x,hx,h⟩
   exact ⟨fm x,(mem_awaysL ..).2 ⟨x,hx,rfl⟩,by simpa using (byI_step a c o d hc x (key x hx)).2.2 h⟩
theorem goP_no (a c:List E9) (o:List E5) (d p:Int) (h:(goP a c o d p).1=false):(goP a c o d p).2=true:=by
 revert h
 unfold goP
 split
 ·intro _;rfl
 ·simp only
  intro h
  have:=opts_ne d p (below c c.length)
  cases hq:opts d p (below c c.length) with
  | nil=>exact absurd hq this
  | cons x q =>
   rw [hq] at h
   have h1:=List.any_eq_false.1 h x (by simp)
   have h2:(goStep (walkP a c o d) x).2=true:=by
    cases x with
    | none=>simp [goStep] at h1
    | some w =>
     simp only [goStep] at h1 ⊢
     split
     ·rfl
     ·rename_i hw
      rw [if_neg hw] at h1
      exact walkP_no _ _ _ _ _ (by simpa using h1)
   exact (any_iff _ _).2 ⟨x,by simp,h2⟩
theorem gleans_eq (a c:List E9) (o:List E5) (d p:Int) (hc:By0 c):gleansI a c o d p=ansB ((goP a c o d p).1&&!decide (homesL d p a=[0])) ((goP a c o d p).2||decide (0∈homesL d p a)):=by
 unfold gleansI goP
 cases hb:barB d p o with
 | true=>simp [ansB]
 | false =>
  simp only [Bool.false_or,Bool.false_eq_true,if_false]
  rw [(any_by a c o d p hc).1,(any_by a c o d p hc).2]
  by_cases h:homesL d p a=[0]
  ·simp [h,ansB]
  ·simp [h,Bool.or_comm]
theorem mem_famP {a b c:List E9} {o:List E5} {d p z:Int}:z∈famP a b c o d p↔(z=0∧(0∈homesL d p a∨(goP a c o d p).2=true))∨((goP a c o d p).1=true∧∃ h∈homesL d p a,h≠0∧z∈leadsL d b h):=by
 unfold famP
 rw [mem_famB]
 simp only [List.not_mem_nil,false_or]
 constructor
 ·rintro (⟨h1,x,hx,h2⟩ | ⟨h1,x,hx,h2,h3⟩)
  ·refine .inl ⟨h1,?_⟩
   rcases h2 with h2 | h2
   ·exact .inl ((mem_homesL ..).2 ⟨x,hx,h2.symm⟩)
   ·exact .inr h2
  ·exact .inr ⟨h1,f0 x,(mem_homesL ..).2 ⟨x,hx,rfl⟩,h2,h3⟩
 ·rintro (⟨h1,h2⟩ | ⟨h1,h,hh,h2,h3⟩)
  ·refine .inl ⟨h1,?_⟩
   rcases h2 with h2 | h2
   ·obtain ⟨x,hx,h2⟩:=(mem_homesL ..).1 h2
    exact ⟨x,hx,.inl h2.symm⟩
   ·obtain ⟨z,hz⟩:=homes_ne d p a
    obtain ⟨x,hx,_⟩:=(mem_homesL ..).1 hz
    exact ⟨x,hx,.inr h2⟩
  ·obtain ⟨x,hx,rfl⟩:=(mem_homesL ..).1 hh
   exact .inr ⟨h1,x,hx,h2,h3⟩
theorem homes0 {d p:Int} {a:List E9}:homesL d p a=[0]↔∀ h∈homesL d p a,h=0:=one_eq (up_homes ..) (homes_ne ..)
end Go.VE
namespace Go.VE
open Go.RowKit Go.Proofs
def Fam1 (a:List E9):Prop:=∀ e∈a,1≤e.b∧e.b≤99
theorem homes_range {d p:Int} {a:List E9} (ha:Fam1 a) {h:Int} (hh:h∈homesL d p a):0≤h∧h≤99:=by
 obtain ⟨x,hx,rfl⟩:=(mem_homesL ..).1 hh
 cases x with
 | none=>simp [f0]
 | some w =>
  obtain ⟨e,he,_,h2,_⟩:=opts_mem _ _ _ _ hx
  have:=ha e (mem_below he)
  simp only [f0,Option.getD_some];omega
theorem fam_range {a b c:List E9} {o:List E5} {d p z:Int} (ha:Fam1 a) (hb:Less b) (hz:z∈famP a b c o d p):0≤z∧z≤99:=by
 rcases mem_famP.1 hz with ⟨rfl,_⟩ | ⟨_,h,hh,h0,hl⟩
 ·omega
 ·have:=homes_range ha hh
  have:=leadsL_range hb _ h z (Nat.le_refl _) (by omega) hl
  omega
theorem fam_zero {a b c:List E9} {o:List E5} {d p:Int} (ha:Fam1 a) (hb:Less b):0∈famP a b c o d p↔(0∈homesL d p a∨(goP a c o d p).2=true):=by
 rw [mem_famP]
 constructor
 ·rintro (⟨_,h⟩ | ⟨_,h,hh,h0,hl⟩)
  ·exact h
  ·have:=homes_range ha hh
   have:=leadsL_range hb _ h 0 (Nat.le_refl _) (by omega) hl
   omega
 ·intro h;exact .inl ⟨rfl,h⟩
theorem fam_pos {a b c:List E9} {o:List E5} {d p:Int} (ha:Fam1 a) (hb:Less b):(∃ z∈famP a b c o d p,z≠0)↔((goP a c o d p).1=true∧homesL d p a≠[0]):=by
 constructor
 ·rintro ⟨z,hz,h0⟩
  rcases mem_famP.1 hz with ⟨rfl,_⟩ | ⟨h1,h,hh,h2,_⟩
  ·exact absurd rfl h0
  ·exact ⟨h1,fun e=>h2 (homes0.1 e h hh)⟩
 ·rintro ⟨h1,h2⟩
  rw [Ne,homes0] at h2
  have:∃ h∈homesL d p a,h≠0:=by
   apply Classical.byContradiction;intro hn
   exact h2 fun h hh=>Classical.byContradiction fun h0=>hn ⟨h,hh,h0⟩
  obtain ⟨h,hh,h0⟩:=this
  have:=homes_range ha hh
  obtain ⟨z,hz⟩:=leadsL_ne hb _ h (Nat.le_refl _) (by omega)
  have:=leadsL_range hb _ h z (Nat.le_refl _) (by omega) hz
  exact ⟨z,mem_famP.2 (.inr ⟨h1,h,hh,h0,hz⟩),by omega⟩
theorem fam_ne {a b c:List E9} {o:List E5} {d p:Int} (ha:Fam1 a) (hb:Less b):∃ z,z∈famP a b c o d p:=by
 by_cases h:0∈famP a b c o d p
 ·exact ⟨0,h⟩
 ·rw [fam_zero ha hb,not_or] at h
  have h1:(goP a c o d p).1=true:=by
   cases hq:(goP a c o d p).1
   ·exact absurd (goP_no _ _ _ _ _ hq) h.2
   ·rfl
  have h2:homesL d p a≠[0]:=fun e=>h.1 (by rw [e];simp)
  obtain ⟨z,hz,_⟩:=(fam_pos (c:=c) (o:=o) ha hb).2 ⟨h1,h2⟩
  exact ⟨z,hz⟩
theorem up_head {l:List Int} (hu:Up l) (hr:∀ z∈l,0≤z) (hne:∃ z,z∈l):∃ x r,l=x::r∧(x=0↔0∈l):=by
 cases l with
 | nil=>obtain ⟨z,hz⟩:=hne;simp at hz
 | cons x r =>
  refine ⟨x,r,rfl,fun h=>by simp [h],fun h=>?_⟩
  rw [Up,List.pairwise_cons] at hu
  rcases List.mem_cons.1 h with h | h
  ·exact h.symm
  ·have:=hu.1 0 h
   have:=hr x (by simp)
   omega
theorem up_last:∀ {l:List Int},Up l→(∀ z∈l,0≤z)→∀ {y:Int},l[l.length - 1]?=some y→(y≠0↔∃ z∈l,z≠0)
 | [],_,_,y,h=>by simp at h
 | [x],_,_,y,h=>by simp at h;subst h;simp
 | x::w::r,hu,hr,y,h=>by
  rw [Up,List.pairwise_cons] at hu
  have h':(w::r)[(w::r).length - 1]?=some y:=by simpa using h
  have ih:=up_last (l:=w::r) hu.2 (fun z hz=>hr z (List.mem_cons_of_mem _ hz)) h'
  have hm:y∈w::r:=List.mem_of_getElem? h'
  have h1:=hu.1 y hm
  have h2:=hr x (by simp)
  exact ⟨fun _=>⟨y,List.mem_cons_of_mem _ hm,by omega⟩,fun _=>by omega⟩
theorem gleansP {a b c:List E9} {o:List E5} {d p:Int} (ha:Fam1 a) (hb:Less b) (hc:By0 c) {x y:Int} {r:List Int} (hx:famP a b c o d p=x::r) (hy:(famP a b c o d p)[(famP a b c o d p).length - 1]?=some y):ansB (decide (y≠0)) (decide (x=0))=gleansI a c o d p:=by
 have hr:∀ z∈famP a b c o d p,0≤z:=fun z hz=>(fam_range ha hb hz).1
 have h1:=up_last (up_famP a b c o d p) hr hy
 obtain ⟨x',r',e,h2⟩:=up_head (up_famP a b c o d p) hr (fam_ne ha hb)
 rw [hx] at e;cases e
 rw [fam_pos ha hb] at h1
 rw [fam_zero ha hb] at h2
 rw [gleans_eq a c o d p hc]
 have e1:decide (y≠0)=((goP a c o d p).1&&!decide (homesL d p a=[0])):=by
  rw [Bool.eq_iff_iff,decide_eq_true_iff,h1];simp
 have e2:decide (x=0)=((goP a c o d p).2||decide (0∈homesL d p a)):=by
  rw [Bool.eq_iff_iff,decide_eq_true_iff,h2];simp [or_comm]
 rw [e1,e2]
def forI (l:List Int) (f:Int):Int:=if f∈l then (if 1 < l.length then 2 else 1) else 0
theorem forP (l:List Int) (f x:Int) (r:List Int) (h:l=x::r):ansB (decide (f∈l)) (decide (1 < l.length)||decide (x≠f))=forI l f:=by
 unfold forI ansB
 subst h
 by_cases h1:f∈x::r
 ·simp only [h1,decide_true,if_true]
  by_cases h2:1 < (x::r).length
  ·simp only [h2,decide_true,Bool.true_or,if_true]
  ·have:r=[]:=by cases r;rfl;simp at h2
   subst this
   have:f=x:=by simpa using h1
   subst this
   simp
 ·simp [h1]
end Go.VE
namespace Go.VE
open Go.RowKit Go.Proofs
def optR {σ:Type} (step:σ→Int→σ) (stopO noneO:σ→Out):σ→List (Option Int)→Out
 | s,[]=>stopO s
 | s,none::_=>noneO s
 | s,some w::os=>optR step stopO noneO (step s w) os
def LastN:List (Option Int)→Prop
 | []=>True
 | none::r=>r=[]
 | some _::r=>LastN r
theorem opts_last (d who:Int):∀ l:List E9,LastN (opts d who l)
 | []=>rfl
 | e::r=>by
  simp only [opts]
  split
  ·split
   ·trivial
   ·exact opts_last d who r
  ·exact opts_last d who r
theorem opt_loop {σ:Type} (l:List E9) (hl:l.length≤1000000) (d who:Int) (bs:List ((Nat→List Yr→Out)→List Yr→Out)) (en:Nat→σ→Nat×List Yr) (I:Nat→σ→Prop) (step:σ→Int→σ) (stopO noneO:σ→Out)
  (h0:∀ s k,I 0 s→∃ b,bs[(en 0 s).1]?=some b∧b k (en 0 s).2=noneO s)
  (h1:∀ (m:Nat) e s (k:Nat→List Yr→Out),l[m]?=some e→m < l.length→IntKind.i64.wrap (((m:Nat):Int) - 1)=((m:Nat):Int) - 1→(((m+1:Nat):Int) - 1)=((m:Nat):Int)→I (m+1) s →
   I m s∧(e.a=who→mayB e.f1 e.t2 d=true→I m (step s e.b))∧∃ b,bs[(en (m+1) s).1]?=some b∧b k (en (m+1) s).2=if e.a=who∧mayB e.f1 e.t2 d=true then (if sureB e.f2 e.t1 d=true then stopO (step s e.b) else k (en m (step s e.b)).1 (en m (step s e.b)).2) else k (en m s).1 (en m s).2)
  (s:σ) (hs:I l.length s):loopR bs M0 (en l.length s).1 (en l.length s).2=optR step stopO noneO s (opts d who (below l l.length)):=by
 refine loop_ms (σ:=Nat×σ) bs (fun s=>en s.1 s.2) (fun s=>s.1) (fun s=>s.1≤l.length∧I s.1 s.2) (fun s=>optR step stopO noneO s.2 (opts d who (below l s.1))) ?_ M0 (l.length,s) ⟨Nat.le_refl _,hs⟩ (by unfold M0;simp only;omega)
 rintro ⟨m,s⟩ k ⟨g1,g2⟩ ih
 simp only at g1 g2 ih ⊢
 cases m with
 | zero=>exact h0 s k g2
 | succ m =>
  obtain ⟨e,he⟩:∃ e,l[m]?=some e:=⟨_,List.getElem?_eq_getElem (by omega)⟩
  obtain ⟨i1,i2,b,hb,hr⟩:=h1 m e s k he (by omega) (wrap_id (by omega) (by omega)) (by omega) g2
  refine ⟨b,hb,?_⟩
  rw [hr,below_succ he,opts]
  split
  ·rename_i hc
   split
   ·rfl
   ·exact ih (m,step s e.b) ⟨by simp only;omega,i2 hc.1 hc.2⟩ (by simp only;omega)
  ·exact ih (m,s) ⟨by simp only;omega,i1⟩ (by simp only;omega)
theorem optR_congr {σ:Type} {step:σ→Int→σ} {stopO noneO:σ→Out} (R:σ→List (Option Int)→Out) (h0:∀ s,stopO s=R s []) (h1:∀ s,noneO s=R s [none]) (h2:∀ s w os,R (step s w) os=R s (some w::os)):∀ (os:List (Option Int)) (s:σ),LastN os→optR step stopO noneO s os=R s os
 | [],s,_=>h0 s
 | none::r,s,h=>by have:r=[]:=h;subst this;exact h1 s
 | some w::os,s,h=>by
  have:=optR_congr R h0 h1 h2 os (step s w) h
  rw [optR,this,h2]
section
variable {Fn:Nat→List D→Out} {FnD:D→List Sh→List D→Out} {m:Nat}
end
end Go.VE
namespace Go.VE
open Go.RowKit Go.Proofs
def hB:Option Int→Bool
 | some w=>decide (w≠0)
 | none=>false
def zB:Option Int→Bool
 | some w=>decide (w=0)
 | none=>false
def R196 (x0 x1:D) (s:Bool×Bool) (os:List (Option Int)):Out:=some (if os.any Option.isNone=true then 0 else 1,[.d (bl false),.d (bl (s.1||os.any hB)),.d (bl (s.2||os.any zB)),.d x0,.d x1])
set_option maxRecDepth 20000 in
theorem l196_0 (n:Nat) (a b c:Option (List E9)) (o:Option (List E5)) (d who:Int) (hl:(a.getD []).length≤1000000) (s:Bool×Bool) :
  loopR [L196_0 (RP (n+4))] M0 0 [.d (il d),.d (il (((a.getD []).length:Int) - 1)),.d (bl false),.d (bl s.1),.d (bl s.2),.d (dKin a b c o),.d (il who)]=R196 (dKin a b c o) (il who) s (opts d who (below (a.getD []) (a.getD []).length)):=by
 have:=opt_loop (σ:=Bool×Bool) (a.getD []) hl d who [L196_0 (RP (n+4))] (fun m s=>(0,[.d (il d),.d (il ((m:Int) - 1)),.d (bl false),.d (bl s.1),.d (bl s.2),.d (dKin a b c o),.d (il who)])) (fun _ _=>True) (fun s w=>(s.1||decide (w≠0),s.2||decide (w=0)))
  (fun s=>some (1,[.d (bl false),.d (bl s.1),.d (bl s.2),.d (dKin a b c o),.d (il who)])) (fun s=>some (0,[.d (bl false),.d (bl s.1),.d (bl s.2),.d (dKin a b c o),.d (il who)])) ?_ ?_ s trivial
 ·refine Eq.trans this (optR_congr (R196 (dKin a b c o) (il who)) ?_ ?_ ?_ _ s (opts_last _ _ _))
  ·intro s;simp [R196]
  ·intro s;simp [R196,hB,zB]
  ·intro s w os;simp only [R196,List.any_cons,hB,zB,Option.isNone_some,Bool.false_or,Bool.or_assoc]
 ·intro s k _
  exact ⟨_,rfl,by simp [L196_0]⟩
 ·intro m e s k he hm hw hm1 _
  refine ⟨trivial,fun _ _=>trivial,_,rfl,?_⟩
  have h157:=s157 (n+3) a b c o m e who he
  simp only [hm1,L196_0,r_ld0,r_lds,r_liti,r_geq,r_cond]
  rw [if_pos (by simp)]
  simp only [r_call,h157,r_bnd0,r_ld0,r_lds,r_not,r_cond,r_sub,hw,s208,r_litb,r_out,r_neq]
  obtain ⟨s1,s2⟩:=s
  by_cases h1:e.a=who
  ·by_cases h2:mayB e.f1 e.t2 d=true
   ·rw [if_pos (⟨h1,h2⟩:e.a=who∧mayB e.f1 e.t2 d=true)]
    cases s1<;>cases s2<;>cases hq:sureB e.f2 e.t1 d<;>simp [h1,h2,s209,hq]
   ·rw [if_neg (fun h=>h2 h.2:¬ (e.a=who∧mayB e.f1 e.t2 d=true))]
    simp [h1,h2]
  ·rw [if_neg (fun h=>h1 h.1:¬ (e.a=who∧mayB e.f1 e.t2 d=true))]
   simp [h1]
def R196b (x0 x1 x2 x3:D) (h:Bool) (s:Bool) (os:List (Option Int)):Out:=some (if os.any Option.isNone=true then 0 else 1,[.d (bl false),.d (bl h),.d (bl (s||os.any Option.isSome)),.d x0,.d x1,.d x2,.d x3])
set_option maxRecDepth 20000 in
theorem l196_1 (n:Nat) (a b c:Option (List E9)) (o:Option (List E5)) (d who:Int) (x0 x1:D) (hl:(c.getD []).length≤1000000) (h s:Bool) :
  loopR [L196_1 (RP (n+4))] M0 0 [.d (il d),.d (il (((c.getD []).length:Int) - 1)),.d (bl false),.d (bl h),.d (bl s),.d x0,.d x1,.d (dKin a b c o),.d (il who)]=R196b x0 x1 (dKin a b c o) (il who) h s (opts d who (below (c.getD []) (c.getD []).length)):=by
 have:=opt_loop (σ:=Bool) (c.getD []) hl d who [L196_1 (RP (n+4))] (fun m s=>(0,[.d (il d),.d (il ((m:Int) - 1)),.d (bl false),.d (bl h),.d (bl s),.d x0,.d x1,.d (dKin a b c o),.d (il who)])) (fun _ _=>True) (fun _ _=>true)
  (fun s=>some (1,[.d (bl false),.d (bl h),.d (bl s),.d x0,.d x1,.d (dKin a b c o),.d (il who)])) (fun s=>some (0,[.d (bl false),.d (bl h),.d (bl s),.d x0,.d x1,.d (dKin a b c o),.d (il who)])) ?_ ?_ s trivial
 ·refine Eq.trans this (optR_congr (R196b x0 x1 (dKin a b c o) (il who) h) ?_ ?_ ?_ _ s (opts_last _ _ _))
  ·intro s;simp [R196b]
  ·intro s;simp [R196b]
  ·intro s w os;simp [R196b]
 ·intro s k _
  exact ⟨_,rfl,by simp [L196_1]⟩
 ·intro m e s k he hm hw hm1 _
  refine ⟨trivial,fun _ _=>trivial,_,rfl,?_⟩
  have h195:=s195 (n+3) a b c o m e who he
  have hnn:¬ ((m:Nat):Int) < 0:=by omega
  simp only [hm1,L196_1,r_ld0,r_lds,r_liti,r_geq,r_cond]
  rw [if_pos (by simp)]
  simp only [r_call,h195,r_bnd0,r_ld0,r_lds,r_not,r_cond,r_sub,hw,s208,r_litb,r_out,r_lss]
  by_cases h1:e.a=who
  ·by_cases h2:mayB e.f1 e.t2 d=true
   ·rw [if_pos (⟨h1,h2⟩:e.a=who∧mayB e.f1 e.t2 d=true)]
    cases s<;>cases hq:sureB e.f2 e.t1 d<;>simp [h1,h2,hnn,s209,hq]
   ·rw [if_neg (fun h=>h2 h.2:¬ (e.a=who∧mayB e.f1 e.t2 d=true))]
    simp [h1,h2]
  ·rw [if_neg (fun h=>h1 h.1:¬ (e.a=who∧mayB e.f1 e.t2 d=true))]
   simp [h1]
theorem L196_2e (n:Nat):L196_2 (RP n)=L196_1 (RP n):=rfl
theorem L196_3e (n:Nat):L196_3 (RP n)=L196_1 (RP n):=rfl
theorem hB_any (os:List (Option Int)):(os.any fun x=>decide (f0 x≠0))=os.any hB:=by
 congr 1;funext x;cases x<;>rfl
theorem zB_any (os:List (Option Int)):(os.any fun x=>decide (f0 x=0))=(os.any zB||os.any Option.isNone):=by
 induction os with
 | nil=>rfl
 | cons x os ih =>
  rw [List.any_cons,ih,List.any_cons,List.any_cons]
  cases x with
  | none=>simp [f0,zB]
  | some w=>simp only [zB,Option.isNone_some,Bool.false_or,Bool.or_assoc];rfl
set_option maxRecDepth 20000 in
theorem s196 (n:Nat) (a b c:Option (List E9)) (o:Option (List E5)) (d who:Int) (hd:0≤d∧d≤4166) (ha:(a.getD []).length≤1000000) (hc:(c.getD []).length≤1000000) (ho:(o.getD []).length≤1000000) :
  FN (n+6) 196 [d9 a,d9 b,d9 c,d5 o,il who,il d]=some (0,[.d (bl (walkP (a.getD []) (c.getD []) (o.getD []) d who).1),.d (bl (walkP (a.getD []) (c.getD []) (o.getD []) d who).2)]):=by
 rw [F196]
 have h0:=l196_0 (n+1) a b c o d who ha (false,false)
 have h1:=fun h s=>l196_1 (n+1) a b c o d who (dKin a b c o) (il who) hc h s
 simp only [dKin] at h0 h1
 simp only [G196,r_call,s214 n (d9 a) (d9 b) (d9 c) o d who hd (by omega),r_bnd0,r_ld0,r_cond,r_litb,r_out,r_dpD,r_isPtr]
 unfold walkP
 cases barB d who (o.getD []) with
 | true=>simp
 | false =>
  simp only [Bool.false_eq_true,if_false]
  have hp:∀ k:List D→Out,(RP (n+5)).ptrW 4 (.dp [d9 a,d9 b,d9 c,d5 o] 0) k=k [d9 a,d9 b,d9 c,d5 o]:=fun k=>r_ptrW _ 4 k rfl
  have w1:IntKind.i64.wrap (((a.getD []).length:Int) - 1)=((a.getD []).length:Int) - 1:=wrap_id (by omega) (by omega)
  have w2:IntKind.i64.wrap (((c.getD []).length:Int) - 1)=((c.getD []).length:Int) - 1:=wrap_id (by omega) (by omega)
  simp only [hp,r_cell0,r_cells,len9,r_liti,r_sub,w1,w2,r_loop]
  rw [show (RP (n+5))=RP (n+1+4) from rfl] at *
  rw [h0,hB_any,zB_any]
  simp only [R196,Bool.false_or]
  generalize opts d who (below (a.getD []) (a.getD []).length)=q at *
  cases hn:q.any Option.isNone with
  | true =>
   simp only [if_true,r_bnd0,r_ld0,r_lds,r_cond,r_neq,ne_eq,not_true_eq_false,decide_false]
   cases hh:q.any hB<;>cases hz:q.any zB<;>simp only [Bool.false_eq_true,if_true,if_false,r_bnd0,r_ld0,r_lds,r_cond,L196_2e,h1,R196b] <;>
    (cases hn2:(opts d who (below (c.getD []) (c.getD []).length)).any Option.isNone<;>cases hn3:(opts d who (below (c.getD []) (c.getD []).length)).any Option.isSome<;>simp [h1,R196b,hn2,hn3])
  | false =>
   simp only [Bool.false_eq_true,if_false,r_bndg,r_bnd0,r_ld0,r_lds,L196_3e,h1,R196b]
   cases hh:q.any hB<;>cases hz:q.any zB <;>
    (cases hn2:(opts d who (below (c.getD []) (c.getD []).length)).any Option.isNone<;>cases hn3:(opts d who (below (c.getD []) (c.getD []).length)).any Option.isSome<;>simp [])
end Go.VE
namespace Go.VE
open Go.RowKit Go.Proofs
def goStep' (W:Int→Bool×Bool):Option Int→Bool×Bool
 | none=>(false,false)
 | some z=>goStep W (some z)
def Q163 (x0 x1:D) (W:Int→Bool×Bool) (s:Bool×Bool) (os:List (Option Int)):Out:=some (if os.any Option.isNone=true then 1 else 0,[.d (bl (s.1||os.any fun x=>(goStep' W x).2)),.d (bl (s.2||os.any fun x=>(goStep' W x).1)),.d x0,.d x1])
set_option maxRecDepth 20000 in
theorem l163 (n:Nat) (a b c:Option (List E9)) (o:Option (List E5)) (d who:Int) (hd:0≤d∧d≤4166) (ha:(a.getD []).length≤1000000) (hc:(c.getD []).length≤1000000) (ho:(o.getD []).length≤1000000) (s:Bool×Bool) :
  loopR [L163_0 (RP (n+6)) (d9 a) (d9 b) (d9 c) (d5 o) (il d)] M0 0 [.d (il d),.d (il (((c.getD []).length:Int) - 1)),.d (bl s.1),.d (bl s.2),.d (dKin a b c o),.d (il who)]=Q163 (dKin a b c o) (il who) (walkP (a.getD []) (c.getD []) (o.getD []) d) s (opts d who (below (c.getD []) (c.getD []).length)):=by
 have:=opt_loop (σ:=Bool×Bool) (c.getD []) hc d who [L163_0 (RP (n+6)) (d9 a) (d9 b) (d9 c) (d5 o) (il d)] (fun m s=>(0,[.d (il d),.d (il ((m:Int) - 1)),.d (bl s.1),.d (bl s.2),.d (dKin a b c o),.d (il who)])) (fun _ _=>True) (fun s w=>(s.1||(goStep (walkP (a.getD []) (c.getD []) (o.getD []) d) (some w)).2,s.2||(goStep (walkP (a.getD []) (c.getD []) (o.getD []) d) (some w)).1))
  (fun s=>some (0,[.d (bl s.1),.d (bl s.2),.d (dKin a b c o),.d (il who)])) (fun s=>some (1,[.d (bl s.1),.d (bl s.2),.d (dKin a b c o),.d (il who)])) ?_ ?_ s trivial
 ·refine Eq.trans this (optR_congr (Q163 (dKin a b c o) (il who) (walkP (a.getD []) (c.getD []) (o.getD []) d)) ?_ ?_ ?_ _ s (opts_last _ _ _))
  ·intro s;simp [Q163]
  ·intro s;simp [Q163,goStep']
  ·intro s w os;simp only [Q163,List.any_cons,goStep',Option.isNone_some,Bool.false_or,Bool.or_assoc]
 ·intro s k _
  exact ⟨_,rfl,by simp [L163_0]⟩
 ·intro m e s k he hm hw hm1 _
  refine ⟨trivial,fun _ _=>trivial,_,rfl,?_⟩
  have h195:=s195 (n+5) a b c o m e who he
  have h196:=s196 n a b c o d e.b hd ha hc ho
  have hnn:¬ ((m:Nat):Int) < 0:=by omega
  have hp:∀ k:List D→Out,(RP (n+6)).ptrW 4 (.dp [d9 a,d9 b,d9 c,d5 o] 0) k=k [d9 a,d9 b,d9 c,d5 o]:=fun k=>r_ptrW _ 4 k rfl
  simp only [hm1,L163_0,r_ld0,r_lds,r_liti,r_geq,r_cond]
  rw [if_pos (by simp)]
  simp only [r_call,h195,r_bnd0,r_ld0,r_lds,r_not,r_cond,r_sub,hw,s208,s209,r_litb,r_out,r_eql,r_lss,hnn,decide_false,Bool.false_eq_true,if_false,r_dpD,hp,r_cell0,r_cells,h196,goStep]
  obtain ⟨s1,s2⟩:=s
  by_cases h1:e.a=who
  ·by_cases h2:mayB e.f1 e.t2 d=true
   ·rw [if_pos (⟨h1,h2⟩:e.a=who∧mayB e.f1 e.t2 d=true)]
    by_cases h3:e.b=0
    ·cases s1<;>cases s2<;>cases hq:sureB e.f2 e.t1 d<;>simp [h1,h2,h3]
    ·cases s1<;>cases s2<;>cases hq:sureB e.f2 e.t1 d<;>simp [h1,h2,h3]
   ·rw [if_neg (fun h=>h2 h.2:¬ (e.a=who∧mayB e.f1 e.t2 d=true))]
    simp [h1,h2]
  ·rw [if_neg (fun h=>h1 h.1:¬ (e.a=who∧mayB e.f1 e.t2 d=true))]
   simp [h1]
theorem go1_any (W:Int→Bool×Bool) (os:List (Option Int)):(os.any fun x=>(goStep W x).1)=((os.any fun x=>(goStep' W x).1)||os.any Option.isNone):=by
 induction os with
 | nil=>rfl
 | cons x os ih =>
  rw [List.any_cons,ih,List.any_cons,List.any_cons]
  cases x with
  | none=>simp [goStep,goStep']
  | some w=>simp [goStep',Bool.or_assoc]
theorem go2_any (W:Int→Bool×Bool) (os:List (Option Int)):(os.any fun x=>(goStep W x).2)=os.any fun x=>(goStep' W x).2:=by
 congr 1;funext x;cases x<;>rfl
set_option maxRecDepth 20000 in
theorem s163 (n:Nat) (a b c:Option (List E9)) (o:Option (List E5)) (d who:Int) (hd:0≤d∧d≤4166) (ha:(a.getD []).length≤1000000) (hc:(c.getD []).length≤1000000) (ho:(o.getD []).length≤1000000) :
  FN (n+7) 163 [d9 a,d9 b,d9 c,d5 o,il who,il d]=some (0,[.d (bl (goP (a.getD []) (c.getD []) (o.getD []) d who).1),.d (bl (goP (a.getD []) (c.getD []) (o.getD []) d who).2)]):=by
 rw [F163]
 have h0:=l163 n a b c o d who hd ha hc ho (false,false)
 simp only [dKin] at h0
 have hp:∀ k:List D→Out,(RP (n+6)).ptrW 4 (.dp [d9 a,d9 b,d9 c,d5 o] 0) k=k [d9 a,d9 b,d9 c,d5 o]:=fun k=>r_ptrW _ 4 k rfl
 have w2:IntKind.i64.wrap (((c.getD []).length:Int) - 1)=((c.getD []).length:Int) - 1:=wrap_id (by omega) (by omega)
 simp only [G163,r_call,r_dpD,hp,r_cell0,r_cells,s214 (n+1) (d9 a) (d9 b) (d9 c) o d who hd (by omega),r_bnd0,r_ld0,r_cond,r_litb,r_out,r_isPtr]
 unfold goP
 cases barB d who (o.getD []) with
 | true=>simp
 | false =>
  simp only [Bool.false_eq_true,if_false,len9,r_liti,r_sub,w2,r_loop,h0,go1_any,go2_any,Q163,Bool.false_or]
  generalize opts d who (below (c.getD []) (c.getD []).length)=q
  cases hn:q.any Option.isNone with
  | true =>
   simp []
  | false =>
   simp
end Go.VE
namespace Go.VE
open Go.RowKit Go.Proofs
theorem ins_own (l:List Int) (hl:l.length≤1000000) (body:(Nat→List Yr→Out)→List Yr→Out) (st:Nat→List Int→List Yr) (ex:List Int→Out) (N:Nat)
  (h0:∀ acc k,body k (st l.length acc)=ex acc)
  (h1:∀ (i:Nat) c acc (k:Nat→List Yr→Out),l[i]?=some c→(i:Int) < (l.length:Int)→IntKind.i64.wrap ((i:Int)+1)=((i+1:Nat):Int)→Up acc→acc.length≤N+1000000→body k (st i acc)=k 0 (st (i+1) (ins c acc)))
  (acc:List Int) (hu:Up acc) (hN:acc.length≤N):loopR [body] M0 0 (st 0 acc)=ex (insAll acc l):=by
 refine range_loop l (by omega) body st (fun i acc=>Up acc∧acc.length≤N+i) (fun _ r acc=>ex (insAll acc r)) (fun b k _=>h0 b k) ?_ M0 acc ⟨hu,by omega⟩ (by unfold M0;omega)
 intro i c r acc k hi hd hlt hw hI ih
 obtain ⟨g1,g2⟩:=hI
 rw [h1 i c acc k hi (by omega) (by rw [hw];simp) g1 (by omega)]
 have:=ins_len c acc
 rw [ih (ins c acc) ⟨up_ins c g1,by omega⟩]
 rfl
def enI (z:Nat→List Yr) (st:Nat→List Int→List Yr) (s:Nat×List Int):Nat×List Yr:=match s.2 with
 | []=>(0,z s.1)
 | y::r=>(1,st s.1 (y::r))
theorem enI_ne (z:Nat→List Yr) (st:Nat→List Int→List Yr) {i:Nat} {acc:List Int} (h:acc≠[]):enI z st (i,acc)=(1,st i acc):=by
 cases acc with
 | nil=>exact absurd rfl h
 | cons _ _=>rfl
theorem ins_nil (l:List Int) (hl:l.length≤1000000) (hne:l≠[]) (b0 b1:(Nat→List Yr→Out)→List Yr→Out) (z:Nat→List Yr) (st:Nat→List Int→List Yr) (ex:List Int→Out)
  (h0:∀ acc k,b1 k (st l.length acc)=ex acc)
  (hz:∀ c (k:Nat→List Yr→Out),l[0]?=some c→(0:Int) < (l.length:Int)→b0 k (z 0)=k 1 (st 1 [c]))
  (h1:∀ (i:Nat) c acc (k:Nat→List Yr→Out),l[i]?=some c→(i:Int) < (l.length:Int)→IntKind.i64.wrap ((i:Int)+1)=((i+1:Nat):Int)→Up acc→acc.length≤1000000→b1 k (st i acc)=k 1 (st (i+1) (ins c acc))) :
  loopR [b0,b1] M0 0 (z 0)=ex (insAll [] l):=by
 refine loop_ms (σ:=Nat×List Int) [b0,b1] (enI z st) (fun s=>l.length - s.1) (fun s=>s.1≤l.length∧Up s.2∧s.2.length≤s.1∧(s.2=[]→s.1=0)) (fun s=>ex (insAll s.2 (l.drop s.1))) ?_ M0 (0,[]) ⟨by simp,by simp,by simp,fun _=>rfl⟩ (by unfold M0;simp only;omega)
 rintro ⟨i,acc⟩ k ⟨g1,g2,g3,g4⟩ ih
 simp only at g1 g2 g3 g4 ih ⊢
 by_cases h:i < l.length
 ·have hd:=List.drop_eq_getElem_cons h
  have hi:l[i]?=some l[i]:=List.getElem?_eq_getElem h
  have ih':=ih (i+1,ins l[i] acc) ⟨by simp only;omega,up_ins _ g2,by have:=ins_len l[i] acc;simp only;omega,fun h=>absurd h (ins_ne _ _)⟩ (by simp only;omega)
  rw [hd,insAll_cons]
  rw [enI_ne _ _ (ins_ne _ _)] at ih'
  by_cases ha:acc=[]
  ·subst ha
   have hi0:=g4 rfl
   subst hi0
   exact ⟨b0,rfl,by rw [show (enI z st (0,[])).2=z 0 from rfl,hz _ k hi (by omega)];exact ih'⟩
  ·rw [enI_ne _ _ ha]
   exact ⟨b1,rfl,by simp only;rw [h1 i _ acc k hi (by omega) (by rw [wrap_id (by omega) (by omega)];simp) g2 (by omega)];exact ih'⟩
 ·have hil:i=l.length:=by omega
  subst hil
  have ha:acc≠[]:=fun h=>hne (List.eq_nil_of_length_eq_zero (g4 h))
  rw [enI_ne _ _ ha]
  exact ⟨b1,rfl,by simp only [List.drop_length];exact h0 acc k⟩
section
variable {Fn:Nat→List D→Out} {FnD:D→List Sh→List D→Out} {m:Nat}
theorem r_asM (q:Mr) (k:Mr→Out):(real Fn FnD m).asM false (.mp false q.1 q.2) k=k q:=rfl
theorem r_mpD (q:Mr):(real Fn FnD m).mpD false q=.mp false q.1 q.2:=rfl
theorem r_updg (kd:Nat) (mm:Mr) (key:D) (ds:List D) (k:Mr→Out):(real Fn FnD m).upd kd mm key ds k=match updD kd mm key ds with
  | some p=>k p
  | none=>none:=rfl
end
def Memo (d:Int) (b:List E9) (q:Mr):Prop:=q.1.length=q.2.length∧∀ (j:Nat) v,q.1[j]?=some v→∃ f:Int,v=.int .i64 f∧q.2[j]?=some [dI (some (leadsL d b f))]
theorem memo_emp (d:Int) (b:List E9):Memo d b ([],[]):=⟨rfl,fun j v h=>by simp at h⟩
theorem find_ints (f:Int):∀ (keys:List Value) (i:Nat),(∀ v∈keys,∃ g:Int,v=.int .i64 g)→(mFind 0 (.int .i64 f) keys i=some none∨∃ j,mFind 0 (.int .i64 f) keys i=some (some (i+j))∧keys[j]?=some (.int .i64 f))
 | [],i,_=>.inl rfl
 | x::r,i,h=>by
  obtain ⟨g,rfl⟩:=h x (by simp)
  have ih:=find_ints f r (i+1) fun v hv=>h v (List.mem_cons_of_mem _ hv)
  have e:mFind 0 (.int .i64 f) (.int .i64 g::r) i=if f=g then some (some i) else mFind 0 (.int .i64 f) r (i+1):=by
   simp only [mFind,kEq,if_true]
   by_cases hfg:f=g
   ·subst hfg;simp
   ·have:(f==g)=false:=by simp [hfg]
    simp [this,hfg]
  rw [e]
  by_cases hfg:f=g
  ·subst hfg;exact .inr ⟨0,by simp⟩
  ·rw [if_neg hfg]
   rcases ih with ih | ⟨j,h1,h2⟩
   ·exact .inl ih
   ·exact .inr ⟨j+1,by rw [h1];congr 2;omega,by simpa using h2⟩
theorem memo_keys {d:Int} {b:List E9} {q:Mr} (h:Memo d b q):∀ v∈q.1,∃ g:Int,v=.int .i64 g:=fun v hv=>by
 obtain ⟨j,hj⟩:=List.getElem?_of_mem hv
 obtain ⟨f,hf,_⟩:=h.2 j v hj
 exact ⟨f,hf⟩
theorem memo_look {d:Int} {b:List E9} {q:Mr} (h:Memo d b q) (f:Int):lookD 0 [.slice none 0 0] q (il f)=some ([dI (some (leadsL d b f))],bl true)∨lookD 0 [.slice none 0 0] q (il f)=some ([.lit (.slice none 0 0)],bl false):=by
 rcases find_ints f q.1 0 (memo_keys h) with e | ⟨j,e,hj⟩
 ·right;simp only [lookD,litD,il,isKey,if_true,e];rfl
 ·left
  obtain ⟨g,hg,h2⟩:=h.2 j _ hj
  cases hg
  rw [Nat.zero_add] at e
  simp only [lookD,litD,il,isKey,if_true,e,h2];rfl
theorem memo_upd {d:Int} {b:List E9} {q:Mr} (h:Memo d b q) (f:Int):∃ q',updD 0 q (il f) [dI (some (leadsL d b f))]=some q'∧Memo d b q':=by
 rcases find_ints f q.1 0 (memo_keys h) with e | ⟨j,e,hj⟩
 ·refine ⟨(q.1++[.int .i64 f],q.2++[[dI (some (leadsL d b f))]]),by simp only [updD,litD,il,isKey,if_true,e],by simp [h.1],?_⟩
  intro j v hv
  simp only at hv ⊢
  by_cases hj:j < q.1.length
  ·rw [List.getElem?_append_left hj] at hv
   obtain ⟨g,h1,h2⟩:=h.2 j v hv
   exact ⟨g,h1,by rw [List.getElem?_append_left (by rw [←h.1];exact hj)];exact h2⟩
  ·have hj2:j=q.1.length:=by
    have:=List.getElem?_eq_some_iff.1 hv
    obtain ⟨h3,_⟩:=this
    simp at h3;omega
   subst hj2
   simp at hv
   exact ⟨f,hv.symm,by rw [h.1];simp⟩
 ·rw [Nat.zero_add] at e
  refine ⟨(q.1,q.2.set j [dI (some (leadsL d b f))]),by simp only [updD,litD,il,isKey,if_true,e],by simp [h.1],?_⟩
  intro i v hv
  simp only at hv ⊢
  obtain ⟨g,h1,h2⟩:=h.2 i v hv
  refine ⟨g,h1,?_⟩
  by_cases hij:j=i
  ·subst hij
   rw [hj] at hv
   cases hv
   have:f=g:=by cases h1;rfl
   subst this
   have hjl:j < q.2.length:=by
    obtain ⟨h3,_⟩:=List.getElem?_eq_some_iff.1 h2
    exact h3
   simp [hjl]
  ·rw [List.getElem?_set_ne hij];exact h2
end Go.VE
namespace Go.VE
open Go.RowKit Go.Proofs
attribute [local simp] r_asM r_mpD
theorem put0 {m:Nat} {Fn:Nat→List D→Out} {FnD:D→List Sh→List D→Out} (c:Int) (k:Rr→Out) (e:Out):((real Fn FnD m).eqN ((real Fn FnD m).natN 1) ((real Fn FnD m).len ((real Fn FnD m).rows [[il c]])) ((real Fn FnD m).isNil ((real Fn FnD m).seg ((real Fn FnD m).rows [[il c]]) none ((real Fn FnD m).natN 1)) e ((real Fn FnD m).fits 8 ((real Fn FnD m).len ((real Fn FnD m).seg ((real Fn FnD m).rows [[il c]]) none ((real Fn FnD m).natN 1))) ((real Fn FnD m).ins (il 0) ((real Fn FnD m).rows []) ((real Fn FnD m).seg ((real Fn FnD m).rows [[il c]]) none ((real Fn FnD m).natN 1)) k))))=k ([c].map rI):=by
 simp only [r_natN,r_rows,r_len,r_seg0,List.length_cons,List.length_nil,r_eqN,List.take_succ_cons,List.take_zero,r_isNil1,r_fitsg]
 rw [if_pos (by simp),if_pos (by simp []),r_ins0];rfl
theorem segmap (q:List Int):(q.map rI).take q.length=q.map rI:=List.take_of_length_le (by simp)
set_option maxRecDepth 20000 in
theorem li01 (n:Nat) (L:List Int) (hL:L.length≤1000000) (hne:L≠[]) (q:Mr) (x3 x4 x6 x7 x8 x9 x10 x11 x12 x13:D) :
  loopR [L1000161_0 (RP (n+4)),L1000161_1 (RP (n+4))] M0 0 [.d (dI (some L)),.d (il L.length),.d (il 0),.d x3,.d x4,.m q,.d x6,.d x7,.d x8,.d x9,.d x10,.d x11,.d x12,.d x13] =
   some (1,[.r ((insAll [] L).map rI),.d x3,.d x4,.m q,.d x6,.d x7,.n (insAll [] L).length,.n (insAll [] L).length,.d x8,.d x9,.d x10,.d x11,.d x12,.d x13]):=by
 refine ins_nil L hL hne _ _ (fun i=>[.d (dI (some L)),.d (il L.length),.d (il (i:Nat)),.d x3,.d x4,.m q,.d x6,.d x7,.d x8,.d x9,.d x10,.d x11,.d x12,.d x13])
  (fun i acc=>[.d (dI (some L)),.d (il L.length),.d (il (i:Nat)),.r (acc.map rI),.d x3,.d x4,.m q,.d x6,.d x7,.n acc.length,.n acc.length,.d x8,.d x9,.d x10,.d x11,.d x12,.d x13])
  (fun acc=>some (1,[.r (acc.map rI),.d x3,.d x4,.m q,.d x6,.d x7,.n acc.length,.n acc.length,.d x8,.d x9,.d x10,.d x11,.d x12,.d x13])) ?_ ?_ ?_
 ·intro acc k;simp [L1000161_1]
 ·intro c k hi hlt
  have h0:=rowI (Fn:=FN (n+4)) (FnD:=FnDof Tryz.prog (cf3 tb Tryz.prog) (FN (n+4))) (m:=M0) (o:=some L) (i:=0) (c:=c) hi
  simp only [L1000161_0,r_ld0,r_lds,r_lss,r_cond,Int.natCast_zero,hlt,decide_true,if_true]
  rw [show ((il 0):D)=il ((0:Nat):Int) from rfl,h0]
  simp only [rI,r_cell0,r_call,r_litNil,nilI,r_bnd0,r_ld0,r_lds,r_cond,Bool.false_eq_true,if_false]
  rw [put0]
  simp only [r_liti,r_add,r_natN,r_rows,r_len,r_seg0,List.length_cons,List.length_nil,List.take_succ_cons,List.take_zero,Int.natCast_zero]
  rw [show IntKind.i64.wrap (0+1)=((1:Nat):Int) from rfl]
  rfl
 ·intro i c acc k hi hlt hw hu hl
  have hi':((some L).getD [])[i]?=some c:=hi
  have hput:=s1000075 n acc c (by omega) hu
  simp only [L1000161_1,r_ld0,r_lds,r_ln0,r_lns,r_lr0,r_lrs,r_lss,r_cond,hlt,decide_true,if_true,rowI hi',rI,r_cell0,r_len,r_eqN,List.length_map,r_slD,r_call]
  simp only [hput,r_bnd0,r_ld0,r_rowsD,r_liti,r_add,hw,List.length_map,r_lms,r_lm0]
set_option maxRecDepth 20000 in
theorem li5 (n:Nat) (L:List Int) (hL:L.length≤1000000) (q:Mr) (x3 x4 x6 x7 x11 x12 x13 x14 x15 x16:D) (acc:List Int) (hu:Up acc) (ha:acc.length≤1000) :
  loopR [L1000161_5 (RP (n+4))] M0 0 [.d (dI (some L)),.d (il L.length),.d (il 0),.d x3,.d x4,.m q,.d x6,.d x7,.n acc.length,.n acc.length,.r (acc.map rI),.d x11,.d x12,.d x13,.d x14,.d x15,.d x16] =
   some (0,[.d x3,.d x4,.m q,.d x6,.d x7,.n (insAll acc L).length,.n (insAll acc L).length,.r ((insAll acc L).map rI),.d x11,.d x12,.d x13,.d x14,.d x15,.d x16]):=by
 refine ins_own L hL _ (fun i acc=>[.d (dI (some L)),.d (il L.length),.d (il (i:Nat)),.d x3,.d x4,.m q,.d x6,.d x7,.n acc.length,.n acc.length,.r (acc.map rI),.d x11,.d x12,.d x13,.d x14,.d x15,.d x16])
  (fun acc=>some (0,[.d x3,.d x4,.m q,.d x6,.d x7,.n acc.length,.n acc.length,.r (acc.map rI),.d x11,.d x12,.d x13,.d x14,.d x15,.d x16])) 1000 ?_ ?_ acc hu ha
 ·intro acc k;simp [L1000161_5]
 ·intro i c acc k hi hlt hw hu hl
  have hi':((some L).getD [])[i]?=some c:=hi
  have hput:=s1000075 n acc c (by omega) hu
  simp only [L1000161_5,r_ld0,r_lds,r_ln0,r_lns,r_lr0,r_lrs,r_lss,r_cond,hlt,decide_true,if_true,rowI hi',rI,r_cell0,r_len,r_eqN,List.length_map,r_slD,r_call]
  simp only [hput,r_bnd0,r_ld0,r_rowsD,r_liti,r_add,hw,List.length_map,r_lms,r_lm0]
def en161 (d f:Int) (kin:D) (s:Nat×List Int×Mr):Nat×List Yr:=match s.2.1 with
 | []=>(0,[.d (il d),.d (il ((s.1:Int) - 1)),.d kin,.d (il d),.m s.2.2,.d kin,.d (il f)])
 | y::r=>(2,[.d (il d),.d (il ((s.1:Int) - 1)),.r ((y::r).map rI),.n (y::r).length,.n (y::r).length,.d kin,.d (il d),.m s.2.2,.d kin,.d (il f)])
theorem en161_ne (d f:Int) (kin:D) (m:Nat) {acc:List Int} (q:Mr) (h:acc≠[]):en161 d f kin (m,acc,q)=(2,[.d (il d),.d (il ((m:Int) - 1)),.r (acc.map rI),.n acc.length,.n acc.length,.d kin,.d (il d),.m q,.d kin,.d (il f)]):=by
 cases acc with
 | nil=>exact absurd rfl h
 | cons _ _=>rfl
def Q161 (d f:Int) (b:List E9) (kin:D) (T:List Int) (r:Out):Prop:=∃ (acc:List Int) (q:Mr),Memo d b q∧Up acc∧acc.length≤1000 ∧
 ((acc≠[]∧((r=some (4,[.r (acc.map rI),.n acc.length,.n acc.length,.d kin,.d (il d),.m q,.d kin,.d (il f)])∧acc=T)∨(r=some (5,[.r (acc.map rI),.n acc.length,.n acc.length,.d kin,.d (il d),.m q,.d kin,.d (il f)])∧ins f acc=T))) ∨
  (r=some (2,[.d kin,.d (il d),.m q,.d kin,.d (il f)])∧ins f []=T))
theorem acc_len {acc:List Int} (hu:Up acc) (h:∀ z∈acc,1≤z∧z≤99):acc.length≤99:=by
 have:=up_len acc 1 99 hu h
 omega
theorem insAll_ne (acc:List Int) {l:List Int} (h:l≠[]):insAll acc l≠[]:=fun e=>by
 cases l with
 | nil=>exact h rfl
 | cons x r =>
  have:x∈insAll acc (x::r):=(mem_insAll x _ _).2 (.inr (by simp))
  rw [e] at this;simp at this
set_option maxRecDepth 20000 in
theorem l161 (n:Nat) (a b c:Option (List E9)) (o:Option (List E5)) (d f:Int) (hb:Less (b.getD [])) (hl:(b.getD []).length≤1000000) (hf:f≤99)
  (hrec:∀ (w:Int) (q:Mr),1≤w→w < f→Memo d (b.getD []) q→∃ q':Mr,Memo d (b.getD []) q'∧FN (n+4) 1000161 [dKin a b c o,il d,.mp false q.1 q.2,il w,dKin a b c o,il d]=some (0,[.d (dI (some (leadsL d (b.getD []) w))),.d (dKin a b c o),.d (il d),.d (.mp false q'.1 q'.2)]))
  (q:Mr) (hq:Memo d (b.getD []) q) :
  Q161 d f (b.getD []) (dKin a b c o) (leadB (leadsL d (b.getD [])) f (opts d f (below (b.getD []) (b.getD []).length)) []) (loopR [L1000161_2 (RP (n+4)) (il f),L1000161_4 (RP (n+4)) (il f),L1000161_6 (RP (n+4)) (il f)] M0 0 [.d (il d),.d (il (((b.getD []).length:Int) - 1)),.d (dKin a b c o),.d (il d),.m q,.d (dKin a b c o),.d (il f)]):=by
 generalize hT:leadB (leadsL d (b.getD [])) f (opts d f (below (b.getD []) (b.getD []).length)) []=T
 refine loop_pr (σ:=Nat×List Int×Mr) [L1000161_2 (RP (n+4)) (il f),L1000161_4 (RP (n+4)) (il f),L1000161_6 (RP (n+4)) (il f)] (en161 d f (dKin a b c o)) (fun s=>s.1)
  (fun s=>s.1≤(b.getD []).length∧Up s.2.1∧(∀ z∈s.2.1,1≤z∧z≤99)∧Memo d (b.getD []) s.2.2∧leadB (leadsL d (b.getD [])) f (opts d f (below (b.getD []) s.1)) s.2.1=T)
  (Q161 d f (b.getD []) (dKin a b c o) T) ?_ M0 ((b.getD []).length,[],q) ⟨Nat.le_refl _,by simp,by simp,hq,hT⟩ (by unfold M0;simp only;omega)
 clear hT hq q
 rintro ⟨m,acc,q⟩ k ⟨g1,g2,g3,g4,g5⟩ ih
 simp only at g1 g2 g3 g4 g5 ih
 have gl:=acc_len g2 g3
 cases m with
 | zero =>
  rw [below_zero] at g5
  cases acc with
  | nil =>
   refine ⟨L1000161_2 (RP (n+4)) (il f),rfl,[],q,g4,g2,by simp,.inr ⟨?_,g5⟩⟩
   simp [en161,L1000161_2]
  | cons y r =>
   refine ⟨L1000161_6 (RP (n+4)) (il f),rfl,y::r,q,g4,g2,by omega,.inl ⟨by simp,.inr ⟨?_,g5⟩⟩⟩
   simp [en161,L1000161_6]
 | succ m =>
  obtain ⟨e,he⟩:∃ e,(b.getD [])[m]?=some e:=⟨_,List.getElem?_eq_getElem (by omega)⟩
  rw [below_succ he,opts] at g5
  have hm:(((m+1:Nat):Int) - 1)=((m:Nat):Int):=by omega
  have hw:IntKind.i64.wrap (((m:Nat):Int) - 1)=((m:Nat):Int) - 1:=wrap_id (by omega) (by omega)
  have h194:=s194 (n+3) a b c o m e f he
  have hnn:¬ ((m:Nat):Int) < 0:=by omega
  have hmem:e∈b.getD []:=List.mem_of_getElem? he
  cases acc with
  | nil =>
   refine ⟨L1000161_2 (RP (n+4)) (il f),rfl,?_⟩
   simp only [en161,hm,L1000161_2,r_ld0,r_lds,r_liti,r_geq,r_cond]
   rw [if_pos (by simp)]
   simp only [r_call,h194,r_bnd0,r_ld0,r_lds,r_not,r_cond,r_sub,hw,r_lm0,r_lms]
   by_cases h1:e.a=f
   ·rw [if_neg (by simp [h1])]
    simp only [s208,r_bnd0,r_ld0,r_not,r_cond]
    by_cases h2:mayB e.f1 e.t2 d=true
    ·rw [if_neg (by simp [h2])]
     rw [if_pos ⟨h1,h2⟩] at g5
     have hbe:=hb e hmem
     obtain ⟨q',hq',hcall⟩:=hrec e.b q hbe.1 (by omega) g4
     have hne:leadsL d (b.getD []) e.b≠[]:=fun h=>by
      obtain ⟨z,hz⟩:=leadsL_ne hb (d:=d) _ e.b (Nat.le_refl _) hbe.1
      rw [h] at hz;simp at hz
     have hlen:=len_leadsL (d:=d) hb hbe.1
     simp only [r_lss,hnn,decide_false,r_cond,Bool.false_eq_true,if_false,r_mpD,hcall,r_bnd0,r_ld0,r_lds,r_asM,lenI,Option.getD_some,r_loop]
     rw [li01 n _ (by omega) hne]
     have hin:=insAll_ne [] hne
     have hiu:=up_insAll (leadsL d (b.getD []) e.b) (acc:=[]) (by simp)
     have hir:∀ z∈insAll [] (leadsL d (b.getD []) e.b),1≤z∧z≤99:=fun z hz=>by
      rw [mem_insAll] at hz
      rcases hz with hz | hz
      ·simp at hz
      ·have:=leadsL_range hb _ e.b z (Nat.le_refl _) hbe.1 hz;omega
     have hil:=acc_len hiu hir
     simp only [r_bndg,r_bnd0,s209,r_ld0,r_lds,r_lm0,r_lms,r_lr0,r_ln0,r_lns,r_cond,r_out]
     rw [leadB] at g5
     by_cases h3:sureB e.f2 e.t1 d=true
     ·rw [if_pos h3] at g5 ⊢
      exact ⟨insAll [] (leadsL d (b.getD []) e.b),q',hq',hiu,by omega,.inl ⟨hin,.inl ⟨rfl,g5⟩⟩⟩
     ·rw [if_neg h3] at g5 ⊢
      have:=ih (m,insAll [] (leadsL d (b.getD []) e.b),q') ⟨by simp only;omega,hiu,hir,hq',g5⟩ (by simp only;omega)
      rw [en161_ne _ _ _ _ _ hin] at this
      exact this
    ·rw [if_pos (by simp [h2])]
     rw [if_neg fun h=>h2 h.2] at g5
     exact ih (m,[],q) ⟨by simp only;omega,g2,g3,g4,g5⟩ (by simp only;omega)
   ·rw [if_pos (by simp [h1])]
    rw [if_neg fun h=>h1 h.1] at g5
    exact ih (m,[],q) ⟨by simp only;omega,g2,g3,g4,g5⟩ (by simp only;omega)
  | cons y r =>
   refine ⟨L1000161_6 (RP (n+4)) (il f),rfl,?_⟩
   simp only [en161,hm,L1000161_6,r_ld0,r_lds,r_liti,r_geq,r_cond]
   rw [if_pos (by simp)]
   simp only [r_call,h194,r_bnd0,r_ld0,r_lds,r_not,r_cond,r_sub,hw,r_lm0,r_lms,r_lr0,r_lrs,r_ln0,r_lns]
   by_cases h1:e.a=f
   ·rw [if_neg (by simp [h1])]
    simp only [s208,r_bnd0,r_ld0,r_not,r_cond]
    by_cases h2:mayB e.f1 e.t2 d=true
    ·rw [if_neg (by simp [h2])]
     rw [if_pos ⟨h1,h2⟩] at g5
     have hbe:=hb e hmem
     obtain ⟨q',hq',hcall⟩:=hrec e.b q hbe.1 (by omega) g4
     have hne:leadsL d (b.getD []) e.b≠[]:=fun h=>by
      obtain ⟨z,hz⟩:=leadsL_ne hb (d:=d) _ e.b (Nat.le_refl _) hbe.1
      rw [h] at hz;simp at hz
     have hlen:=len_leadsL (d:=d) hb hbe.1
     simp only [r_lss,hnn,decide_false,r_cond,Bool.false_eq_true,if_false,r_mpD,hcall,r_bnd0,r_ld0,r_lds,r_asM,lenI,Option.getD_some,r_loop]
     rw [li5 n _ (by omega) _ _ _ _ _ _ _ _ _ _ _ (y::r) g2 (by omega)]
     have hin:=insAll_ne (y::r) hne
     have hiu:=up_insAll (leadsL d (b.getD []) e.b) g2
     have hir:∀ z∈insAll (y::r) (leadsL d (b.getD []) e.b),1≤z∧z≤99:=fun z hz=>by
      rw [mem_insAll] at hz
      rcases hz with hz | hz
      ·exact g3 z hz
      ·have:=leadsL_range hb _ e.b z (Nat.le_refl _) hbe.1 hz;omega
     have hil:=acc_len hiu hir
     simp only [r_bnd0,s209,r_ld0,r_lds,r_lm0,r_lms,r_lr0,r_lrs,r_ln0,r_lns,r_cond,r_out]
     rw [leadB] at g5
     by_cases h3:sureB e.f2 e.t1 d=true
     ·rw [if_pos h3] at g5 ⊢
      exact ⟨insAll (y::r) (leadsL d (b.getD []) e.b),q',hq',hiu,by omega,.inl ⟨hin,.inl ⟨rfl,g5⟩⟩⟩
     ·rw [if_neg h3] at g5 ⊢
      have:=ih (m,insAll (y::r) (leadsL d (b.getD []) e.b),q') ⟨by simp only;omega,hiu,hir,hq',g5⟩ (by simp only;omega)
      rw [en161_ne _ _ _ _ _ hin] at this
      exact this
    ·rw [if_pos (by simp [h2])]
     rw [if_neg fun h=>h2 h.2] at g5
     exact ih (m,y::r,q) ⟨by simp only;omega,g2,g3,g4,g5⟩ (by simp only;omega)
   ·rw [if_pos (by simp [h1])]
    rw [if_neg fun h=>h1 h.1] at g5
    exact ih (m,y::r,q) ⟨by simp only;omega,g2,g3,g4,g5⟩ (by simp only;omega)
end Go.VE
namespace Go.VE
open Go.RowKit Go.Proofs
attribute [local simp] r_asM r_mpD
theorem dI_take (q:List Int):(.sl 1 ((q.map rI).take q.length):D)=dI (some q):=by rw [segmap];rfl
set_option maxRecDepth 20000 in
theorem s161 (a b c:Option (List E9)) (o:Option (List E5)) (d:Int) (hb:Less (b.getD [])) (hl:(b.getD []).length≤1000000):∀ (N n:Nat) (f:Int) (q:Mr),1≤f→f.toNat≤N→f≤99→Memo d (b.getD []) q →
  ∃ q':Mr,Memo d (b.getD []) q'∧FN (n+5+N) 1000161 [dKin a b c o,il d,.mp false q.1 q.2,il f,dKin a b c o,il d]=some (0,[.d (dI (some (leadsL d (b.getD []) f))),.d (dKin a b c o),.d (il d),.d (.mp false q'.1 q'.2)]):=by
 intro N
 induction N with
 | zero=>intro n f q h1 h2;omega
 | succ N ih =>
  intro n f q h1 h2 h3 hq
  have hrec:∀ (w:Int) (q:Mr),1≤w→w < f→Memo d (b.getD []) q→∃ q':Mr,Memo d (b.getD []) q'∧FN (n+1+N+4) 1000161 [dKin a b c o,il d,.mp false q.1 q.2,il w,dKin a b c o,il d]=some (0,[.d (dI (some (leadsL d (b.getD []) w))),.d (dKin a b c o),.d (il d),.d (.mp false q'.1 q'.2)]):=fun w q hw1 hw2 hq=>by
   have:=ih n w q hw1 (by omega) (by omega) hq
   rw [show n+1+N+4=n+5+N by omega]
   exact this
  have hloop:=l161 (n+1+N) a b c o d f hb hl h3 hrec q hq
  rw [show n+5+(N+1)=(n+1+N+4)+1 by omega,F1000161]
  rw [←leadsL_eq hb h1] at hloop
  generalize n+1+N=n at hloop ⊢
  simp only [G1000161,r_asM,r_lookg]
  rcases memo_look hq f with e | e
  ·rw [e]
   refine ⟨q,hq,?_⟩
   simp
  ·rw [e]
   have hp:∀ k:List D→Out,(RP (n+4)).ptrW 4 (dKin a b c o) k=k [d9 a,d9 b,d9 c,d5 o]:=fun k=>r_ptrW _ 4 k rfl
   have w1:IntKind.i64.wrap (((b.getD []).length:Int) - 1)=((b.getD []).length:Int) - 1:=wrap_id (by omega) (by omega)
   have hip:∀ k:Out,(RP (n+4)).isPtr (dKin a b c o) k=k:=fun k=>rfl
   simp only [r_cond,Bool.false_eq_true,if_false,hip,hp,r_cell0,r_cells,len9,r_liti,r_sub,w1,r_loop]
   obtain ⟨acc,q1,hq1,hu,hlen,hr⟩:=hloop
   obtain ⟨q2,hq2,hm2⟩:=memo_upd hq1 f
   have hd:∀ x,x=leadsL d (b.getD []) f→(.sl 1 ((x.map rI).take x.length):D)=dI (some (leadsL d (b.getD []) f)):=fun x hx=>by rw [dI_take,hx]
   refine ⟨q2,hm2,?_⟩
   rcases hr with ⟨hne,⟨hr,hT⟩ | ⟨hr,hT⟩⟩ | ⟨hr,hT⟩
   ·rw [hr]
    simp only [r_bndg,r_bnd0,r_lr0,r_ln0,r_lns,r_ld0,r_lds,r_lm0,r_lms,r_len,List.length_map,r_eqN,if_true,r_seg0,r_slD,r_out,r_updg]
    rw [hd acc hT,hq2]
    simp
   ·rw [hr]
    have hput:=s1000075 n acc f (by omega) hu
    simp only [r_bndg,r_bnd0,r_lr0,r_ln0,r_lns,r_ld0,r_lds,r_lm0,r_lms,r_len,List.length_map,r_eqN,if_true,r_seg0,r_slD,r_out,r_updg,r_lss,r_cond,r_call,hput,r_rowsD]
    rw [if_pos (by simp)]
    simp only [r_bnd0,r_ld0,r_lds,r_lm0,r_lms]
    rw [show (List.map rI (ins f acc)).take (ins f acc).length=(List.map rI (ins f acc)).take (ins f acc).length from rfl,hd (ins f acc) hT,hq2]
    simp
   ·rw [hr]
    simp only [r_bndg,r_bnd0,r_ld0,r_lds,r_lm0,r_lms,r_lss,r_cond,r_call,r_litNil,nilI]
    rw [if_pos (by simp)]
    simp only [Bool.false_eq_true,if_false]
    have hx:[f]=leadsL d (b.getD []) f:=hT
    rw [←hx] at hq2 ⊢
    simp only [r_natN,r_rows,r_len,r_seg0,List.length_cons,List.length_nil,r_eqN,List.take_succ_cons,List.take_zero,r_isNil1,r_fitsg]
    rw [if_pos (by simp),if_pos (by simp []),r_ins0]
    simp only [List.length_cons,List.length_nil,if_true,r_out,r_bnd0,r_slD,List.take_succ_cons,List.take_zero,r_ld0,r_lds,r_lm0,r_lms,r_updg]
    rw [show (.sl 1 [[il f]]:D)=dI (some [f]) from rfl,hq2]
    simp
end Go.VE
namespace Go.VE
open Go.RowKit Go.Proofs
end Go.VE
namespace Go.VE
open Go.RowKit Go.Proofs
theorem okL_mem {α:Type} {p:α→Bool} {src:α→Int}:∀ {l:List α} {o:Option Int},okL p src o l=true→∀ e∈l,p e=true
 | [],_,_,e,he=>by simp at he
 | x::r,o,h,e,he=>by
  unfold okL at h
  simp only [Bool.and_eq_true] at h
  rcases List.mem_cons.1 he with rfl | he
  ·exact h.1.1
  ·exact okL_mem h.2 e he
end Go.VE
