/- Family: whether a person goes (program). -/
import Derived.Test.YtobeabinccohlaaGreatMg2
namespace Go.VE
open Go.RowKit Go.Proofs
def q4d (W:Int→Bool×Bool):Option Int→Bool×Bool
 | none=>(false,false)
 | some z=>q1W W (some z)
def Q163 (x0 x1:D) (W:Int→Bool×Bool) (s:Bool×Bool) (os:List (Option Int)):Out:=some (if os.any Option.isNone=true then 1 else 0,[.d (bl (s.1||os.any fun x=>(q4d W x).2)),.d (bl (s.2||os.any fun x=>(q4d W x).1)),.d x0,.d x1])
set_option maxRecDepth 20000 in
theorem l163 (n:Nat) (a b c:Option (List E9)) (o:Option (List E5)) (d who:Int) (hd:0≤d∧d≤4166) (ha:(a.getD []).length≤1000000) (hc:(c.getD []).length≤1000000) (ho:(o.getD []).length≤1000000) (s:Bool×Bool) :
  q0I [q9R (RP (n+6)) (d9 a) (d9 b) (d9 c) (d5 o) (il d)] M0 0 [.d (il d),.d (il (((c.getD []).length:Int) - 1)),.d (bl s.1),.d (bl s.2),.d (q0T a b c o),.d (il who)]=Q163 (q0T a b c o) (il who) (q3h (a.getD []) (c.getD []) (o.getD []) d) s (q11 d who (q0m (c.getD []) (c.getD []).length)):=by
 have:=q56 (σ:=Bool×Bool) (c.getD []) hc d who [q9R (RP (n+6)) (d9 a) (d9 b) (d9 c) (d5 o) (il d)] (fun m s=>(0,[.d (il d),.d (il ((m:Int) - 1)),.d (bl s.1),.d (bl s.2),.d (q0T a b c o),.d (il who)])) (fun _ _=>True) (fun s w=>(s.1||(q1W (q3h (a.getD []) (c.getD []) (o.getD []) d) (some w)).2,s.2||(q1W (q3h (a.getD []) (c.getD []) (o.getD []) d) (some w)).1))
  (fun s=>some (0,[.d (bl s.1),.d (bl s.2),.d (q0T a b c o),.d (il who)])) (fun s=>some (1,[.d (bl s.1),.d (bl s.2),.d (q0T a b c o),.d (il who)])) ?_ ?_ s trivial
 ·refine Eq.trans this (q4p (Q163 (q0T a b c o) (il who) (q3h (a.getD []) (c.getD []) (o.getD []) d)) ?_ ?_ ?_ _ s (q3m _ _ _))
  ·intro s;simp [Q163]
  ·intro s;simp [Q163,q4d]
  ·intro s w os;simp only [Q163,List.any_cons,q4d,Option.isNone_some,Bool.false_or,Bool.or_assoc]
 ·intro s k _
  exact ⟨_,rfl,by simp [q9R]⟩
 ·intro m e s k he hm hw hm1 _
  refine ⟨trivial,fun _ _=>trivial,_,rfl,?_⟩
  have h195:=s195 (n+5) a b c o m e who he
  have h196:=s196 n a b c o d e.b hd ha hc ho
  have hnn:¬ ((m:Nat):Int) < 0:=by omega
  have hp:∀ k:List D→Out,(RP (n+6)).ptrW 4 (.dp [d9 a,d9 b,d9 c,d5 o] 0) k=k [d9 a,d9 b,d9 c,d5 o]:=fun k=>q26 _ 4 k rfl
  simp only [hm1,q9R,q02,q07,q04,q1q,q00]
  rw [if_pos (by simp)]
  simp only [q06,h195,q01,q02,q07,q0V,q00,q0U,hw,qf4,q7o,q0P,q0b,q0L,q0F,q0B,q1q,hnn,decide_false,Bool.false_eq_true,if_false,q6a,hp,q0a,q0C,h196,q1W]
  obtain ⟨s1,s2⟩:=s
  by_cases h1:e.a=who
  ·by_cases h2:q2p e.f1 e.t2 d=true
   ·rw [if_pos (⟨h1,h2⟩:e.a=who∧q2p e.f1 e.t2 d=true)]
    by_cases h3:e.b=0
    ·cases s1<;>cases s2<;>cases hq:q2c e.f2 e.t1 d<;>simp [h1,h2,h3,q7o,hq]
    ·cases s1<;>cases s2<;>cases hq:q2c e.f2 e.t1 d<;>simp [h1,h2,h3,q7o,hq]
   ·rw [if_neg (fun h=>h2 h.2:¬ (e.a=who∧q2p e.f1 e.t2 d=true))]
    simp [h1,h2]
  ·rw [if_neg (fun h=>h1 h.1:¬ (e.a=who∧q2p e.f1 e.t2 d=true))]
   simp [h1]
theorem qij (W:Int→Bool×Bool) (os:List (Option Int)):(os.any fun x=>(q1W W x).1)=((os.any fun x=>(q4d W x).1)||os.any Option.isNone):=by
 induction os with
 | nil=>rfl
 | cons x os ih =>
  rw [List.any_cons,ih,List.any_cons,List.any_cons]
  cases x with
  | none=>simp [q1W,q4d]
  | some w=>simp [q4d,Bool.or_assoc]
theorem qii (W:Int→Bool×Bool) (os:List (Option Int)):(os.any fun x=>(q1W W x).2)=os.any fun x=>(q4d W x).2:=by
 congr 1;funext x;cases x<;>rfl
set_option maxRecDepth 20000 in
theorem s163 (n:Nat) (a b c:Option (List E9)) (o:Option (List E5)) (d who:Int) (hd:0≤d∧d≤4166) (ha:(a.getD []).length≤1000000) (hc:(c.getD []).length≤1000000) (ho:(o.getD []).length≤1000000) :
  FN (n+7) 163 [d9 a,d9 b,d9 c,d5 o,il who,il d]=some (0,[.d (bl (goP (a.getD []) (c.getD []) (o.getD []) d who).1),.d (bl (goP (a.getD []) (c.getD []) (o.getD []) d who).2)]):=by
 rw [F163]
 have h0:=l163 n a b c o d who hd ha hc ho (false,false)
 simp only [q0T] at h0
 have hp:∀ k:List D→Out,(RP (n+6)).ptrW 4 (.dp [d9 a,d9 b,d9 c,d5 o] 0) k=k [d9 a,d9 b,d9 c,d5 o]:=fun k=>q26 _ 4 k rfl
 have w2:IntKind.i64.wrap (((c.getD []).length:Int) - 1)=((c.getD []).length:Int) - 1:=q0l (by omega) (by omega)
 simp only [G163,q06,q6a,hp,q0a,q0C,s214 (n+1) (d9 a) (d9 b) (d9 c) o d who hd (by omega),q01,q02,q00,q0P,q0b,q3H]
 unfold goP
 cases q8C d who (o.getD []) with
 | true=>simp
 | false =>
  simp only [Bool.false_eq_true,if_false,q6O,q04,q0U,w2,q0k,h0,qij,qii,Q163,Bool.false_or]
  generalize q11 d who (q0m (c.getD []) (c.getD []).length)=q
  cases hn:q.any Option.isNone with
  | true =>
   simp [q0X]
  | false =>
   simp
end Go.VE
namespace Go.VE
open Go.RowKit Go.Proofs
theorem q5J (l:List Int) (hl:l.length≤1000000) (body:(Nat→List Yr→Out)→List Yr→Out) (st:Nat→List Int→List Yr) (ex:List Int→Out) (N:Nat)
  (h0:∀ acc k,body k (st l.length acc)=ex acc)
  (h1:∀ (i:Nat) c acc (k:Nat→List Yr→Out),l[i]?=some c→(i:Int) < (l.length:Int)→IntKind.i64.wrap ((i:Int)+1)=((i+1:Nat):Int)→Up acc→acc.length≤N+1000000→body k (st i acc)=k 0 (st (i+1) (ins c acc)))
  (acc:List Int) (hu:Up acc) (hN:acc.length≤N):q0I [body] M0 0 (st 0 acc)=ex (q0n acc l):=by
 refine q0t l (by omega) body st (fun i acc=>Up acc∧acc.length≤N+i) (fun _ r acc=>ex (q0n acc r)) (fun b k _=>h0 b k) ?_ M0 acc ⟨hu,by omega⟩ (by unfold M0;omega)
 intro i c r acc k hi hd hlt hw hI ih
 obtain ⟨g1,g2⟩:=hI
 rw [h1 i c acc k hi (by omega) (by rw [hw];simp) g1 (by omega)]
 have:=q3e c acc
 rw [ih (ins c acc) ⟨q3S c g1,by omega⟩]
 rfl
def enI (z:Nat→List Yr) (st:Nat→List Int→List Yr) (s:Nat×List Int):Nat×List Yr:=match s.2 with
 | []=>(0,z s.1)
 | y::r=>(1,st s.1 (y::r))
theorem qeh (z:Nat→List Yr) (st:Nat→List Int→List Yr) {i:Nat} {acc:List Int} (h:acc≠[]):enI z st (i,acc)=(1,st i acc):=by
 cases acc with
 | nil=>exact absurd rfl h
 | cons _ _=>rfl
theorem q8v (l:List Int) (hl:l.length≤1000000) (hne:l≠[]) (b0 b1:(Nat→List Yr→Out)→List Yr→Out) (z:Nat→List Yr) (st:Nat→List Int→List Yr) (ex:List Int→Out)
  (h0:∀ acc k,b1 k (st l.length acc)=ex acc)
  (hz:∀ c (k:Nat→List Yr→Out),l[0]?=some c→(0:Int) < (l.length:Int)→b0 k (z 0)=k 1 (st 1 [c]))
  (h1:∀ (i:Nat) c acc (k:Nat→List Yr→Out),l[i]?=some c→(i:Int) < (l.length:Int)→IntKind.i64.wrap ((i:Int)+1)=((i+1:Nat):Int)→Up acc→acc.length≤1000000→b1 k (st i acc)=k 1 (st (i+1) (ins c acc))) :
  q0I [b0,b1] M0 0 (z 0)=ex (q0n [] l):=by
 refine q48 (σ:=Nat×List Int) [b0,b1] (enI z st) (fun s=>l.length - s.1) (fun s=>s.1≤l.length∧Up s.2∧s.2.length≤s.1∧(s.2=[]→s.1=0)) (fun s=>ex (q0n s.2 (l.drop s.1))) ?_ M0 (0,[]) ⟨by simp,by simp,by simp,fun _=>rfl⟩ (by unfold M0;simp only;omega)
 rintro ⟨i,acc⟩ k ⟨g1,g2,g3,g4⟩ ih
 simp only at g1 g2 g3 g4 ih ⊢
 by_cases h:i < l.length
 ·have hd:=List.drop_eq_getElem_cons h
  have hi:l[i]?=some l[i]:=List.getElem?_eq_getElem h
  have ih':=ih (i+1,ins l[i] acc) ⟨by simp only;omega,q3S _ g2,by have:=q3e l[i] acc;simp only;omega,fun h=>absurd h (q6V _ _)⟩ (by simp only;omega)
  rw [hd,q4N]
  rw [qeh _ _ (q6V _ _)] at ih'
  by_cases ha:acc=[]
  ·subst ha
   have hi0:=g4 rfl
   subst hi0
   exact ⟨b0,rfl,by rw [show (enI z st (0,[])).2=z 0 from rfl,hz _ k hi (by omega)];exact ih'⟩
  ·rw [qeh _ _ ha]
   exact ⟨b1,rfl,by simp only;rw [h1 i _ acc k hi (by omega) (by rw [q0l (by omega) (by omega)];simp) g2 (by omega)];exact ih'⟩
 ·have hil:i=l.length:=by omega
  subst hil
  have ha:acc≠[]:=fun h=>hne (List.eq_nil_of_length_eq_zero (g4 h))
  rw [qeh _ _ ha]
  exact ⟨b1,rfl,by simp only [List.drop_length];exact h0 acc k⟩
section
variable {Fn:Nat→List D→Out} {FnD:D→List Sh→List D→Out} {m:Nat}
theorem q54 (q:Mr) (k:Mr→Out):(q05 Fn FnD m).asM false (.mp false q.1 q.2) k=k q:=rfl
theorem q5y (q:Mr):(q05 Fn FnD m).mpD false q=.mp false q.1 q.2:=rfl
theorem qdg (kd:Nat) (mm:Mr) (key:D) (ds:List D) (k:Mr→Out):(q05 Fn FnD m).upd kd mm key ds k=match qhJ kd mm key ds with
  | some p=>k p
  | none=>none:=rfl
end
def q5t (d:Int) (b:List E9) (q:Mr):Prop:=q.1.length=q.2.length∧∀ (j:Nat) v,q.1[j]?=some v→∃ f:Int,v=.int .i64 f∧q.2[j]?=some [dI (some (q0c d b f))]
theorem qbe (d:Int) (b:List E9):q5t d b ([],[]):=⟨rfl,fun j v h=>by simp at h⟩
theorem q72 (f:Int):∀ (keys:List Value) (i:Nat),(∀ v∈keys,∃ g:Int,v=.int .i64 g)→(q3J 0 (.int .i64 f) keys i=some none∨∃ j,q3J 0 (.int .i64 f) keys i=some (some (i+j))∧keys[j]?=some (.int .i64 f))
 | [],i,_=>.inl rfl
 | x::r,i,h=>by
  obtain ⟨g,rfl⟩:=h x (by simp)
  have ih:=q72 f r (i+1) fun v hv=>h v (List.mem_cons_of_mem _ hv)
  have e:q3J 0 (.int .i64 f) (.int .i64 g::r) i=if f=g then some (some i) else q3J 0 (.int .i64 f) r (i+1):=by
   simp only [q3J,kEq,if_true]
   by_cases hfg:f=g
   ·subst hfg;simp
   ·have:(f==g)=false:=by simp [hfg]
    simp [this,hfg]
  rw [e]
  by_cases hfg:f=g
  ·subst hfg;exact .inr ⟨0,by simp⟩
  ·rw [if_neg hfg]
   rcases ih with ih | ⟨j,h1,h2⟩
   ·exact .inl ih
   ·exact .inr ⟨j+1,by rw [h1];congr 2;omega,by simpa using h2⟩
theorem q9i {d:Int} {b:List E9} {q:Mr} (h:q5t d b q):∀ v∈q.1,∃ g:Int,v=.int .i64 g:=fun v hv=>by
 obtain ⟨j,hj⟩:=List.getElem?_of_mem hv
 obtain ⟨f,hf,_⟩:=h.2 j v hj
 exact ⟨f,hf⟩
theorem qdB {d:Int} {b:List E9} {q:Mr} (h:q5t d b q) (f:Int):q8o 0 [.slice none 0 0] q (il f)=some ([dI (some (q0c d b f))],bl true)∨q8o 0 [.slice none 0 0] q (il f)=some ([.lit (.slice none 0 0)],bl false):=by
 rcases q72 f q.1 0 (q9i h) with e | ⟨j,e,hj⟩
 ·right;simp only [q8o,qhf,il,q6T,if_true,e];rfl
 ·left
  obtain ⟨g,hg,h2⟩:=h.2 j _ hj
  cases hg
  rw [Nat.zero_add] at e
  simp only [q8o,qhf,il,q6T,if_true,e,h2];rfl
theorem qfH {d:Int} {b:List E9} {q:Mr} (h:q5t d b q) (f:Int):∃ q',qhJ 0 q (il f) [dI (some (q0c d b f))]=some q'∧q5t d b q':=by
 rcases q72 f q.1 0 (q9i h) with e | ⟨j,e,hj⟩
 ·refine ⟨(q.1++[.int .i64 f],q.2++[[dI (some (q0c d b f))]]),by simp only [qhJ,qhf,il,q6T,if_true,e],by simp [h.1],?_⟩
  intro j v hv
  simp only at hv ⊢
  by_cases hj:j < q.1.length
  ·rw [List.getElem?_append_left hj] at hv
   obtain ⟨g,h1,h2⟩:=h.2 j v hv
   exact ⟨g,h1,by rw [List.getElem?_append_left (by rw [←h.1];exact hj)];exact h2⟩
  ·have hj2:j=q.1.length:=by
    have:=List.getElem?_eq_some_iff.1 hv
    obtain ⟨h3,_⟩:=this
    simp at h3;omega
   subst hj2
   simp at hv
   exact ⟨f,hv.symm,by rw [h.1];simp⟩
 ·rw [Nat.zero_add] at e
  refine ⟨(q.1,q.2.set j [dI (some (q0c d b f))]),by simp only [qhJ,qhf,il,q6T,if_true,e],by simp [h.1],?_⟩
  intro i v hv
  simp only at hv ⊢
  obtain ⟨g,h1,h2⟩:=h.2 i v hv
  refine ⟨g,h1,?_⟩
  by_cases hij:j=i
  ·subst hij
   rw [hj] at hv
   cases hv
   have:f=g:=by cases h1;rfl
   subst this
   have hjl:j < q.2.length:=by
    obtain ⟨h3,_⟩:=List.getElem?_eq_some_iff.1 h2
    exact h3
   simp [hjl]
  ·rw [List.getElem?_set_ne hij];exact h2
end Go.VE
namespace Go.VE
open Go.RowKit Go.Proofs
attribute [local simp] q54 q5y
theorem put0 {m:Nat} {Fn:Nat→List D→Out} {FnD:D→List Sh→List D→Out} (c:Int) (k:Rr→Out) (e:Out):((q05 Fn FnD m).eqN ((q05 Fn FnD m).natN 1) ((q05 Fn FnD m).len ((q05 Fn FnD m).rows [[il c]])) ((q05 Fn FnD m).isNil ((q05 Fn FnD m).seg ((q05 Fn FnD m).rows [[il c]]) none ((q05 Fn FnD m).natN 1)) e ((q05 Fn FnD m).fits 8 ((q05 Fn FnD m).len ((q05 Fn FnD m).seg ((q05 Fn FnD m).rows [[il c]]) none ((q05 Fn FnD m).natN 1))) ((q05 Fn FnD m).ins (il 0) ((q05 Fn FnD m).rows []) ((q05 Fn FnD m).seg ((q05 Fn FnD m).rows [[il c]]) none ((q05 Fn FnD m).natN 1)) k))))=k ([c].map rI):=by
 simp only [q10,q0H,q0x,q0A,List.length_cons,List.length_nil,q0O,List.take_succ_cons,List.take_zero,q1b,q0Q]
 rw [if_pos (by simp),if_pos (by simp [maxLen]),qb8];rfl
theorem qgX (q:List Int):(q.map rI).take q.length=q.map rI:=List.take_of_length_le (by simp)
set_option maxRecDepth 20000 in
theorem li01 (n:Nat) (L:List Int) (hL:L.length≤1000000) (hne:L≠[]) (q:Mr) (x3 x4 x6 x7 x8 x9 x10 x11 x12 x13:D) :
  q0I [q5X (RP (n+4)),q4t (RP (n+4))] M0 0 [.d (dI (some L)),.d (il L.length),.d (il 0),.d x3,.d x4,.m q,.d x6,.d x7,.d x8,.d x9,.d x10,.d x11,.d x12,.d x13] =
   some (1,[.r ((q0n [] L).map rI),.d x3,.d x4,.m q,.d x6,.d x7,.n (q0n [] L).length,.n (q0n [] L).length,.d x8,.d x9,.d x10,.d x11,.d x12,.d x13]):=by
 refine q8v L hL hne _ _ (fun i=>[.d (dI (some L)),.d (il L.length),.d (il (i:Nat)),.d x3,.d x4,.m q,.d x6,.d x7,.d x8,.d x9,.d x10,.d x11,.d x12,.d x13])
  (fun i acc=>[.d (dI (some L)),.d (il L.length),.d (il (i:Nat)),.r (acc.map rI),.d x3,.d x4,.m q,.d x6,.d x7,.n acc.length,.n acc.length,.d x8,.d x9,.d x10,.d x11,.d x12,.d x13])
  (fun acc=>some (1,[.r (acc.map rI),.d x3,.d x4,.m q,.d x6,.d x7,.n acc.length,.n acc.length,.d x8,.d x9,.d x10,.d x11,.d x12,.d x13])) ?_ ?_ ?_
 ·intro acc k;simp [q4t]
 ·intro c k hi hlt
  have h0:=q3X (Fn:=FN (n+4)) (FnD:=q1e Tryz.prog (cf3 tb Tryz.prog) (FN (n+4))) (m:=M0) (o:=some L) (i:=0) (c:=c) hi
  simp only [q5X,q02,q07,q0B,q00,Int.natCast_zero,hlt,decide_true,if_true]
  rw [show ((il 0):D)=il ((0:Nat):Int) from rfl,h0]
  simp only [rI,q0a,q06,q1p,qhd,q01,q02,q07,q00,Bool.false_eq_true,if_false]
  rw [put0]
  simp only [q04,q0u,q10,q0H,q0x,q0A,List.length_cons,List.length_nil,List.take_succ_cons,List.take_zero,Int.natCast_zero]
  rw [show IntKind.i64.wrap (0+1)=((1:Nat):Int) from rfl]
  rfl
 ·intro i c acc k hi hlt hw hu hl
  have hi':((some L).getD [])[i]?=some c:=hi
  have hput:=q1C n acc c (by omega) hu
  simp only [q4t,q02,q07,q0r,q0q,q0o,q0p,q0B,q00,hlt,decide_true,if_true,q3X hi',rI,q0a,q0x,q0O,List.length_map,q1D,q06]
  simp only [hput,q01,q02,q17,q04,q0u,hw,q0x,List.length_map,q18,q19]
set_option maxRecDepth 20000 in
theorem li5 (n:Nat) (L:List Int) (hL:L.length≤1000000) (q:Mr) (x3 x4 x6 x7 x11 x12 x13 x14 x15 x16:D) (acc:List Int) (hu:Up acc) (ha:acc.length≤1000) :
  q0I [q4s (RP (n+4))] M0 0 [.d (dI (some L)),.d (il L.length),.d (il 0),.d x3,.d x4,.m q,.d x6,.d x7,.n acc.length,.n acc.length,.r (acc.map rI),.d x11,.d x12,.d x13,.d x14,.d x15,.d x16] =
   some (0,[.d x3,.d x4,.m q,.d x6,.d x7,.n (q0n acc L).length,.n (q0n acc L).length,.r ((q0n acc L).map rI),.d x11,.d x12,.d x13,.d x14,.d x15,.d x16]):=by
 refine q5J L hL _ (fun i acc=>[.d (dI (some L)),.d (il L.length),.d (il (i:Nat)),.d x3,.d x4,.m q,.d x6,.d x7,.n acc.length,.n acc.length,.r (acc.map rI),.d x11,.d x12,.d x13,.d x14,.d x15,.d x16])
  (fun acc=>some (0,[.d x3,.d x4,.m q,.d x6,.d x7,.n acc.length,.n acc.length,.r (acc.map rI),.d x11,.d x12,.d x13,.d x14,.d x15,.d x16])) 1000 ?_ ?_ acc hu ha
 ·intro acc k;simp [q4s]
 ·intro i c acc k hi hlt hw hu hl
  have hi':((some L).getD [])[i]?=some c:=hi
  have hput:=q1C n acc c (by omega) hu
  simp only [q4s,q02,q07,q0r,q0q,q0o,q0p,q0B,q00,hlt,decide_true,if_true,q3X hi',rI,q0a,q0x,q0O,List.length_map,q1D,q06]
  simp only [hput,q01,q02,q17,q04,q0u,hw,q0x,List.length_map,q18,q19]
def qcv (d f:Int) (kin:D) (s:Nat×List Int×Mr):Nat×List Yr:=match s.2.1 with
 | []=>(0,[.d (il d),.d (il ((s.1:Int) - 1)),.d kin,.d (il d),.m s.2.2,.d kin,.d (il f)])
 | y::r=>(2,[.d (il d),.d (il ((s.1:Int) - 1)),.r ((y::r).map rI),.n (y::r).length,.n (y::r).length,.d kin,.d (il d),.m s.2.2,.d kin,.d (il f)])
theorem qbx (d f:Int) (kin:D) (m:Nat) {acc:List Int} (q:Mr) (h:acc≠[]):qcv d f kin (m,acc,q)=(2,[.d (il d),.d (il ((m:Int) - 1)),.r (acc.map rI),.n acc.length,.n acc.length,.d kin,.d (il d),.m q,.d kin,.d (il f)]):=by
 cases acc with
 | nil=>exact absurd rfl h
 | cons _ _=>rfl
def Q161 (d f:Int) (b:List E9) (kin:D) (T:List Int) (r:Out):Prop:=∃ (acc:List Int) (q:Mr),q5t d b q∧Up acc∧acc.length≤1000 ∧
 ((acc≠[]∧((r=some (4,[.r (acc.map rI),.n acc.length,.n acc.length,.d kin,.d (il d),.m q,.d kin,.d (il f)])∧acc=T)∨(r=some (5,[.r (acc.map rI),.n acc.length,.n acc.length,.d kin,.d (il d),.m q,.d kin,.d (il f)])∧ins f acc=T))) ∨
  (r=some (2,[.d kin,.d (il d),.m q,.d kin,.d (il f)])∧ins f []=T))
theorem q7f {acc:List Int} (hu:Up acc) (h:∀ z∈acc,1≤z∧z≤99):acc.length≤99:=by
 have:=q8Q acc 1 99 hu h
 omega
theorem q3t (acc:List Int) {l:List Int} (h:l≠[]):q0n acc l≠[]:=fun e=>by
 cases l with
 | nil=>exact h rfl
 | cons x r =>
  have:x∈q0n acc (x::r):=(q1j x _ _).2 (.inr (by simp))
  rw [e] at this;simp at this
set_option maxRecDepth 20000 in
theorem l161 (n:Nat) (a b c:Option (List E9)) (o:Option (List E5)) (d f:Int) (hb:q7i (b.getD [])) (hl:(b.getD []).length≤1000000) (hf:f≤99)
  (hrec:∀ (w:Int) (q:Mr),1≤w→w < f→q5t d (b.getD []) q→∃ q':Mr,q5t d (b.getD []) q'∧FN (n+4) 1000161 [q0T a b c o,il d,.mp false q.1 q.2,il w,q0T a b c o,il d]=some (0,[.d (dI (some (q0c d (b.getD []) w))),.d (q0T a b c o),.d (il d),.d (.mp false q'.1 q'.2)]))
  (q:Mr) (hq:q5t d (b.getD []) q) :
  Q161 d f (b.getD []) (q0T a b c o) (q2X (q0c d (b.getD [])) f (q11 d f (q0m (b.getD []) (b.getD []).length)) []) (q0I [q2k (RP (n+4)) (il f),q5W (RP (n+4)) (il f),q2j (RP (n+4)) (il f)] M0 0 [.d (il d),.d (il (((b.getD []).length:Int) - 1)),.d (q0T a b c o),.d (il d),.m q,.d (q0T a b c o),.d (il f)]):=by
 generalize hT:q2X (q0c d (b.getD [])) f (q11 d f (q0m (b.getD []) (b.getD []).length)) []=T
 refine q47 (σ:=Nat×List Int×Mr) [q2k (RP (n+4)) (il f),q5W (RP (n+4)) (il f),q2j (RP (n+4)) (il f)] (qcv d f (q0T a b c o)) (fun s=>s.1)
  (fun s=>s.1≤(b.getD []).length∧Up s.2.1∧(∀ z∈s.2.1,1≤z∧z≤99)∧q5t d (b.getD []) s.2.2∧q2X (q0c d (b.getD [])) f (q11 d f (q0m (b.getD []) s.1)) s.2.1=T)
  (Q161 d f (b.getD []) (q0T a b c o) T) ?_ M0 ((b.getD []).length,[],q) ⟨Nat.le_refl _,by simp,by simp,hq,hT⟩ (by unfold M0;simp only;omega)
 clear hT hq q
 rintro ⟨m,acc,q⟩ k ⟨g1,g2,g3,g4,g5⟩ ih
 simp only at g1 g2 g3 g4 g5 ih
 have gl:=q7f g2 g3
 cases m with
 | zero =>
  rw [q3z] at g5
  cases acc with
  | nil =>
   refine ⟨q2k (RP (n+4)) (il f),rfl,[],q,g4,g2,by simp,.inr ⟨?_,g5⟩⟩
   simp [qcv,q2k]
  | cons y r =>
   refine ⟨q2j (RP (n+4)) (il f),rfl,y::r,q,g4,g2,by omega,.inl ⟨by simp,.inr ⟨?_,g5⟩⟩⟩
   simp [qcv,q2j]
 | succ m =>
  obtain ⟨e,he⟩:∃ e,(b.getD [])[m]?=some e:=⟨_,List.getElem?_eq_getElem (by omega)⟩
  rw [q2H he,q11] at g5
  have hm:(((m+1:Nat):Int) - 1)=((m:Nat):Int):=by omega
  have hw:IntKind.i64.wrap (((m:Nat):Int) - 1)=((m:Nat):Int) - 1:=q0l (by omega) (by omega)
  have h194:=s194 (n+3) a b c o m e f he
  have hnn:¬ ((m:Nat):Int) < 0:=by omega
  have hmem:e∈b.getD []:=List.mem_of_getElem? he
  cases acc with
  | nil =>
   refine ⟨q2k (RP (n+4)) (il f),rfl,?_⟩
   simp only [qcv,hm,q2k,q02,q07,q04,q1q,q00]
   rw [if_pos (by simp)]
   simp only [q06,h194,q01,q02,q07,q0V,q00,q0U,hw,q19,q18]
   by_cases h1:e.a=f
   ·rw [if_neg (by simp [h1])]
    simp only [qf4,q01,q02,q0V,q00]
    by_cases h2:q2p e.f1 e.t2 d=true
    ·rw [if_neg (by simp [h2])]
     rw [if_pos ⟨h1,h2⟩] at g5
     have hbe:=hb e hmem
     obtain ⟨q',hq',hcall⟩:=hrec e.b q hbe.1 (by omega) g4
     have hne:q0c d (b.getD []) e.b≠[]:=fun h=>by
      obtain ⟨z,hz⟩:=q4a hb (d:=d) _ e.b (Nat.le_refl _) hbe.1
      rw [h] at hz;simp at hz
     have hlen:=q3r (d:=d) hb hbe.1
     simp only [q0B,hnn,decide_false,q00,Bool.false_eq_true,if_false,q19,q18,q5y,hcall,q01,q02,q07,q54,q3s,Option.getD_some,q0k]
     rw [li01 n _ (by omega) hne]
     have hin:=q3t [] hne
     have hiu:=q1P (q0c d (b.getD []) e.b) (acc:=[]) (by simp)
     have hir:∀ z∈q0n [] (q0c d (b.getD []) e.b),1≤z∧z≤99:=fun z hz=>by
      rw [q1j] at hz
      rcases hz with hz | hz
      ·simp at hz
      ·have:=q0Z hb _ e.b z (Nat.le_refl _) hbe.1 hz;omega
     have hil:=q7f hiu hir
     simp only [q0X,q01,q7o,q02,q07,q19,q18,q0o,q0p,q0r,q0q,q00,q0b]
     rw [q2X] at g5
     by_cases h3:q2c e.f2 e.t1 d=true
     ·rw [if_pos h3] at g5 ⊢
      exact ⟨q0n [] (q0c d (b.getD []) e.b),q',hq',hiu,by omega,.inl ⟨hin,.inl ⟨rfl,g5⟩⟩⟩
     ·rw [if_neg h3] at g5 ⊢
      have:=ih (m,q0n [] (q0c d (b.getD []) e.b),q') ⟨by simp only;omega,hiu,hir,hq',g5⟩ (by simp only;omega)
      rw [qbx _ _ _ _ _ hin] at this
      exact this
    ·rw [if_pos (by simp [h2])]
     rw [if_neg fun h=>h2 h.2] at g5
     exact ih (m,[],q) ⟨by simp only;omega,g2,g3,g4,g5⟩ (by simp only;omega)
   ·rw [if_pos (by simp [h1])]
    rw [if_neg fun h=>h1 h.1] at g5
    exact ih (m,[],q) ⟨by simp only;omega,g2,g3,g4,g5⟩ (by simp only;omega)
  | cons y r =>
   refine ⟨q2j (RP (n+4)) (il f),rfl,?_⟩
   simp only [qcv,hm,q2j,q02,q07,q04,q1q,q00]
   rw [if_pos (by simp)]
   simp only [q06,h194,q01,q02,q07,q0V,q00,q0U,hw,q19,q18,q0o,q0p,q0r,q0q]
   by_cases h1:e.a=f
   ·rw [if_neg (by simp [h1])]
    simp only [qf4,q01,q02,q0V,q00]
    by_cases h2:q2p e.f1 e.t2 d=true
    ·rw [if_neg (by simp [h2])]
     rw [if_pos ⟨h1,h2⟩] at g5
     have hbe:=hb e hmem
     obtain ⟨q',hq',hcall⟩:=hrec e.b q hbe.1 (by omega) g4
     have hne:q0c d (b.getD []) e.b≠[]:=fun h=>by
      obtain ⟨z,hz⟩:=q4a hb (d:=d) _ e.b (Nat.le_refl _) hbe.1
      rw [h] at hz;simp at hz
     have hlen:=q3r (d:=d) hb hbe.1
     simp only [q0B,hnn,decide_false,q00,Bool.false_eq_true,if_false,q19,q18,q5y,hcall,q01,q02,q07,q54,q3s,Option.getD_some,q0k]
     rw [li5 n _ (by omega) _ _ _ _ _ _ _ _ _ _ _ (y::r) g2 (by omega)]
     have hin:=q3t (y::r) hne
     have hiu:=q1P (q0c d (b.getD []) e.b) g2
     have hir:∀ z∈q0n (y::r) (q0c d (b.getD []) e.b),1≤z∧z≤99:=fun z hz=>by
      rw [q1j] at hz
      rcases hz with hz | hz
      ·exact g3 z hz
      ·have:=q0Z hb _ e.b z (Nat.le_refl _) hbe.1 hz;omega
     have hil:=q7f hiu hir
     simp only [q01,q7o,q02,q07,q19,q18,q0o,q0p,q0r,q0q,q00,q0b]
     rw [q2X] at g5
     by_cases h3:q2c e.f2 e.t1 d=true
     ·rw [if_pos h3] at g5 ⊢
      exact ⟨q0n (y::r) (q0c d (b.getD []) e.b),q',hq',hiu,by omega,.inl ⟨hin,.inl ⟨rfl,g5⟩⟩⟩
     ·rw [if_neg h3] at g5 ⊢
      have:=ih (m,q0n (y::r) (q0c d (b.getD []) e.b),q') ⟨by simp only;omega,hiu,hir,hq',g5⟩ (by simp only;omega)
      rw [qbx _ _ _ _ _ hin] at this
      exact this
    ·rw [if_pos (by simp [h2])]
     rw [if_neg fun h=>h2 h.2] at g5
     exact ih (m,y::r,q) ⟨by simp only;omega,g2,g3,g4,g5⟩ (by simp only;omega)
   ·rw [if_pos (by simp [h1])]
    rw [if_neg fun h=>h1 h.1] at g5
    exact ih (m,y::r,q) ⟨by simp only;omega,g2,g3,g4,g5⟩ (by simp only;omega)
end Go.VE
namespace Go.VE
open Go.RowKit Go.Proofs
attribute [local simp] q54 q5y
theorem q77 (q:List Int):(.sl 1 ((q.map rI).take q.length):D)=dI (some q):=by rw [qgX];rfl
set_option maxRecDepth 20000 in
theorem s161 (a b c:Option (List E9)) (o:Option (List E5)) (d:Int) (hb:q7i (b.getD [])) (hl:(b.getD []).length≤1000000):∀ (N n:Nat) (f:Int) (q:Mr),1≤f→f.toNat≤N→f≤99→q5t d (b.getD []) q →
  ∃ q':Mr,q5t d (b.getD []) q'∧FN (n+5+N) 1000161 [q0T a b c o,il d,.mp false q.1 q.2,il f,q0T a b c o,il d]=some (0,[.d (dI (some (q0c d (b.getD []) f))),.d (q0T a b c o),.d (il d),.d (.mp false q'.1 q'.2)]):=by
 intro N
 induction N with
 | zero=>intro n f q h1 h2;omega
 | succ N ih =>
  intro n f q h1 h2 h3 hq
  have hrec:∀ (w:Int) (q:Mr),1≤w→w < f→q5t d (b.getD []) q→∃ q':Mr,q5t d (b.getD []) q'∧FN (n+1+N+4) 1000161 [q0T a b c o,il d,.mp false q.1 q.2,il w,q0T a b c o,il d]=some (0,[.d (dI (some (q0c d (b.getD []) w))),.d (q0T a b c o),.d (il d),.d (.mp false q'.1 q'.2)]):=fun w q hw1 hw2 hq=>by
   have:=ih n w q hw1 (by omega) (by omega) hq
   rw [show n+1+N+4=n+5+N by omega]
   exact this
  have hloop:=l161 (n+1+N) a b c o d f hb hl h3 hrec q hq
  rw [show n+5+(N+1)=(n+1+N+4)+1 by omega,qgK]
  rw [←q5f hb h1] at hloop
  generalize n+1+N=n at hloop ⊢
  simp only [q8G,q54,qdi]
  rcases qdB hq f with e | e
  ·rw [e]
   refine ⟨q,hq,?_⟩
   simp
  ·rw [e]
   have hp:∀ k:List D→Out,(RP (n+4)).ptrW 4 (q0T a b c o) k=k [d9 a,d9 b,d9 c,d5 o]:=fun k=>q26 _ 4 k rfl
   have w1:IntKind.i64.wrap (((b.getD []).length:Int) - 1)=((b.getD []).length:Int) - 1:=q0l (by omega) (by omega)
   have hip:∀ k:Out,(RP (n+4)).isPtr (q0T a b c o) k=k:=fun k=>rfl
   simp only [q00,Bool.false_eq_true,if_false,hip,hp,q0a,q0C,q6O,q04,q0U,w1,q0k]
   obtain ⟨acc,q1,hq1,hu,hlen,hr⟩:=hloop
   obtain ⟨q2,hq2,hm2⟩:=qfH hq1 f
   have hd:∀ x,x=q0c d (b.getD []) f→(.sl 1 ((x.map rI).take x.length):D)=dI (some (q0c d (b.getD []) f)):=fun x hx=>by rw [q77,hx]
   refine ⟨q2,hm2,?_⟩
   rcases hr with ⟨hne,⟨hr,hT⟩ | ⟨hr,hT⟩⟩ | ⟨hr,hT⟩
   ·rw [hr]
    simp only [q0X,q01,q0o,q0p,q0r,q0q,q02,q07,q19,q18,q0x,List.length_map,q0O,if_true,q0A,q1D,q0b,qdg]
    rw [hd acc hT,hq2]
    simp
   ·rw [hr]
    have hput:=q1C n acc f (by omega) hu
    simp only [q0X,q01,q0o,q0p,q0r,q0q,q02,q07,q19,q18,q0x,List.length_map,q0O,if_true,q0A,q1D,q0b,qdg,q0B,q00,q06,hput,q17]
    rw [if_pos (by simp)]
    simp only [q01,q02,q07,q19,q18]
    rw [show (List.map rI (ins f acc)).take (ins f acc).length=(List.map rI (ins f acc)).take (ins f acc).length from rfl,hd (ins f acc) hT,hq2]
    simp
   ·rw [hr]
    simp only [q0X,q01,q0o,q0p,q0r,q0q,q02,q07,q19,q18,q0B,q00,q06,q1p,qhd]
    rw [if_pos (by simp)]
    simp only [Bool.false_eq_true,if_false]
    have hx:[f]=q0c d (b.getD []) f:=hT
    rw [←hx] at hq2 ⊢
    simp only [q10,q0H,q0x,q0A,List.length_cons,List.length_nil,q0O,List.take_succ_cons,List.take_zero,q1b,q0Q]
    rw [if_pos (by simp),if_pos (by simp [maxLen]),qb8]
    simp only [q0x,List.length_cons,List.length_nil,q0O,if_true,q0b,q01,q1D,q0A,List.take_succ_cons,List.take_zero,q02,q07,q19,q18,qdg]
    rw [show (.sl 1 [[il f]]:D)=dI (some [f]) from rfl,hq2]
    simp
end Go.VE
namespace Go.VE
open Go.RowKit Go.Proofs
def q5h {σ:Type} (step:σ→Int→σ):σ→List (Option Int)→σ
 | s,[]=>s
 | s,none::r=>q5h step s r
 | s,some w::r=>q5h step (step s w) r
theorem q9c {σ:Type} (step:σ→Int→σ) (stopO noneO:σ→Out):∀ (os:List (Option Int)) (s:σ),qeF os→qf5 step stopO noneO s os=if none∈os then noneO (q5h step s os) else stopO (q5h step s os)
 | [],s,_=>by simp [qf5,q5h]
 | none::r,s,h=>by have:r=[]:=h;subst this;simp [qf5,q5h]
 | some w::os,s,h=>by rw [qf5,q9c step stopO noneO os _ h,q5h];simp
theorem q7R (L:Int→List Int) (f:Int):∀ (os:List (Option Int)) (s:List Int),qeF os→q2X L f os s=if none∈os then ins f (q5h (fun s w=>q0n s (L w)) s os) else q5h (fun s w=>q0n s (L w)) s os
 | [],s,_=>by simp [q2X,q5h]
 | none::r,s,h=>by have:r=[]:=h;subst this;simp [q2X,q5h]
 | some w::os,s,h=>by rw [q2X,q7R L f os _ h,q5h];simp
theorem q6B (d who:Int):∀ {l:List E9},(∀ e∈l,e.a≠who)→q11 d who l=[none]
 | [],_=>rfl
 | e::r,h=>by
  rw [q11,if_neg fun hh=>h e (by simp) hh.1]
  exact q6B d who fun e he=>h e (List.mem_cons_of_mem _ he)
def tab (d:Int) (b:List E9) (t:Nat):Rr:=(List.range t).map fun (i:Nat)=>[dI (some (q0c d b ((i:Int)+1)))]
theorem q5u (d:Int) (b:List E9) (t:Nat):(tab d b t).length=t:=by simp [tab]
theorem qcY (d:Int) (b:List E9) {t i:Nat} (h:i < t):(tab d b t)[i]?=some [dI (some (q0c d b ((i:Int)+1)))]:=by simp [tab,h]
theorem qfj (d:Int) (b:List E9) (t:Nat):tab d b (t+1)=tab d b t++[[dI (some (q0c d b ((t:Int)+1)))]]:=by simp [tab,List.range_succ]
set_option maxRecDepth 20000 in
theorem l81_0 (n:Nat) (b:Option (List E9)) (x2 x4 x5:D) (d:Int) (hb:q7i (b.getD [])) (hl:(b.getD []).length≤1000000) :
  q0I [qeP (RP n)] M0 0 [.d (il 1),.d (il d),.d x2,.d (d9 b),.d x4,.d x5,.d (il (((b.getD []).length:Int) - 1))]=some (1,[.d (il 1)]):=by
 have:=q56 (σ:=Unit) (b.getD []) hl d 1 [qeP (RP n)] (fun m _=>(0,[.d (il 1),.d (il d),.d x2,.d (d9 b),.d x4,.d x5,.d (il ((m:Int) - 1))])) (fun _ _=>True) (fun _ _=>()) (fun _=>some (1,[.d (il 1)])) (fun _=>some (1,[.d (il 1)])) ?_ ?_ () trivial
 ·refine Eq.trans this ?_
  rw [q6B _ _ fun e he=>?_]
  ·rfl
  ·have:=hb e (q46 he);omega
 ·intro s k _
  exact ⟨_,rfl,by simp [qeP]⟩
 ·intro m e s k he hm hw hm1 _
  have hne:¬ e.a=1:=by have:=hb e (List.mem_of_getElem? he);omega
  refine ⟨trivial,fun _ _=>trivial,_,rfl,?_⟩
  simp only [hm1,qeP,q02,q07,q04,q1q,q00]
  rw [if_pos (by simp),if_neg (fun h=>hne h.1)]
  simp only [q4u he,r9,q0a,q0C,q0L,q00,q0U,hw]
  rw [if_pos (by simp [hne])]
set_option maxRecDepth 20000 in
theorem qia (n:Nat) (L:List Int) (hL:L.length≤1000000) (hne:L≠[]) (T:Rr) (n2 n3:Nat) (x0 x1 x4 x5 x6 x7 x8 x9:D) :
  q0I [qiO (RP (n+1)),qgv (RP (n+1))] M0 0 [.d x0,.d x1,.n n2,.n n3,.d x4,.d x5,.d x6,.d x7,.d x8,.d x9,.d (dI (some L)),.d (il L.length),.d (il 0),.r T] =
   some (1,[.d x0,.d x1,.n n2,.n n3,.d x4,.d x5,.d x6,.d x7,.d (dI (some (q0n [] L))),.d x8,.d x9,.r T]):=by
 refine q8v L hL hne _ _ (fun i=>[.d x0,.d x1,.n n2,.n n3,.d x4,.d x5,.d x6,.d x7,.d x8,.d x9,.d (dI (some L)),.d (il L.length),.d (il (i:Nat)),.r T])
  (fun i acc=>[.d x0,.d x1,.n n2,.n n3,.d x4,.d x5,.d x6,.d x7,.d (dI (some acc)),.d x8,.d x9,.d (dI (some L)),.d (il L.length),.d (il (i:Nat)),.r T])
  (fun acc=>some (1,[.d x0,.d x1,.n n2,.n n3,.d x4,.d x5,.d x6,.d x7,.d (dI (some acc)),.d x8,.d x9,.r T])) ?_ ?_ ?_
 ·intro acc k;simp [qgv]
 ·intro c k hi hlt
  have h0:=q3X (Fn:=FN (n+1)) (FnD:=q1e Tryz.prog (cf3 tb Tryz.prog) (FN (n+1))) (m:=M0) (o:=some L) (i:=0) (c:=c) hi
  simp only [qiO,q02,q07,q0B,q00,Int.natCast_zero,hlt,decide_true,if_true]
  rw [show ((il 0):D)=il ((0:Nat):Int) from rfl,h0]
  simp only [rI,q0a,q06,q1p,q9f,q01,q02,q07,q04,q0u,Int.natCast_zero,q0r,q0q,q0o,q0p]
  rw [show IntKind.i64.wrap (0+1)=((1:Nat):Int) from rfl]
 ·intro i c acc k hi hlt hw hu hl
  have hi':((some L).getD [])[i]?=some c:=hi
  have hput:=s92 n (some acc) c (by simp only [Option.getD_some];omega) hu
  simp only [Option.getD_some] at hput
  simp only [qgv,q02,q07,q0r,q0q,q0o,q0p,q0B,q00,hlt,decide_true,if_true,q3X hi',rI,q0a,q06,hput,q01,q04,q0u,hw]
set_option maxRecDepth 20000 in
theorem li81_5 (n:Nat) (L:List Int) (hL:L.length≤1000000) (T:Rr) (n2 n3:Nat) (x0 x1 x4 x5 x6 x7 x8 x9:D) (acc:List Int) (hu:Up acc) (ha:acc.length≤1000) :
  q0I [qgu (RP (n+1))] M0 0 [.d x0,.d x1,.n n2,.n n3,.d x4,.d x5,.d x6,.d x7,.d (dI (some acc)),.d x8,.d x9,.d (dI (some L)),.d (il L.length),.d (il 0),.r T] =
   some (0,[.d x0,.d x1,.n n2,.n n3,.d x4,.d x5,.d x6,.d x7,.d (dI (some (q0n acc L))),.d x8,.d x9,.r T]):=by
 refine q5J L hL _ (fun i acc=>[.d x0,.d x1,.n n2,.n n3,.d x4,.d x5,.d x6,.d x7,.d (dI (some acc)),.d x8,.d x9,.d (dI (some L)),.d (il L.length),.d (il (i:Nat)),.r T])
  (fun acc=>some (0,[.d x0,.d x1,.n n2,.n n3,.d x4,.d x5,.d x6,.d x7,.d (dI (some acc)),.d x8,.d x9,.r T])) 1000 ?_ ?_ acc hu ha
 ·intro acc k;simp [qgu]
 ·intro i c acc k hi hlt hw hu hl
  have hi':((some L).getD [])[i]?=some c:=hi
  have hput:=s92 n (some acc) c (by simp only [Option.getD_some];omega) hu
  simp only [Option.getD_some] at hput
  simp only [qgu,q02,q07,q0r,q0q,q0o,q0p,q0B,q00,hlt,decide_true,if_true,q3X hi',rI,q0a,q06,hput,q01,q04,q0u,hw]
def en81 (d f:Int) (t:Nat) (T:Rr) (x4 x5 x6 x7:D) (m:Nat) (acc:List Int):Nat×List Yr:=match acc with
 | []=>(0,[.d (il f),.d (il d),.n t,.n t,.d x4,.d x5,.d x6,.d x7,.d (il ((m:Int) - 1)),.r T])
 | y::r=>(1,[.d (il f),.d (il d),.n t,.n t,.d x4,.d x5,.d x6,.d x7,.d (dI (some (y::r))),.d (il ((m:Int) - 1)),.r T])
theorem qgb (d f:Int) (t:Nat) (T:Rr) (x4 x5 x6 x7:D) (m:Nat):en81 d f t T x4 x5 x6 x7 m []=(0,[.d (il f),.d (il d),.n t,.n t,.d x4,.d x5,.d x6,.d x7,.d (il ((m:Int) - 1)),.r T]):=rfl
theorem qek (d f:Int) (t:Nat) (T:Rr) (x4 x5 x6 x7:D) (m:Nat) (y:Int) (r:List Int):en81 d f t T x4 x5 x6 x7 m (y::r)=(1,[.d (il f),.d (il d),.n t,.n t,.d x4,.d x5,.d x6,.d x7,.d (dI (some (y::r))),.d (il ((m:Int) - 1)),.r T]):=rfl
theorem qej (d f:Int) (t:Nat) (T:Rr) (x4 x5 x6 x7:D) (m:Nat) {acc:List Int} (h:acc≠[]):en81 d f t T x4 x5 x6 x7 m acc=(1,[.d (il f),.d (il d),.n t,.n t,.d x4,.d x5,.d x6,.d x7,.d (dI (some acc)),.d (il ((m:Int) - 1)),.r T]):=by
 cases acc with
 | nil=>exact absurd rfl h
 | cons _ _=>rfl
def st81 (T:Rr) (acc:List Int):Out:=some (2,[.d (dI (some acc)),.r T])
def no81 (f:Int) (T:Rr) (acc:List Int):Out:=match acc with
 | []=>some (1,[.d (il f),.r T])
 | y::r=>some (3,[.d (il f),.d (dI (some (y::r))),.r T])
set_option maxRecDepth 20000 in
theorem l81_4 (n:Nat) (b:Option (List E9)) (x4 x6 x7:D) (d:Int) (t:Nat) (hb:q7i (b.getD [])) (hl:(b.getD []).length≤1000000) (ht:t≤99) :
  q0I [qeN (RP (n+1)),qeM (RP (n+1))] M0 0 [.d (il ((t:Int)+1)),.d (il d),.n t,.n t,.d x4,.d (d9 b),.d x6,.d x7,.d (il (((b.getD []).length:Int) - 1)),.r (tab d (b.getD []) t)] =
   qf5 (fun s w=>q0n s (q0c d (b.getD []) w)) (st81 (tab d (b.getD []) t)) (no81 ((t:Int)+1) (tab d (b.getD []) t)) [] (q11 d ((t:Int)+1) (q0m (b.getD []) (b.getD []).length)):=by
 refine q56 (σ:=List Int) (b.getD []) hl d ((t:Int)+1) [qeN (RP (n+1)),qeM (RP (n+1))] (fun m s=>en81 d ((t:Int)+1) t (tab d (b.getD []) t) x4 (d9 b) x6 x7 m s) (fun _ s=>Up s∧∀ z∈s,1≤z∧z≤99) (fun s w=>q0n s (q0c d (b.getD []) w)) _ _ ?_ ?_ [] ⟨by simp,by simp⟩
 ·intro s k _
  cases s with
  | nil=>exact ⟨_,rfl,by simp [qeN,en81,no81]⟩
  | cons y r=>exact ⟨_,rfl,by simp [qeM,en81,no81]⟩
 ·intro m e s k he hm hw hm1 hI
  obtain ⟨g2,g3⟩:=hI
  have hbe:=hb e (List.mem_of_getElem? he)
  have gl:=q7f g2 g3
  refine ⟨⟨g2,g3⟩,fun _ _=>⟨q1P _ g2,fun z hz=>?_⟩,?_⟩
  ·rw [q1j] at hz
   rcases hz with hz | hz
   ·exact g3 z hz
   ·have:=q0Z hb _ e.b z (Nat.le_refl _) hbe.1 hz;omega
  ·have hne:q0c d (b.getD []) e.b≠[]:=fun h=>by
    obtain ⟨z,hz⟩:=q4a hb (d:=d) _ e.b (Nat.le_refl _) hbe.1
    rw [h] at hz;simp at hz
   have hlen:=q3r (d:=d) hb hbe.1
   have hws:IntKind.i64.wrap (e.b - 1)=e.b - 1:=q0l (by omega) (by omega)
   cases s with
   | nil =>
    refine ⟨_,rfl,?_⟩
    simp only [qgb,hm1,qeN,q02,q07,q04,q1q,q00]
    rw [if_pos (by simp)]
    simp only [q4u he,r9,q0a,q0C,q0L,q00,q0U,hw,hws,decide_eq_true_eq,q0o,q0p,q0r,q0q]
    by_cases h1:e.a=(t:Int)+1
    ·rw [if_neg (by simp [h1])]
     simp only [q06,s160,q01,q02,q0L,q00,q0F,decide_eq_true_eq]
     by_cases h2:q2p e.f1 e.t2 d=true
     ·rw [if_pos ((q5M _ _ _ _ _).2 h2),if_pos (⟨h1,h2⟩:e.a=(t:Int)+1∧q2p e.f1 e.t2 d=true)]
      have hnat:(e.b - 1).toNat < t:=by omega
      have hbb:(((e.b - 1).toNat:Nat):Int)+1=e.b:=by omega
      have hrow:∀ k:List D→Out,(RP (n+1)).rowAt 1 (tab d (b.getD []) t) (e.b - 1).toNat k=k [dI (some (q0c d (b.getD []) e.b))]:=fun k=>by
       rw [q6g,qcY _ _ hnat,hbb];rfl
      simp only [q0o,q0p,q0r,q0q,q0x,q5u,q0O,if_true,qb7]
      rw [if_pos (by omega),hrow]
      simp only [q0a,q3s,Option.getD_some,q0k,q02,q07,q0o,q0p,q0r,q0q]
      rw [qia n _ (by omega) hne]
      simp only [q0X,q01,q02,q07,q0o,q0p,q0r,q0q,q0F,q00,q0U,hw,q0b,decide_eq_true_eq]
      have hin:=q3t [] hne
      by_cases h3:q2c e.f2 e.t1 d=true
      ·rw [if_pos h3,if_pos ((q1J _ _ _ _ _ h2).2 h3)];rfl
      ·rw [if_neg h3,if_neg fun h=>h3 ((q1J _ _ _ _ _ h2).1 h),qej _ _ _ _ _ _ _ _ _ hin]
     ·rw [q5L _ _ _ _ _ h2,if_neg (by simp),if_neg (by simp),if_neg (fun h=>h2 h.2)]
    ·rw [if_pos (by simp [h1]),if_neg (fun h=>h1 h.1)]
   | cons y r =>
    refine ⟨_,rfl,?_⟩
    simp only [qek,hm1,qeM,q02,q07,q04,q1q,q00]
    rw [if_pos (by simp)]
    simp only [q4u he,r9,q0a,q0C,q0L,q00,q0U,hw,hws,decide_eq_true_eq,q0o,q0p,q0r,q0q]
    by_cases h1:e.a=(t:Int)+1
    ·rw [if_neg (by simp [h1])]
     simp only [q06,s160,q01,q02,q0L,q00,q0F,decide_eq_true_eq]
     by_cases h2:q2p e.f1 e.t2 d=true
     ·rw [if_pos ((q5M _ _ _ _ _).2 h2),if_pos (⟨h1,h2⟩:e.a=(t:Int)+1∧q2p e.f1 e.t2 d=true)]
      have hnat:(e.b - 1).toNat < t:=by omega
      have hbb:(((e.b - 1).toNat:Nat):Int)+1=e.b:=by omega
      have hrow:∀ k:List D→Out,(RP (n+1)).rowAt 1 (tab d (b.getD []) t) (e.b - 1).toNat k=k [dI (some (q0c d (b.getD []) e.b))]:=fun k=>by
       rw [q6g,qcY _ _ hnat,hbb];rfl
      simp only [q0o,q0p,q0r,q0q,q0x,q5u,q0O,if_true,qb7]
      rw [if_pos (by omega),hrow]
      simp only [q0a,q3s,Option.getD_some,q0k,q02,q07,q0o,q0p,q0r,q0q]
      rw [li81_5 n _ (by omega) _ _ _ _ _ _ _ _ _ _ _ (y::r) g2 (by omega)]
      simp only [q0X,q01,q02,q07,q0o,q0p,q0r,q0q,q0F,q00,q0U,hw,q0b,decide_eq_true_eq]
      have hin:=q3t (y::r) hne
      by_cases h3:q2c e.f2 e.t1 d=true
      ·rw [if_pos h3,if_pos ((q1J _ _ _ _ _ h2).2 h3)];rfl
      ·rw [if_neg h3,if_neg fun h=>h3 ((q1J _ _ _ _ _ h2).1 h),qej _ _ _ _ _ _ _ _ _ hin]
     ·rw [q5L _ _ _ _ _ h2,if_neg (by simp),if_neg (by simp),if_neg (fun h=>h2 h.2)]
    ·rw [if_pos (by simp [h1]),if_neg (fun h=>h1 h.1)]
end Go.VE
namespace Go.VE
open Go.RowKit Go.Proofs
theorem q6Y {σ:Type} (step:σ→Int→σ) (P:σ→Prop):∀ (os:List (Option Int)) (s:σ),(∀ s w,some w∈os→P s→P (step s w))→P s→P (q5h step s os)
 | [],_,_,h=>h
 | none::r,s,hs,h=>q6Y step P r s (fun s w hw=>hs s w (List.mem_cons_of_mem _ hw)) h
 | some w::r,s,hs,h=>q6Y step P r _ (fun s w hw=>hs s w (List.mem_cons_of_mem _ hw)) (hs s w (by simp) h)
def qei (f d:Int) (x0 x1 x2 x3:D) (b:List E9) (t:Nat):Nat×List Yr:=match t with
 | 0=>(0,[.d (il f),.d (il d),.d x0,.d x1,.d x2,.d x3,.d (il 1)])
 | t+1=>(1,[.d (il f),.d (il d),.d x0,.d x1,.d x2,.d x3,.n (t+1),.n (t+1),.d (il ((t:Int)+1+1)),.r (tab d b (t+1))])
theorem qcf {d:Int} {b:List E9} (hb:q7i b):q0c d b 1=[1]:=by
 rw [q5f hb (by decide),q6B _ _ fun e he=>?_]
 ·rfl
 ·have:=hb e (q46 he);omega
set_option maxRecDepth 20000 in
theorem l81 (n:Nat) (b:Option (List E9)) (x0 x2 x3:D) (f d:Int) (h1:1≤f) (h2:f≤99) (hb:q7i (b.getD [])) (hl:(b.getD []).length≤1000000) :
  q0I [qeO (RP (n+1)),qeL (RP (n+1))] M0 0 [.d (il f),.d (il d),.d x0,.d (d9 b),.d x2,.d x3,.d (il 1)]=some (1,[.d (il f),.n f.toNat,.n f.toNat,.r (tab d (b.getD []) f.toNat)]):=by
 refine q48 (σ:=Nat) [qeO (RP (n+1)),qeL (RP (n+1))] (qei f d x0 (d9 b) x2 x3 (b.getD [])) (fun t=>100 - t) (fun t=>(t:Int)≤f) (fun _=>some (1,[.d (il f),.n f.toNat,.n f.toNat,.r (tab d (b.getD []) f.toNat)])) ?_ M0 0 (by omega) (by unfold M0;omega)
 intro t k ht ih
 have w1:IntKind.i64.wrap (((b.getD []).length:Int) - 1)=((b.getD []).length:Int) - 1:=q0l (by omega) (by omega)
 cases t with
 | zero =>
  refine ⟨qeO (RP (n+1)),rfl,?_⟩
  have ih':=ih 1 (by omega) (by omega)
  have ht1:tab d (b.getD []) (0+1)=[[dI (some [1])]]:=by
   have:=qcf (d:=d) hb
   simp [tab,this]
  simp only [qei,ht1] at ih'
  simp only [qei,qeO,q02,q07,q69,q00]
  rw [if_pos (by simpa using h1)]
  simp only [q6O,q04,q0U,w1,q0k,l81_0 (n+1) b x0 x2 x3 d hb hl,q0X,q01,q02,q06,q1p,q9f,q10,q0H,q0x,q0A,List.length_cons,List.length_nil,q0O,List.take_succ_cons,List.take_zero,q1b,q0Q,q0u,q07]
  rw [if_pos (by simp),if_pos (by simp [maxLen])]
  exact ih'
 | succ t =>
  refine ⟨qeL (RP (n+1)),rfl,?_⟩
  have hcast:(t:Int)+1=((t+1:Nat):Int):=by omega
  simp only [qei,qeL,q02,q07,q69,q00,q0o,q0p,q0r,q0q,decide_eq_true_eq]
  by_cases hlt:(t:Int)+1+1≤f
  ·rw [if_pos hlt]
   have ih':=ih (t+1+1) (by omega) (by omega)
   simp only [qei] at ih'
   rw [hcast]
   have hloop:=l81_4 n b x0 x2 x3 d (t+1) hb hl (by omega)
   simp only [q6O,q04,q0U,w1,q0k,hloop]
   have hos:=q3m d (((t+1:Nat):Int)+1) (q0m (b.getD []) (b.getD []).length)
   have hL:=q5f (d:=d) hb (f:=((t+1:Nat):Int)+1) (by omega)
   have hless:∀ w,some w∈q11 d (((t+1:Nat):Int)+1) (q0m (b.getD []) (b.getD []).length)→1≤w∧w < ((t+1:Nat):Int)+1:=fun w hw=>by have:=q44 hb hw;omega
   rw [q7R _ _ _ _ hos] at hL
   rw [q9c _ _ _ _ _ hos]
   generalize q11 d (((t+1:Nat):Int)+1) (q0m (b.getD []) (b.getD []).length)=os at hos hL hless ⊢
   have hP:=q6Y (fun s w=>q0n s (q0c d (b.getD []) w)) (fun s=>Up s∧∀ z∈s,1≤z∧z≤99) os [] (fun s w hw hs=>⟨q1P _ hs.1,fun z hz=>by
    rw [q1j] at hz
    rcases hz with hz | hz
    ·exact hs.2 z hz
    ·have h3:=hless w hw
     have:=q0Z hb _ w z (Nat.le_refl _) h3.1 hz;omega⟩) ⟨by simp,by simp⟩
   have hwr:IntKind.i64.wrap (((t+1:Nat):Int)+1+1)=((t+1:Nat):Int)+1+1:=q0l (by omega) (by omega)
   rw [qfj d (b.getD []) (t+1),hL] at ih'
   generalize q5h (fun s w=>q0n s (q0c d (b.getD []) w)) [] os=s at hP hL ih' ⊢
   have hlen:=q7f hP.1 hP.2
   by_cases hn:none∈os
   ·rw [if_pos hn] at hL ih' ⊢
    cases s with
    | nil =>
     simp only [no81,q0X,q01,q02,q07,q0o,q0p,q06,q1p,q9f,q10,q0H,q0x,q0A,List.length_cons,List.length_nil,q0O,List.take_succ_cons,List.take_zero,q1b,q0Q,q0u,q1x,q5u,q2W,hwr,q0r,q0q]
     rw [if_pos (by simp),if_pos (by simp),if_pos (by simp),if_pos (by omega)]
     exact ih'
    | cons y r =>
     have hput:=s92 n (some (y::r)) (((t+1:Nat):Int)+1) (by simp only [Option.getD_some];omega) hP.1
     simp only [Option.getD_some] at hput
     simp only [no81,q0X,q01,q02,q07,q0o,q0p,q06,hput,q10,q0H,q0x,q0A,List.length_cons,List.length_nil,q0O,List.take_succ_cons,List.take_zero,q1b,q0Q,q0u,q1x,q5u,q2W,hwr,q0r,q0q]
     rw [if_pos (by simp),if_pos (by simp),if_pos (by simp),if_pos (by omega)]
     exact ih'
   ·rw [if_neg hn] at hL ih' ⊢
    simp only [st81,q0X,q01,q02,q07,q0o,q0p,q10,q0H,q0x,q0A,List.length_cons,List.length_nil,q0O,List.take_succ_cons,List.take_zero,q1b,q0Q,q0u,q1x,q04,q5u,q2W,hwr,q0r,q0q]
    rw [if_pos (by simp),if_pos (by simp),if_pos (by simp),if_pos (by omega)]
    exact ih'
  ·rw [if_neg hlt]
   have hft:f.toNat=t+1:=by omega
   rw [hft]
   simp
set_option maxRecDepth 20000 in
theorem s81 (n:Nat) (b:Option (List E9)) (x0 x2 x3:D) (f d:Int) (h1:1≤f) (h2:f≤99) (hb:q7i (b.getD [])) (hl:(b.getD []).length≤1000000) :
  FN (n+2) 81 [x0,d9 b,x2,x3,il f,il d]=some (0,[.d (dI (some (q0c d (b.getD []) f)))]):=by
 rw [F81]
 have hw:IntKind.i64.wrap (f - 1)=f - 1:=q0l (by omega) (by omega)
 have hft:(f - 1).toNat < f.toNat:=by omega
 have hrow:∀ k:List D→Out,(RP (n+1)).rowAt 1 (tab d (b.getD []) f.toNat) (f - 1).toNat k=k [dI (some (q0c d (b.getD []) f))]:=fun k=>by
  rw [q6g,qcY _ _ hft,show (((f - 1).toNat:Nat):Int)+1=f by omega];rfl
 simp only [G81,q04,q0k,l81 n b x0 x2 x3 f d h1 h2 hb hl,q0X,q01,q02,q07,q0r,q0q,q0o,q0p,q0U,hw,q0x,q5u,q0O,if_true,qb7]
 rw [if_pos (by omega),hrow]
 simp
theorem q6D {α:Type} {p:α→Bool} {src:α→Int}:∀ {l:List α} {o:Option Int},okL p src o l=true→∀ e∈l,p e=true
 | [],_,_,e,he=>by simp at he
 | x::r,o,h,e,he=>by
  unfold okL at h
  simp only [Bool.and_eq_true] at h
  rcases List.mem_cons.1 he with rfl | he
  ·exact h.1.1
  ·exact q6D h.2 e he
end Go.VE
namespace Go.VE
open Go.RowKit Go.Proofs
attribute [local simp] q54 q5y
set_option maxRecDepth 20000 in
theorem qi9 (n:Nat) (L:List Int) (hL:L.length≤1000000) (hne:L≠[]) (q:Mr) (x3 x4 x5 x6 x8 x9 x10 x11 x12 x13 x14 x15 x16 x17:D) :
  q0I [qiN (RP (n+4)),qgt (RP (n+4))] M0 0 [.d (dI (some L)),.d (il L.length),.d (il 0),.d x3,.d x4,.d x5,.d x6,.m q,.d x8,.d x9,.d x10,.d x11,.d x12,.d x13,.d x14,.d x15,.d x16,.d x17] =
   some (1,[.r ((q0n [] L).map rI),.d x3,.d x4,.d x5,.d x6,.m q,.d x8,.d x9,.d x10,.d x11,.n (q0n [] L).length,.n (q0n [] L).length,.d x12,.d x13,.d x14,.d x15,.d x16,.d x17]):=by
 refine q8v L hL hne _ _ (fun i=>[.d (dI (some L)),.d (il L.length),.d (il (i:Nat)),.d x3,.d x4,.d x5,.d x6,.m q,.d x8,.d x9,.d x10,.d x11,.d x12,.d x13,.d x14,.d x15,.d x16,.d x17])
  (fun i acc=>[.d (dI (some L)),.d (il L.length),.d (il (i:Nat)),.r (acc.map rI),.d x3,.d x4,.d x5,.d x6,.m q,.d x8,.d x9,.d x10,.d x11,.n acc.length,.n acc.length,.d x12,.d x13,.d x14,.d x15,.d x16,.d x17])
  (fun acc=>some (1,[.r (acc.map rI),.d x3,.d x4,.d x5,.d x6,.m q,.d x8,.d x9,.d x10,.d x11,.n acc.length,.n acc.length,.d x12,.d x13,.d x14,.d x15,.d x16,.d x17])) ?_ ?_ ?_
 ·intro acc k;simp [qgt]
 ·intro c k hi hlt
  have h0:=q3X (Fn:=FN (n+4)) (FnD:=q1e Tryz.prog (cf3 tb Tryz.prog) (FN (n+4))) (m:=M0) (o:=some L) (i:=0) (c:=c) hi
  simp only [qiN,q02,q07,q0B,q00,Int.natCast_zero,hlt,decide_true,if_true]
  rw [show ((il 0):D)=il ((0:Nat):Int) from rfl,h0]
  simp only [rI,q0a,q06,q1p,qhd,q01,q02,q07,q00,Bool.false_eq_true,if_false]
  rw [put0]
  simp only [q04,q0u,q10,q0H,q0x,q0A,List.length_cons,List.length_nil,List.take_succ_cons,List.take_zero,Int.natCast_zero]
  rw [show IntKind.i64.wrap (0+1)=((1:Nat):Int) from rfl]
  rfl
 ·intro i c acc k hi hlt hw hu hl
  have hi':((some L).getD [])[i]?=some c:=hi
  have hput:=q1C n acc c (by omega) hu
  simp only [qgt,q02,q07,q0r,q0q,q0o,q0p,q0B,q00,hlt,decide_true,if_true,q3X hi',rI,q0a,q0x,q0O,List.length_map,q1D,q06]
  simp only [hput,q01,q02,q17,q04,q0u,hw,q0x,List.length_map,q18,q19]
set_option maxRecDepth 20000 in
theorem li82_2 (n:Nat) (L:List Int) (hL:L.length≤1000000) (q:Mr) (x4 x5 x6 x7 x9 x10 x11 x12 x15 x16 x17 x18 x19 x20:D) (acc:List Int) (hu:Up acc) (ha:acc.length≤1000) :
  q0I [qgs (RP (n+4))] M0 0 [.d (dI (some L)),.d (il L.length),.d (il 0),.r (acc.map rI),.d x4,.d x5,.d x6,.d x7,.m q,.d x9,.d x10,.d x11,.d x12,.n acc.length,.n acc.length,.d x15,.d x16,.d x17,.d x18,.d x19,.d x20] =
   some (0,[.r ((q0n acc L).map rI),.d x4,.d x5,.d x6,.d x7,.m q,.d x9,.d x10,.d x11,.d x12,.n (q0n acc L).length,.n (q0n acc L).length,.d x15,.d x16,.d x17,.d x18,.d x19,.d x20]):=by
 refine q5J L hL _ (fun i acc=>[.d (dI (some L)),.d (il L.length),.d (il (i:Nat)),.r (acc.map rI),.d x4,.d x5,.d x6,.d x7,.m q,.d x9,.d x10,.d x11,.d x12,.n acc.length,.n acc.length,.d x15,.d x16,.d x17,.d x18,.d x19,.d x20])
  (fun acc=>some (0,[.r (acc.map rI),.d x4,.d x5,.d x6,.d x7,.m q,.d x9,.d x10,.d x11,.d x12,.n acc.length,.n acc.length,.d x15,.d x16,.d x17,.d x18,.d x19,.d x20])) 1000 ?_ ?_ acc hu ha
 ·intro acc k;simp [qgs]
 ·intro i c acc k hi hlt hw hu hl
  have hi':((some L).getD [])[i]?=some c:=hi
  have hput:=q1C n acc c (by omega) hu
  simp only [qgs,q02,q07,q0r,q0q,q0o,q0p,q0B,q00,hlt,decide_true,if_true,q3X hi',rI,q0a,q0x,q0O,List.length_map,q1D,q06]
  simp only [hput,q01,q02,q17,q04,q0u,hw,q0x,List.length_map,q18,q19]
set_option maxRecDepth 20000 in
theorem qhj (n:Nat) (L:List Int) (hL:L.length≤1000000) (q:Mr) (x4 x5 x6 x7 x9 x10 x11 x12 x15 x16 x17 x18 x19 x20:D) (acc:List Int) (hu:Up acc) (ha:acc.length≤1000) :
  q0I [qgr (RP (n+4))] M0 0 [.d (dI (some L)),.d (il L.length),.d (il 0),.r (acc.map rI),.d x4,.d x5,.d x6,.d x7,.m q,.d x9,.d x10,.d x11,.d x12,.n acc.length,.n acc.length,.d x15,.d x16,.d x17,.d x18,.d x19,.d x20] =
   some (0,[.r ((q0n acc L).map rI),.d x4,.d x5,.d x6,.d x7,.m q,.d x9,.d x10,.d x11,.d x12,.n (q0n acc L).length,.n (q0n acc L).length,.d x15,.d x16,.d x17,.d x18,.d x19,.d x20]):=by
 refine q5J L hL _ (fun i acc=>[.d (dI (some L)),.d (il L.length),.d (il (i:Nat)),.r (acc.map rI),.d x4,.d x5,.d x6,.d x7,.m q,.d x9,.d x10,.d x11,.d x12,.n acc.length,.n acc.length,.d x15,.d x16,.d x17,.d x18,.d x19,.d x20])
  (fun acc=>some (0,[.r (acc.map rI),.d x4,.d x5,.d x6,.d x7,.m q,.d x9,.d x10,.d x11,.d x12,.n acc.length,.n acc.length,.d x15,.d x16,.d x17,.d x18,.d x19,.d x20])) 1000 ?_ ?_ acc hu ha
 ·intro acc k;simp [qgr]
 ·intro i c acc k hi hlt hw hu hl
  have hi':((some L).getD [])[i]?=some c:=hi
  have hput:=q1C n acc c (by omega) hu
  simp only [qgr,q02,q07,q0r,q0q,q0o,q0p,q0B,q00,hlt,decide_true,if_true,q3X hi',rI,q0a,q0x,q0O,List.length_map,q1D,q06]
  simp only [hput,q01,q02,q17,q04,q0u,hw,q0x,List.length_map,q18,q19]
set_option maxRecDepth 20000 in
theorem qhi (n:Nat) (L:List Int) (hL:L.length≤1000000) (q:Mr) (x3 x4 x5 x6 x8 x9 x10 x11 x15 x16 x17 x18 x19 x20:D) (acc:List Int) (hu:Up acc) (ha:acc.length≤1000) :
  q0I [qgq (RP (n+4))] M0 0 [.d (dI (some L)),.d (il L.length),.d (il 0),.d x3,.d x4,.d x5,.d x6,.m q,.d x8,.d x9,.d x10,.d x11,.n acc.length,.n acc.length,.r (acc.map rI),.d x15,.d x16,.d x17,.d x18,.d x19,.d x20] =
   some (0,[.d x3,.d x4,.d x5,.d x6,.m q,.d x8,.d x9,.d x10,.d x11,.n (q0n acc L).length,.n (q0n acc L).length,.r ((q0n acc L).map rI),.d x15,.d x16,.d x17,.d x18,.d x19,.d x20]):=by
 refine q5J L hL _ (fun i acc=>[.d (dI (some L)),.d (il L.length),.d (il (i:Nat)),.d x3,.d x4,.d x5,.d x6,.m q,.d x8,.d x9,.d x10,.d x11,.n acc.length,.n acc.length,.r (acc.map rI),.d x15,.d x16,.d x17,.d x18,.d x19,.d x20])
  (fun acc=>some (0,[.d x3,.d x4,.d x5,.d x6,.m q,.d x8,.d x9,.d x10,.d x11,.n acc.length,.n acc.length,.r (acc.map rI),.d x15,.d x16,.d x17,.d x18,.d x19,.d x20])) 1000 ?_ ?_ acc hu ha
 ·intro acc k;simp [qgq]
 ·intro i c acc k hi hlt hw hu hl
  have hi':((some L).getD [])[i]?=some c:=hi
  have hput:=q1C n acc c (by omega) hu
  simp only [qgq,q02,q07,q0r,q0q,q0o,q0p,q0B,q00,hlt,decide_true,if_true,q3X hi',rI,q0a,q0x,q0O,List.length_map,q1D,q06]
  simp only [hput,q01,q02,q17,q04,q0u,hw,q0x,List.length_map,q18,q19]
def qbY (d who:Int) (kin:D) (no yes:Bool) (acc:List Int) (q:Mr):List Yr:=[.r (acc.map rI),.n acc.length,.n acc.length,.d (bl no),.d (bl yes),.d kin,.d (il d),.m q,.d kin,.d (il d),.d kin,.d (il who)]
def qc0 (d who:Int) (kin:D) (no yes:Bool) (m:Nat) (acc:List Int) (q:Mr):List Yr:=.d (il d)::.d (il ((m:Int) - 1))::qbY d who kin no yes acc q
def tz82 (d who:Int) (kin:D) (no yes:Bool) (q:Mr):List Yr:=[.d (bl no),.d (bl yes),.d kin,.d (il d),.m q,.d kin,.d (il d),.d kin,.d (il who)]
def qgV (d who:Int) (kin:D) (no yes:Bool) (m:Nat) (q:Mr):List Yr:=.d (il d)::.d (il ((m:Int) - 1))::tz82 d who kin no yes q
set_option maxRecDepth 20000 in
theorem rd82_5 (n:Nat) (a b c:Option (List E9)) (o:Option (List E5)) (d who:Int) (no yes:Bool) (m:Nat) (e:E9) (he:(a.getD [])[m]?=some e) (hb0:¬ e.b=0) (hw:IntKind.i64.wrap (((m:Nat):Int) - 1)=((m:Nat):Int) - 1)
  (hne:q0c d (b.getD []) e.b≠[]) (hlen:(q0c d (b.getD []) e.b).length≤1000000)
  (hcall:∀ q:Mr,q5t d (b.getD []) q→∃ q':Mr,q5t d (b.getD []) q'∧FN (n+4) 1000161 [q0T a b c o,il d,.mp false q.1 q.2,il e.b,q0T a b c o,il d]=some (0,[.d (dI (some (q0c d (b.getD []) e.b))),.d (q0T a b c o),.d (il d),.d (.mp false q'.1 q'.2)]))
  (acc:List Int) (q:Mr) (hu:Up acc) (ha:acc.length≤900) (hq:q5t d (b.getD []) q) (k:Nat→List Yr→Out):∃ q':Mr,q5t d (b.getD []) q'∧q9O (RP (n+4)) k (qc0 d who (q0T a b c o) no yes (m+1) acc q) =
   if e.a=who∧q2p e.f1 e.t2 d=true then (if q2c e.f2 e.t1 d=true then some (2,qbY d who (q0T a b c o) no yes (q0G (q0c d (b.getD [])) yes no (some e.b) acc) q') else k 1 (qc0 d who (q0T a b c o) no yes m (q0G (q0c d (b.getD [])) yes no (some e.b) acc) q')) else k 1 (qc0 d who (q0T a b c o) no yes m acc q'):=by
 have hm:(((m+1:Nat):Int) - 1)=((m:Nat):Int):=by omega
 have h157:=s157 (n+3) a b c o m e who he
 have hput:=q1C n acc 0 (by omega) hu
 simp only [qc0,qbY,hm,q9O,q02,q07,q0r,q0q,q0o,q0p,q19,q18,q04,q1q,q00]
 rw [if_pos (by simp)]
 simp only [q06,h157,q01,q02,q07,q0r,q0q,q0o,q0p,q19,q18,q0V,q00,q0U,hw]
 by_cases h1:e.a=who
 ·rw [if_neg (by simp [h1])]
  simp only [qf4,q01,q02,q0V,q00]
  by_cases h2:q2p e.f1 e.t2 d=true
  ·rw [if_neg (by simp [h2])]
   simp only [if_pos (⟨h1,h2⟩:e.a=who∧q2p e.f1 e.t2 d=true)]
   simp only [q0F,hb0,decide_false,q00,Bool.false_eq_true,if_false]
   cases no with
   | false =>
    have hfs:q0G (q0c d (b.getD [])) yes false (some e.b) acc=if yes=true then q0n acc (q0c d (b.getD []) e.b) else acc:=by cases yes<;>simp [q0G,f0,hb0]
    simp only [Bool.false_eq_true,if_false,q01,q02,q07,q0r,q0q,q0o,q0p,q19,q18,q0F,hb0,decide_false,q00,q0b]
    cases yes with
    | false =>
     refine ⟨q,hq,?_⟩
     simp only [q0V,Bool.not_false,q00,if_true,q06,q7o,q01,q02,q07,q0r,q0q,q0o,q0p,q19,q18,q0U,hw,hfs]
     rfl
    | true =>
     obtain ⟨q',hq',hc⟩:=hcall q hq
     refine ⟨q',hq',?_⟩
     simp only [q0V,Bool.not_true,q00,Bool.false_eq_true,if_false,q5y,q06,hc,q01,q02,q07,q0r,q0q,q0o,q0p,q19,q18,q54,q3s,Option.getD_some,q0k]
     rw [qhj n _ hlen _ _ _ _ _ _ _ _ _ _ _ _ _ _ _ acc hu (by omega)]
     simp only [q0X,q01,q06,q7o,q02,q07,q0r,q0q,q0o,q0p,q19,q18,q00,q0U,hw,q0b,hfs]
     rfl
   | true =>
    have hu0:=q3S 0 hu
    have hl0:=q3e 0 acc
    have hfs:q0G (q0c d (b.getD [])) yes true (some e.b) acc=if yes=true then q0n (ins 0 acc) (q0c d (b.getD []) e.b) else ins 0 acc:=by cases yes<;>simp [q0G,f0,hb0]
    simp only [if_true,q0x,List.length_map,q0O,q1D,hput,q17,q01,q02,q07,q0r,q0q,q0o,q0p,q19,q18,q0F,hb0,decide_false,q00,Bool.false_eq_true,if_false,q0b]
    cases yes with
    | false =>
     refine ⟨q,hq,?_⟩
     simp only [q0V,Bool.not_false,q00,if_true,q06,q7o,q01,q02,q07,q0r,q0q,q0o,q0p,q19,q18,q0U,hw,hfs]
     rfl
    | true =>
     obtain ⟨q',hq',hc⟩:=hcall q hq
     refine ⟨q',hq',?_⟩
     simp only [q0V,Bool.not_true,q00,Bool.false_eq_true,if_false,q5y,q06,hc,q01,q02,q07,q0r,q0q,q0o,q0p,q19,q18,q54,q3s,Option.getD_some,q0k]
     rw [qhj n _ hlen _ _ _ _ _ _ _ _ _ _ _ _ _ _ _ (ins 0 acc) hu0 (by omega)]
     simp only [q0X,q01,q06,q7o,q02,q07,q0r,q0q,q0o,q0p,q19,q18,q00,q0U,hw,q0b,hfs]
     rfl
  ·rw [if_pos (by simp [h2])]
   simp only [if_neg (fun h=>h2 h.2:¬ (e.a=who∧q2p e.f1 e.t2 d=true))]
   exact ⟨q,hq,rfl⟩
 ·rw [if_pos (by simp [h1])]
  simp only [if_neg (fun h=>h1 h.1:¬ (e.a=who∧q2p e.f1 e.t2 d=true))]
  exact ⟨q,hq,rfl⟩
set_option maxRecDepth 20000 in
theorem rd82_7 (n:Nat) (a b c:Option (List E9)) (o:Option (List E5)) (d who:Int) (no yes:Bool) (m:Nat) (e:E9) (he:(a.getD [])[m]?=some e) (hb0:¬ e.b=0) (hw:IntKind.i64.wrap (((m:Nat):Int) - 1)=((m:Nat):Int) - 1)
  (hne:q0c d (b.getD []) e.b≠[]) (hlen:(q0c d (b.getD []) e.b).length≤1000000)
  (hcall:∀ q:Mr,q5t d (b.getD []) q→∃ q':Mr,q5t d (b.getD []) q'∧FN (n+4) 1000161 [q0T a b c o,il d,.mp false q.1 q.2,il e.b,q0T a b c o,il d]=some (0,[.d (dI (some (q0c d (b.getD []) e.b))),.d (q0T a b c o),.d (il d),.d (.mp false q'.1 q'.2)]))
  (acc:List Int) (q:Mr) (hu:Up acc) (ha:acc.length≤900) (hq:q5t d (b.getD []) q) (k:Nat→List Yr→Out):∃ q':Mr,q5t d (b.getD []) q'∧q9N (RP (n+4)) k (qc0 d who (q0T a b c o) no yes (m+1) acc q) =
   if e.a=who∧q2p e.f1 e.t2 d=true then (if q2c e.f2 e.t1 d=true then some (4,qbY d who (q0T a b c o) no yes (q0G (q0c d (b.getD [])) yes no (some e.b) acc) q') else k 2 (qc0 d who (q0T a b c o) no yes m (q0G (q0c d (b.getD [])) yes no (some e.b) acc) q')) else k 2 (qc0 d who (q0T a b c o) no yes m acc q'):=by
 have hm:(((m+1:Nat):Int) - 1)=((m:Nat):Int):=by omega
 have h157:=s157 (n+3) a b c o m e who he
 have hput:=q1C n acc 0 (by omega) hu
 simp only [qc0,qbY,hm,q9N,q02,q07,q0r,q0q,q0o,q0p,q19,q18,q04,q1q,q00]
 rw [if_pos (by simp)]
 simp only [q06,h157,q01,q02,q07,q0r,q0q,q0o,q0p,q19,q18,q0V,q00,q0U,hw]
 by_cases h1:e.a=who
 ·rw [if_neg (by simp [h1])]
  simp only [qf4,q01,q02,q0V,q00]
  by_cases h2:q2p e.f1 e.t2 d=true
  ·rw [if_neg (by simp [h2])]
   simp only [if_pos (⟨h1,h2⟩:e.a=who∧q2p e.f1 e.t2 d=true)]
   simp only [q0F,hb0,decide_false,q00,Bool.false_eq_true,if_false]
   cases no with
   | false =>
    have hfs:q0G (q0c d (b.getD [])) yes false (some e.b) acc=if yes=true then q0n acc (q0c d (b.getD []) e.b) else acc:=by cases yes<;>simp [q0G,f0,hb0]
    simp only [Bool.false_eq_true,if_false,q01,q02,q07,q0r,q0q,q0o,q0p,q19,q18,q0F,hb0,decide_false,q00,q0b]
    cases yes with
    | false =>
     refine ⟨q,hq,?_⟩
     simp only [q0V,Bool.not_false,q00,if_true,q06,q7o,q01,q02,q07,q0r,q0q,q0o,q0p,q19,q18,q0U,hw,hfs]
     rfl
    | true =>
     obtain ⟨q',hq',hc⟩:=hcall q hq
     refine ⟨q',hq',?_⟩
     simp only [q0V,Bool.not_true,q00,Bool.false_eq_true,if_false,q5y,q06,hc,q01,q02,q07,q0r,q0q,q0o,q0p,q19,q18,q54,q3s,Option.getD_some,q0k]
     rw [qhi n _ hlen _ _ _ _ _ _ _ _ _ _ _ _ _ _ _ acc hu (by omega)]
     simp only [q0X,q01,q06,q7o,q02,q07,q0r,q0q,q0o,q0p,q19,q18,q00,q0U,hw,q0b,hfs]
     rfl
   | true =>
    have hu0:=q3S 0 hu
    have hl0:=q3e 0 acc
    have hfs:q0G (q0c d (b.getD [])) yes true (some e.b) acc=if yes=true then q0n (ins 0 acc) (q0c d (b.getD []) e.b) else ins 0 acc:=by cases yes<;>simp [q0G,f0,hb0]
    simp only [if_true,q0x,List.length_map,q0O,q1D,hput,q17,q01,q02,q07,q0r,q0q,q0o,q0p,q19,q18,q0F,hb0,decide_false,q00,Bool.false_eq_true,if_false,q0b]
    cases yes with
    | false =>
     refine ⟨q,hq,?_⟩
     simp only [q0V,Bool.not_false,q00,if_true,q06,q7o,q01,q02,q07,q0r,q0q,q0o,q0p,q19,q18,q0U,hw,hfs]
     rfl
    | true =>
     obtain ⟨q',hq',hc⟩:=hcall q hq
     refine ⟨q',hq',?_⟩
     simp only [q0V,Bool.not_true,q00,Bool.false_eq_true,if_false,q5y,q06,hc,q01,q02,q07,q0r,q0q,q0o,q0p,q19,q18,q54,q3s,Option.getD_some,q0k]
     rw [qhi n _ hlen _ _ _ _ _ _ _ _ _ _ _ _ _ _ _ (ins 0 acc) hu0 (by omega)]
     simp only [q0X,q01,q06,q7o,q02,q07,q0r,q0q,q0o,q0p,q19,q18,q00,q0U,hw,q0b,hfs]
     rfl
  ·rw [if_pos (by simp [h2])]
   simp only [if_neg (fun h=>h2 h.2:¬ (e.a=who∧q2p e.f1 e.t2 d=true))]
   exact ⟨q,hq,rfl⟩
 ·rw [if_pos (by simp [h1])]
  simp only [if_neg (fun h=>h1 h.1:¬ (e.a=who∧q2p e.f1 e.t2 d=true))]
  exact ⟨q,hq,rfl⟩
set_option maxRecDepth 20000 in
theorem rd82_3 (n:Nat) (a b c:Option (List E9)) (o:Option (List E5)) (d who:Int) (no yes:Bool) (m:Nat) (e:E9) (he:(a.getD [])[m]?=some e) (hb0:¬ e.b=0) (hw:IntKind.i64.wrap (((m:Nat):Int) - 1)=((m:Nat):Int) - 1)
  (hne:q0c d (b.getD []) e.b≠[]) (hlen:(q0c d (b.getD []) e.b).length≤1000000)
  (hcall:∀ q:Mr,q5t d (b.getD []) q→∃ q':Mr,q5t d (b.getD []) q'∧FN (n+4) 1000161 [q0T a b c o,il d,.mp false q.1 q.2,il e.b,q0T a b c o,il d]=some (0,[.d (dI (some (q0c d (b.getD []) e.b))),.d (q0T a b c o),.d (il d),.d (.mp false q'.1 q'.2)]))
  (hyn:yes=false→no=true) (q:Mr) (hq:q5t d (b.getD []) q) (k:Nat→List Yr→Out):∃ q':Mr,q5t d (b.getD []) q'∧q9P (RP (n+4)) k (qgV d who (q0T a b c o) no yes (m+1) q) =
   if e.a=who∧q2p e.f1 e.t2 d=true then (if q2c e.f2 e.t1 d=true then some (if no=true then 2 else 4,qbY d who (q0T a b c o) no yes (q0G (q0c d (b.getD [])) yes no (some e.b) []) q') else k (if no=true then 1 else 2) (qc0 d who (q0T a b c o) no yes m (q0G (q0c d (b.getD [])) yes no (some e.b) []) q')) else k 0 (qgV d who (q0T a b c o) no yes m q'):=by
 have hm:(((m+1:Nat):Int) - 1)=((m:Nat):Int):=by omega
 have h157:=s157 (n+3) a b c o m e who he
 simp only [qgV,tz82,hm,q9P,q02,q07,q0r,q0q,q0o,q0p,q19,q18,q04,q1q,q00]
 rw [if_pos (by simp)]
 simp only [q06,h157,q01,q02,q07,q0r,q0q,q0o,q0p,q19,q18,q0V,q00,q0U,hw]
 by_cases h1:e.a=who
 ·rw [if_neg (by simp [h1])]
  simp only [qf4,q01,q02,q0V,q00]
  by_cases h2:q2p e.f1 e.t2 d=true
  ·rw [if_neg (by simp [h2])]
   simp only [if_pos (⟨h1,h2⟩:e.a=who∧q2p e.f1 e.t2 d=true)]
   simp only [q0F,hb0,decide_false,q00,Bool.false_eq_true,if_false]
   cases no with
   | false =>
    cases yes with
    | false=>exact absurd (hyn rfl) (by simp)
    | true =>
     have hfs:q0G (q0c d (b.getD [])) true false (some e.b) []=q0n [] (q0c d (b.getD []) e.b):=by simp [q0G,f0,hb0]
     obtain ⟨q',hq',hc⟩:=hcall q hq
     refine ⟨q',hq',?_⟩
     simp only [Bool.false_eq_true,if_false,q01,q02,q07,q0r,q0q,q0o,q0p,q19,q18,q0F,hb0,decide_false,q00,q0b,q0V,Bool.not_true,q5y,q06,hc,q54,q3s,Option.getD_some,q0k]
     rw [qi9 n _ hlen hne]
     simp only [q0X,q01,q06,q7o,q02,q07,q0r,q0q,q0o,q0p,q19,q18,q00,q0U,hw,q0b,hfs]
     rfl
   | true =>
    have hfs:q0G (q0c d (b.getD [])) yes true (some e.b) []=if yes=true then q0n [0] (q0c d (b.getD []) e.b) else [0]:=by cases yes<;>simp [q0G,f0,hb0,ins]
    simp only [if_true,q06,q1p,qhd,q01,q02,q07,q0r,q0q,q0o,q0p,q19,q18,q00,Bool.false_eq_true,if_false]
    rw [put0]
    simp only [q10,q0H,q0x,q0A,List.length_cons,List.length_nil,List.take_succ_cons,List.take_zero,q0b,q0X,q01,q02,q07,q0r,q0q,q0o,q0p,q19,q18,q0F,hb0,decide_false,q00,Bool.false_eq_true,if_false]
    cases yes with
    | false =>
     refine ⟨q,hq,?_⟩
     simp only [q0V,Bool.not_false,q00,if_true,q06,q7o,q01,q02,q07,q0r,q0q,q0o,q0p,q19,q18,q0U,hw,hfs]
     rfl
    | true =>
     obtain ⟨q',hq',hc⟩:=hcall q hq
     refine ⟨q',hq',?_⟩
     simp only [q0V,Bool.not_true,q00,Bool.false_eq_true,if_false,q5y,q06,hc,q01,q02,q07,q0r,q0q,q0o,q0p,q19,q18,q54,q3s,Option.getD_some,q0k]
     rw [show ([0].map rI)=[0].map rI from rfl,show (0+1:Nat)=[(0:Int)].length from rfl,li82_2 n _ hlen _ _ _ _ _ _ _ _ _ _ _ _ _ _ _ [0] (by simp) (by simp)]
     simp only [q0X,q01,q06,q7o,q02,q07,q0r,q0q,q0o,q0p,q19,q18,q00,q0U,hw,q0b,hfs]
     rfl
  ·rw [if_pos (by simp [h2])]
   simp only [if_neg (fun h=>h2 h.2:¬ (e.a=who∧q2p e.f1 e.t2 d=true))]
   exact ⟨q,hq,rfl⟩
 ·rw [if_pos (by simp [h1])]
  simp only [if_neg (fun h=>h1 h.1:¬ (e.a=who∧q2p e.f1 e.t2 d=true))]
  exact ⟨q,hq,rfl⟩
end Go.VE
namespace Go.VE
open Go.RowKit Go.Proofs
theorem q3R {acc:List Int} (hu:Up acc) (h:∀ z∈acc,0≤z∧z≤99):acc.length≤100:=by
 have:=q8Q acc 0 99 hu h
 omega
def en82 (d who:Int) (kin:D) (no yes:Bool) (s:Nat×Bool×List Int×Mr):Nat×List Yr:=match s.2.2.1 with
 | []=>(0,qgV d who kin no yes s.1 s.2.2.2)
 | y::r=>(if s.2.1=true then 1 else 2,qc0 d who kin no yes s.1 (y::r) s.2.2.2)
theorem qbw (d who:Int) (kin:D) (no yes:Bool) (m:Nat) (j:Bool) (q:Mr):en82 d who kin no yes (m,j,[],q)=(0,qgV d who kin no yes m q):=rfl
theorem q75 (d who:Int) (kin:D) (no yes:Bool) (m:Nat) (j:Bool) {acc:List Int} (q:Mr) (h:acc≠[]):en82 d who kin no yes (m,j,acc,q)=(if j=true then 1 else 2,qc0 d who kin no yes m acc q):=by
 cases acc with
 | nil=>exact absurd rfl h
 | cons _ _=>rfl
def Q82 (d who:Int) (kin:D) (no yes:Bool) (T:List Int) (r:Out):Prop:=∃ (acc:List Int) (q:Mr),Up acc∧acc.length≤900 ∧
 ((acc≠[]∧∃ j:Nat,(((j=2∨j=4)∧acc=T)∨((j=3∨j=5)∧ins 0 acc=T))∧r=some (j,qbY d who kin no yes acc q))∨(r=some (0,tz82 d who kin no yes q)∧acc=[]∧ins 0 []=T))
theorem qcs {L:Int→List Int} {yes no:Bool} (hyn:yes=false→no=true) {w:Int} (hw:¬ w=0) (hL:L w≠[]) (acc:List Int):q0G L yes no (some w) acc≠[]:=by
 unfold q0G
 have:¬ f0 (some w)=0:=hw
 cases yes with
 | false=>have:=hyn rfl;subst this;simp;exact q6V _ _
 | true=>simp only [this,false_or,Bool.true_eq_false,if_false];exact q3t _ hL
set_option maxRecDepth 20000 in
theorem l82 (n:Nat) (a b c:Option (List E9)) (o:Option (List E5)) (d who:Int) (no yes:Bool) (hyn:yes=false→no=true) (ha:qgI (a.getD [])) (hla:(a.getD []).length≤1000000) (hb:q7i (b.getD []))
  (hrec:∀ (w:Int) (q:Mr),1≤w→w≤99→q5t d (b.getD []) q→∃ q':Mr,q5t d (b.getD []) q'∧FN (n+4) 1000161 [q0T a b c o,il d,.mp false q.1 q.2,il w,q0T a b c o,il d]=some (0,[.d (dI (some (q0c d (b.getD []) w))),.d (q0T a b c o),.d (il d),.d (.mp false q'.1 q'.2)])) :
  Q82 d who (q0T a b c o) no yes (qai (q0c d (b.getD [])) yes no (q11 d who (q0m (a.getD []) (a.getD []).length)) []) (q0I [q9P (RP (n+4)),q9O (RP (n+4)),q9N (RP (n+4))] M0 0 (qgV d who (q0T a b c o) no yes (a.getD []).length ([],[]))):=by
 generalize hT:qai (q0c d (b.getD [])) yes no (q11 d who (q0m (a.getD []) (a.getD []).length)) []=T
 refine q47 (σ:=Nat×Bool×List Int×Mr) [q9P (RP (n+4)),q9O (RP (n+4)),q9N (RP (n+4))] (en82 d who (q0T a b c o) no yes) (fun s=>s.1)
  (fun s=>s.1≤(a.getD []).length∧Up s.2.2.1∧(∀ z∈s.2.2.1,0≤z∧z≤99)∧q5t d (b.getD []) s.2.2.2∧qai (q0c d (b.getD [])) yes no (q11 d who (q0m (a.getD []) s.1)) s.2.2.1=T)
  (Q82 d who (q0T a b c o) no yes T) ?_ M0 ((a.getD []).length,true,[],([],[])) ⟨Nat.le_refl _,by simp,by simp,qbe _ _,hT⟩ (by unfold M0;simp only;omega)
 clear hT
 rintro ⟨m,j,acc,q⟩ k ⟨g1,g2,g3,g4,g5⟩ ih
 simp only at g1 g2 g3 g4 g5 ih
 have gl:=q3R g2 g3
 cases m with
 | zero =>
  rw [q3z] at g5
  have g6:ins 0 acc=T:=by rw [←g5];simp [q11,qai,q0G,f0]
  cases acc with
  | nil =>
   refine ⟨q9P (RP (n+4)),rfl,[],q,g2,by simp,.inr ⟨?_,rfl,g6⟩⟩
   simp [qbw,qgV,tz82,q9P]
  | cons y r =>
   cases j with
   | true =>
    refine ⟨q9O (RP (n+4)),rfl,y::r,q,g2,by omega,.inl ⟨by simp,3,.inr ⟨.inl rfl,g6⟩,?_⟩⟩
    simp [en82,qc0,qbY,q9O]
   | false =>
    refine ⟨q9N (RP (n+4)),rfl,y::r,q,g2,by omega,.inl ⟨by simp,5,.inr ⟨.inr rfl,g6⟩,?_⟩⟩
    simp [en82,qc0,qbY,q9N]
 | succ m =>
  obtain ⟨e,he⟩:∃ e,(a.getD [])[m]?=some e:=⟨_,List.getElem?_eq_getElem (by omega)⟩
  rw [q2H he,q11] at g5
  have hw:IntKind.i64.wrap (((m:Nat):Int) - 1)=((m:Nat):Int) - 1:=q0l (by omega) (by omega)
  have hbe:=ha e (List.mem_of_getElem? he)
  have hb0:¬ e.b=0:=by omega
  have hne:q0c d (b.getD []) e.b≠[]:=fun h=>by
   obtain ⟨z,hz⟩:=q4a hb (d:=d) _ e.b (Nat.le_refl _) hbe.1
   rw [h] at hz;simp at hz
  have hlen:=q3r (d:=d) hb hbe.1
  have hcall:=fun q hq=>hrec e.b q hbe.1 hbe.2 hq
  have hfne:=qcs (L:=q0c d (b.getD [])) hyn hb0 hne acc
  have hfu:=q7E (q0c d (b.getD [])) yes no (some e.b) g2
  have hfr:∀ z∈q0G (q0c d (b.getD [])) yes no (some e.b) acc,0≤z∧z≤99:=fun z hz=>by
   rcases (q6I _ _ _ _ _ _).1 hz with h | ⟨rfl,_⟩ | ⟨_,_,h⟩
   ·exact g3 z h
   ·omega
   ·have:=q0Z hb _ e.b z (Nat.le_refl _) hbe.1 h;omega
  have hfl:=q3R hfu hfr
  cases acc with
  | nil =>
   obtain ⟨q',hq',hr⟩:=rd82_3 n a b c o d who no yes m e he hb0 hw hne (by omega) hcall hyn q g4 k
   refine ⟨q9P (RP (n+4)),rfl,?_⟩
   rw [qbw]
   simp only
   rw [hr]
   by_cases hc:e.a=who∧q2p e.f1 e.t2 d=true
   ·rw [if_pos hc] at g5 ⊢
    rw [qai] at g5
    by_cases h3:q2c e.f2 e.t1 d=true
    ·rw [if_pos h3] at g5 ⊢
     refine ⟨q0G (q0c d (b.getD [])) yes no (some e.b) [],q',hfu,by omega,.inl ⟨hfne,_,.inl ⟨?_,g5⟩,rfl⟩⟩
     cases no<;>simp
    ·rw [if_neg h3] at g5 ⊢
     have:=ih (m,no,q0G (q0c d (b.getD [])) yes no (some e.b) [],q') ⟨by simp only;omega,hfu,hfr,hq',g5⟩ (by simp only;omega)
     rw [q75 _ _ _ _ _ _ _ _ hfne] at this
     exact this
   ·rw [if_neg hc] at g5 ⊢
    exact ih (m,true,[],q') ⟨by simp only;omega,g2,g3,hq',g5⟩ (by simp only;omega)
  | cons y r =>
   cases j with
   | true =>
    obtain ⟨q',hq',hr⟩:=rd82_5 n a b c o d who no yes m e he hb0 hw hne (by omega) hcall (y::r) q g2 (by omega) g4 k
    refine ⟨q9O (RP (n+4)),rfl,?_⟩
    rw [q75 _ _ _ _ _ _ _ _ (by simp)]
    simp only
    rw [hr]
    by_cases hc:e.a=who∧q2p e.f1 e.t2 d=true
    ·rw [if_pos hc] at g5 ⊢
     rw [qai] at g5
     by_cases h3:q2c e.f2 e.t1 d=true
     ·rw [if_pos h3] at g5 ⊢
      exact ⟨q0G (q0c d (b.getD [])) yes no (some e.b) (y::r),q',hfu,by omega,.inl ⟨hfne,_,.inl ⟨.inl rfl,g5⟩,rfl⟩⟩
     ·rw [if_neg h3] at g5 ⊢
      have:=ih (m,true,q0G (q0c d (b.getD [])) yes no (some e.b) (y::r),q') ⟨by simp only;omega,hfu,hfr,hq',g5⟩ (by simp only;omega)
      rw [q75 _ _ _ _ _ _ _ _ hfne] at this
      exact this
    ·rw [if_neg hc] at g5 ⊢
     exact ih (m,true,y::r,q') ⟨by simp only;omega,g2,g3,hq',g5⟩ (by simp only;omega)
   | false =>
    obtain ⟨q',hq',hr⟩:=rd82_7 n a b c o d who no yes m e he hb0 hw hne (by omega) hcall (y::r) q g2 (by omega) g4 k
    refine ⟨q9N (RP (n+4)),rfl,?_⟩
    rw [q75 _ _ _ _ _ _ _ _ (by simp)]
    simp only
    rw [hr]
    by_cases hc:e.a=who∧q2p e.f1 e.t2 d=true
    ·rw [if_pos hc] at g5 ⊢
     rw [qai] at g5
     by_cases h3:q2c e.f2 e.t1 d=true
     ·rw [if_pos h3] at g5 ⊢
      exact ⟨q0G (q0c d (b.getD [])) yes no (some e.b) (y::r),q',hfu,by omega,.inl ⟨hfne,_,.inl ⟨.inr rfl,g5⟩,rfl⟩⟩
     ·rw [if_neg h3] at g5 ⊢
      have:=ih (m,false,q0G (q0c d (b.getD [])) yes no (some e.b) (y::r),q') ⟨by simp only;omega,hfu,hfr,hq',g5⟩ (by simp only;omega)
      rw [q75 _ _ _ _ _ _ _ _ hfne] at this
      exact this
    ·rw [if_neg hc] at g5 ⊢
     exact ih (m,false,y::r,q') ⟨by simp only;omega,g2,g3,hq',g5⟩ (by simp only;omega)
set_option maxRecDepth 20000 in
theorem s82 (n:Nat) (a b c:Option (List E9)) (o:Option (List E5)) (d who:Int) (hd:0≤d∧d≤4166) (ha:qgI (a.getD [])) (hb:q7i (b.getD [])) (hla:(a.getD []).length≤1000000) (hlb:(b.getD []).length≤1000000) (hlc:(c.getD []).length≤1000000) (hlo:(o.getD []).length≤1000000) :
  FN (n+105) 82 [d9 a,d9 b,d9 c,d5 o,il who,il d]=some (0,[.d (dI (some (q38 (a.getD []) (b.getD []) (c.getD []) (o.getD []) d who)))]):=by
 rw [F82]
 have hloop:=l82 (n+100) a b c o d who (goP (a.getD []) (c.getD []) (o.getD []) d who).2 (goP (a.getD []) (c.getD []) (o.getD []) d who).1 (qe1 _ _ _ _ _) ha hla hb
  (fun w q hw1 hw2 hq=>s161 a b c o d hb hlb 99 n w q hw1 (by omega) hw2 hq)
 rw [show n+100+4=n+104 from rfl] at hloop
 have hp:∀ k:List D→Out,(RP (n+104)).ptrW 4 (.dp [d9 a,d9 b,d9 c,d5 o] 0) k=k [d9 a,d9 b,d9 c,d5 o]:=fun k=>q26 _ 4 k rfl
 have w2:IntKind.i64.wrap (((a.getD []).length:Int) - 1)=((a.getD []).length:Int) - 1:=q0l (by omega) (by omega)
 simp only [G82,q06,s163 (n+97) a b c o d who hd hla hlc hlo,q01,q02,q07,q6a,q3H,hp,q0a,q6O,q04,q0U,w2,q0k,qhY]
 simp only [qgV,tz82,q0T] at hloop
 rw [show q38 (a.getD []) (b.getD []) (c.getD []) (o.getD []) d who=qai (q0c d (b.getD [])) (goP (a.getD []) (c.getD []) (o.getD []) d who).1 (goP (a.getD []) (c.getD []) (o.getD []) d who).2 (q11 d who (q0m (a.getD []) (a.getD []).length)) [] from rfl]
 generalize qai (q0c d (b.getD [])) (goP (a.getD []) (c.getD []) (o.getD []) d who).1 (goP (a.getD []) (c.getD []) (o.getD []) d who).2 (q11 d who (q0m (a.getD []) (a.getD []).length)) []=T at hloop ⊢
 obtain ⟨acc,q,hu,hl,⟨hne,j,hj,hr⟩ | ⟨hr,_,hT⟩⟩:=hloop
 ·rw [hr]
  have hput:=q1C (n+100) acc 0 (by omega) hu
  rw [show n+100+4=n+104 from rfl] at hput
  rcases hj with ⟨rfl | rfl,rfl⟩ | ⟨rfl | rfl,rfl⟩
  ·simp [qbY,q0X,q77]
  ·simp [qbY,q0X,q77]
  ·simp [qbY,q0X,hput,q77]
  ·simp [qbY,q0X,hput,q77]
 ·rw [hr,← hT]
  simp only [tz82,q01,q0F,decide_true,q00,if_true,q06,q1p,qhd,q02,q07,Bool.false_eq_true,if_false]
  rw [put0]
  simp [q0X,dI,dSl,ins,rI]
end Go.VE
