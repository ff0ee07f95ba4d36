/- Family: loops that put numbers into a list; maps of what is known. -/
import Derived.Test.YtobeabinccohlaaGreatMg2
namespace Go.VE
open Go.RowKit Go.Proofs
theorem q8r (l:List Int) (hl:l.length≤1000000) (body:(Nat→List Yr→Out)→List Yr→Out) (st:Nat→List Int→List Yr) (ex:List Int→Out) (N:Nat)
  (h0:∀ acc k,body k (st l.length acc)=ex acc)
  (h1:∀ (i:Nat) c acc (k:Nat→List Yr→Out),l[i]?=some c→(i:Int) < (l.length:Int)→IntKind.i64.wrap ((i:Int)+1)=((i+1:Nat):Int)→Up acc→acc.length≤N+1000000→body k (st i acc)=k 0 (st (i+1) (ins c acc)))
  (acc:List Int) (hu:Up acc) (hN:acc.length≤N):q0p [body] M0 0 (st 0 acc)=ex (q06 acc l):=by
 refine q0u l (by omega) body st (fun i acc=>Up acc∧acc.length≤N+i) (fun _ r acc=>ex (q06 acc r)) (fun b k _=>h0 b k) ?_ M0 acc ⟨hu,by omega⟩ (by unfold M0;omega)
 intro i c r acc k hi hd hlt hw hI ih
 obtain ⟨g1,g2⟩:=hI
 rw [h1 i c acc k hi (by omega) (by rw [hw];simp) g1 (by omega)]
 have:=q31 c acc
 rw [ih (ins c acc) ⟨q35 c g1,by omega⟩]
 rfl
def enI (z:Nat→List Yr) (st:Nat→List Int→List Yr) (s:Nat×List Int):Nat×List Yr:=match s.2 with
 | []=>(0,z s.1)
 | y::r=>(1,st s.1 (y::r))
theorem q7Q (z:Nat→List Yr) (st:Nat→List Int→List Yr) {i:Nat} {acc:List Int} (h:acc≠[]):enI z st (i,acc)=(1,st i acc):=by
 cases acc with
 | nil=>exact absurd rfl h
 | cons _ _=>rfl
theorem qai (l:List Int) (hl:l.length≤1000000) (hne:l≠[]) (b0 b1:(Nat→List Yr→Out)→List Yr→Out) (z:Nat→List Yr) (st:Nat→List Int→List Yr) (ex:List Int→Out)
  (h0:∀ acc k,b1 k (st l.length acc)=ex acc)
  (hz:∀ c (k:Nat→List Yr→Out),l[0]?=some c→(0:Int) < (l.length:Int)→b0 k (z 0)=k 1 (st 1 [c]))
  (h1:∀ (i:Nat) c acc (k:Nat→List Yr→Out),l[i]?=some c→(i:Int) < (l.length:Int)→IntKind.i64.wrap ((i:Int)+1)=((i+1:Nat):Int)→Up acc→acc.length≤1000000→b1 k (st i acc)=k 1 (st (i+1) (ins c acc))) :
  q0p [b0,b1] M0 0 (z 0)=ex (q06 [] l):=by
 refine q2A (σ:=Nat×List Int) [b0,b1] (enI z st) (fun s=>l.length - s.1) (fun s=>s.1≤l.length∧Up s.2∧s.2.length≤s.1∧(s.2=[]→s.1=0)) (fun s=>ex (q06 s.2 (l.drop s.1))) ?_ M0 (0,[]) ⟨by simp,by simp,by simp,fun _=>rfl⟩ (by unfold M0;simp only;omega)
 rintro ⟨i,acc⟩ k ⟨g1,g2,g3,g4⟩ ih
 simp only at g1 g2 g3 g4 ih ⊢
 by_cases h:i < l.length
 ·have hd:=List.drop_eq_getElem_cons h
  have hi:l[i]?=some l[i]:=List.getElem?_eq_getElem h
  have ih':=ih (i+1,ins l[i] acc) ⟨by simp only;omega,q35 _ g2,by have:=q31 l[i] acc;simp only;omega,fun h=>absurd h (qbG _ _)⟩ (by simp only;omega)
  rw [hd,q4I]
  rw [q7Q _ _ (qbG _ _)] at ih'
  by_cases ha:acc=[]
  ·subst ha
   have hi0:=g4 rfl
   subst hi0
   exact ⟨b0,rfl,by rw [show (enI z st (0,[])).2=z 0 from rfl,hz _ k hi (by omega)];exact ih'⟩
  ·rw [q7Q _ _ ha]
   exact ⟨b1,rfl,by simp only;rw [h1 i _ acc k hi (by omega) (by rw [q0l (by omega) (by omega)];simp) g2 (by omega)];exact ih'⟩
 ·have hil:i=l.length:=by omega
  subst hil
  have ha:acc≠[]:=fun h=>hne (List.eq_nil_of_length_eq_zero (g4 h))
  rw [q7Q _ _ ha]
  exact ⟨b1,rfl,by simp only [List.drop_length];exact h0 acc k⟩
section
variable {Fn:Nat→List D→Out} {FnD:D→List Sh→List D→Out} {m:Nat}
theorem q50 (q:Mr) (k:Mr→Out):(q04 Fn FnD m).asM false (.mp false q.1 q.2) k=k q:=rfl
theorem q5y (q:Mr):(q04 Fn FnD m).mpD false q=.mp false q.1 q.2:=rfl
theorem qdA (kd:Nat) (mm:Mr) (key:D) (ds:List D) (k:Mr→Out):(q04 Fn FnD m).upd kd mm key ds k=match qic kd mm key ds with
  | some p=>k p
  | none=>none:=rfl
end
def q5q (d:Int) (b:List E9) (q:Mr):Prop:=q.1.length=q.2.length∧∀ (j:Nat) v,q.1[j]?=some v→∃ f:Int,v=.int .i64 f∧q.2[j]?=some [dI (some (q0f d b f))]
theorem qbw (d:Int) (b:List E9):q5q d b ([],[]):=⟨rfl,fun j v h=>by simp at h⟩
theorem q70 (f:Int):∀ (keys:List Value) (i:Nat),(∀ v∈keys,∃ g:Int,v=.int .i64 g)→(q3y 0 (.int .i64 f) keys i=some none∨∃ j,q3y 0 (.int .i64 f) keys i=some (some (i+j))∧keys[j]?=some (.int .i64 f))
 | [],i,_=>.inl rfl
 | x::r,i,h=>by
  obtain ⟨g,rfl⟩:=h x (by simp)
  have ih:=q70 f r (i+1) fun v hv=>h v (List.mem_cons_of_mem _ hv)
  have e:q3y 0 (.int .i64 f) (.int .i64 g::r) i=if f=g then some (some i) else q3y 0 (.int .i64 f) r (i+1):=by
   simp only [q3y,kEq,if_true]
   by_cases hfg:f=g
   ·subst hfg;simp
   ·have:(f==g)=false:=by simp [hfg]
    simp [this,hfg]
  rw [e]
  by_cases hfg:f=g
  ·subst hfg;exact .inr ⟨0,by simp⟩
  ·rw [if_neg hfg]
   rcases ih with ih | ⟨j,h1,h2⟩
   ·exact .inl ih
   ·exact .inr ⟨j+1,by rw [h1];congr 2;omega,by simpa using h2⟩
theorem q9k {d:Int} {b:List E9} {q:Mr} (h:q5q d b q):∀ v∈q.1,∃ g:Int,v=.int .i64 g:=fun v hv=>by
 obtain ⟨j,hj⟩:=List.getElem?_of_mem hv
 obtain ⟨f,hf,_⟩:=h.2 j v hj
 exact ⟨f,hf⟩
theorem qdW {d:Int} {b:List E9} {q:Mr} (h:q5q d b q) (f:Int):q8l 0 [.slice none 0 0] q (il f)=some ([dI (some (q0f d b f))],bl true)∨q8l 0 [.slice none 0 0] q (il f)=some ([.lit (.slice none 0 0)],bl false):=by
 rcases q70 f q.1 0 (q9k h) with e | ⟨j,e,hj⟩
 ·right;simp only [q8l,qhw,il,q6T,if_true,e];rfl
 ·left
  obtain ⟨g,hg,h2⟩:=h.2 j _ hj
  cases hg
  rw [Nat.zero_add] at e
  simp only [q8l,qhw,il,q6T,if_true,e,h2];rfl
theorem qg2 {d:Int} {b:List E9} {q:Mr} (h:q5q d b q) (f:Int):∃ q',qic 0 q (il f) [dI (some (q0f d b f))]=some q'∧q5q d b q':=by
 rcases q70 f q.1 0 (q9k h) with e | ⟨j,e,hj⟩
 ·refine ⟨(q.1++[.int .i64 f],q.2++[[dI (some (q0f d b f))]]),by simp only [qic,qhw,il,q6T,if_true,e],by simp [h.1],?_⟩
  intro j v hv
  simp only at hv ⊢
  by_cases hj:j < q.1.length
  ·rw [List.getElem?_append_left hj] at hv
   obtain ⟨g,h1,h2⟩:=h.2 j v hv
   exact ⟨g,h1,by rw [List.getElem?_append_left (by rw [←h.1];exact hj)];exact h2⟩
  ·have hj2:j=q.1.length:=by
    have:=List.getElem?_eq_some_iff.1 hv
    obtain ⟨h3,_⟩:=this
    simp at h3;omega
   subst hj2
   simp at hv
   exact ⟨f,hv.symm,by rw [h.1];simp⟩
 ·rw [Nat.zero_add] at e
  refine ⟨(q.1,q.2.set j [dI (some (q0f d b f))]),by simp only [qic,qhw,il,q6T,if_true,e],by simp [h.1],?_⟩
  intro i v hv
  simp only at hv ⊢
  obtain ⟨g,h1,h2⟩:=h.2 i v hv
  refine ⟨g,h1,?_⟩
  by_cases hij:j=i
  ·subst hij
   rw [hj] at hv
   cases hv
   have:f=g:=by cases h1;rfl
   subst this
   have hjl:j < q.2.length:=by
    obtain ⟨h3,_⟩:=List.getElem?_eq_some_iff.1 h2
    exact h3
   simp [hjl]
  ·rw [List.getElem?_set_ne hij];exact h2
end Go.VE
namespace Go.VE
open Go.RowKit Go.Proofs
attribute [local simp] q50 q5y
theorem put0 {m:Nat} {Fn:Nat→List D→Out} {FnD:D→List Sh→List D→Out} (c:Int) (k:Rr→Out) (e:Out):((q04 Fn FnD m).eqN ((q04 Fn FnD m).natN 1) ((q04 Fn FnD m).len ((q04 Fn FnD m).rows [[il c]])) ((q04 Fn FnD m).isNil ((q04 Fn FnD m).seg ((q04 Fn FnD m).rows [[il c]]) none ((q04 Fn FnD m).natN 1)) e ((q04 Fn FnD m).fits 8 ((q04 Fn FnD m).len ((q04 Fn FnD m).seg ((q04 Fn FnD m).rows [[il c]]) none ((q04 Fn FnD m).natN 1))) ((q04 Fn FnD m).ins (il 0) ((q04 Fn FnD m).rows []) ((q04 Fn FnD m).seg ((q04 Fn FnD m).rows [[il c]]) none ((q04 Fn FnD m).natN 1)) k))))=k ([c].map rI):=by
 simp only [q1i,q0K,q0Q,q0M,List.length_cons,List.length_nil,q0T,List.take_succ_cons,List.take_zero,q1O,q19]
 rw [if_pos (by simp),if_pos (by simp []),qbo];rfl
theorem qha (q:List Int):(q.map rI).take q.length=q.map rI:=List.take_of_length_le (by simp)
set_option maxRecDepth 20000 in
theorem li01 (n:Nat) (L:List Int) (hL:L.length≤1000000) (hne:L≠[]) (q:Mr) (x3 x4 x6 x7 x8 x9 x10 x11 x12 x13:D) :
  q0p [q5Y (RP (n+4)),q4p (RP (n+4))] M0 0 [.d (dI (some L)),.d (il L.length),.d (il 0),.d x3,.d x4,.m q,.d x6,.d x7,.d x8,.d x9,.d x10,.d x11,.d x12,.d x13] =
   some (1,[.r ((q06 [] L).map rI),.d x3,.d x4,.m q,.d x6,.d x7,.n (q06 [] L).length,.n (q06 [] L).length,.d x8,.d x9,.d x10,.d x11,.d x12,.d x13]):=by
 refine qai L hL hne _ _ (fun i=>[.d (dI (some L)),.d (il L.length),.d (il (i:Nat)),.d x3,.d x4,.m q,.d x6,.d x7,.d x8,.d x9,.d x10,.d x11,.d x12,.d x13])
  (fun i acc=>[.d (dI (some L)),.d (il L.length),.d (il (i:Nat)),.r (acc.map rI),.d x3,.d x4,.m q,.d x6,.d x7,.n acc.length,.n acc.length,.d x8,.d x9,.d x10,.d x11,.d x12,.d x13])
  (fun acc=>some (1,[.r (acc.map rI),.d x3,.d x4,.m q,.d x6,.d x7,.n acc.length,.n acc.length,.d x8,.d x9,.d x10,.d x11,.d x12,.d x13])) ?_ ?_ ?_
 ·intro acc k;simp [q4p]
 ·intro c k hi hlt
  have h0:=q5s (Fn:=FN (n+4)) (FnD:=q1q Tryz.prog (cf3 tb Tryz.prog) (FN (n+4))) (m:=M0) (o:=some L) (i:=0) (c:=c) hi
  simp only [q5Y,q03,q08,q0n,q00,Int.natCast_zero,hlt,decide_true,if_true]
  rw [show ((il 0):D)=il ((0:Nat):Int) from rfl,h0]
  simp only [rI,q0c,q0a,q1e,qg1,q01,q03,q08,q00,Bool.false_eq_true,if_false]
  rw [put0]
  simp only [q05,q0o,q1i,q0K,q0Q,q0M,List.length_cons,List.length_nil,List.take_succ_cons,List.take_zero,Int.natCast_zero]
  rw [show IntKind.i64.wrap (0+1)=((1:Nat):Int) from rfl]
  rfl
 ·intro i c acc k hi hlt hw hu hl
  have hi':((some L).getD [])[i]?=some c:=hi
  have hput:=q10 n acc c (by omega) hu
  simp only [q4p,q03,q08,q0P,q0O,q0F,q0V,q0n,q00,hlt,decide_true,if_true,q5s hi',rI,q0c,q0Q,q0T,List.length_map,q1k,q0a]
  simp only [hput,q01,q03,q0H,q05,q0o,hw,List.length_map,q1E,q1F]
set_option maxRecDepth 20000 in
theorem li5 (n:Nat) (L:List Int) (hL:L.length≤1000000) (q:Mr) (x3 x4 x6 x7 x11 x12 x13 x14 x15 x16:D) (acc:List Int) (hu:Up acc) (ha:acc.length≤1000) :
  q0p [q4o (RP (n+4))] M0 0 [.d (dI (some L)),.d (il L.length),.d (il 0),.d x3,.d x4,.m q,.d x6,.d x7,.n acc.length,.n acc.length,.r (acc.map rI),.d x11,.d x12,.d x13,.d x14,.d x15,.d x16] =
   some (0,[.d x3,.d x4,.m q,.d x6,.d x7,.n (q06 acc L).length,.n (q06 acc L).length,.r ((q06 acc L).map rI),.d x11,.d x12,.d x13,.d x14,.d x15,.d x16]):=by
 refine q8r L hL _ (fun i acc=>[.d (dI (some L)),.d (il L.length),.d (il (i:Nat)),.d x3,.d x4,.m q,.d x6,.d x7,.n acc.length,.n acc.length,.r (acc.map rI),.d x11,.d x12,.d x13,.d x14,.d x15,.d x16])
  (fun acc=>some (0,[.d x3,.d x4,.m q,.d x6,.d x7,.n acc.length,.n acc.length,.r (acc.map rI),.d x11,.d x12,.d x13,.d x14,.d x15,.d x16])) 1000 ?_ ?_ acc hu ha
 ·intro acc k;simp [q4o]
 ·intro i c acc k hi hlt hw hu hl
  have hi':((some L).getD [])[i]?=some c:=hi
  have hput:=q10 n acc c (by omega) hu
  simp only [q4o,q03,q08,q0P,q0O,q0F,q0V,q0n,q00,hlt,decide_true,if_true,q5s hi',rI,q0c,q0Q,q0T,List.length_map,q1k,q0a]
  simp only [hput,q01,q03,q0H,q05,q0o,hw,List.length_map,q1E,q1F]
def qcP (d f:Int) (kin:D) (s:Nat×List Int×Mr):Nat×List Yr:=match s.2.1 with
 | []=>(0,[.d (il d),.d (il ((s.1:Int) - 1)),.d kin,.d (il d),.m s.2.2,.d kin,.d (il f)])
 | y::r=>(2,[.d (il d),.d (il ((s.1:Int) - 1)),.r ((y::r).map rI),.n (y::r).length,.n (y::r).length,.d kin,.d (il d),.m s.2.2,.d kin,.d (il f)])
theorem qbQ (d f:Int) (kin:D) (m:Nat) {acc:List Int} (q:Mr) (h:acc≠[]):qcP d f kin (m,acc,q)=(2,[.d (il d),.d (il ((m:Int) - 1)),.r (acc.map rI),.n acc.length,.n acc.length,.d kin,.d (il d),.m q,.d kin,.d (il f)]):=by
 cases acc with
 | nil=>exact absurd rfl h
 | cons _ _=>rfl
def Q161 (d f:Int) (b:List E9) (kin:D) (T:List Int) (r:Out):Prop:=∃ (acc:List Int) (q:Mr),q5q d b q∧Up acc∧acc.length≤1000 ∧
 ((acc≠[]∧((r=some (4,[.r (acc.map rI),.n acc.length,.n acc.length,.d kin,.d (il d),.m q,.d kin,.d (il f)])∧acc=T)∨(r=some (5,[.r (acc.map rI),.n acc.length,.n acc.length,.d kin,.d (il d),.m q,.d kin,.d (il f)])∧ins f acc=T))) ∨
  (r=some (2,[.d kin,.d (il d),.m q,.d kin,.d (il f)])∧ins f []=T))
theorem qaC {acc:List Int} (hu:Up acc) (h:∀ z∈acc,1≤z∧z≤99):acc.length≤99:=by
 have:=qb0 acc 1 99 hu h
 omega
theorem q40 (acc:List Int) {l:List Int} (h:l≠[]):q06 acc l≠[]:=fun e=>by
 cases l with
 | nil=>exact h rfl
 | cons x r =>
  have:x∈q06 acc (x::r):=(q1I x _ _).2 (.inr (by simp))
  rw [e] at this;simp at this
set_option maxRecDepth 20000 in
theorem l161 (n:Nat) (a b c:Option (List E9)) (o:Option (List E5)) (d f:Int) (hb:q9O (b.getD [])) (hl:(b.getD []).length≤1000000) (hf:f≤99)
  (hrec:∀ (w:Int) (q:Mr),1≤w→w < f→q5q d (b.getD []) q→∃ q':Mr,q5q d (b.getD []) q'∧FN (n+4) 1000161 [q0I a b c o,il d,.mp false q.1 q.2,il w,q0I a b c o,il d]=some (0,[.d (dI (some (q0f d (b.getD []) w))),.d (q0I a b c o),.d (il d),.d (.mp false q'.1 q'.2)]))
  (q:Mr) (hq:q5q d (b.getD []) q) :
  Q161 d f (b.getD []) (q0I a b c o) (q3O (q0f d (b.getD [])) f (q1p d f (below (b.getD []) (b.getD []).length)) []) (q0p [q2c (RP (n+4)) (il f),q5X (RP (n+4)) (il f),q2b (RP (n+4)) (il f)] M0 0 [.d (il d),.d (il (((b.getD []).length:Int) - 1)),.d (q0I a b c o),.d (il d),.m q,.d (q0I a b c o),.d (il f)]):=by
 generalize hT:q3O (q0f d (b.getD [])) f (q1p d f (below (b.getD []) (b.getD []).length)) []=T
 refine q5F (σ:=Nat×List Int×Mr) [q2c (RP (n+4)) (il f),q5X (RP (n+4)) (il f),q2b (RP (n+4)) (il f)] (qcP d f (q0I a b c o)) (fun s=>s.1)
  (fun s=>s.1≤(b.getD []).length∧Up s.2.1∧(∀ z∈s.2.1,1≤z∧z≤99)∧q5q d (b.getD []) s.2.2∧q3O (q0f d (b.getD [])) f (q1p d f (below (b.getD []) s.1)) s.2.1=T)
  (Q161 d f (b.getD []) (q0I a b c o) T) ?_ M0 ((b.getD []).length,[],q) ⟨Nat.le_refl _,by simp,by simp,hq,hT⟩ (by unfold M0;simp only;omega)
 clear hT hq q
 rintro ⟨m,acc,q⟩ k ⟨g1,g2,g3,g4,g5⟩ ih
 simp only at g1 g2 g3 g4 g5 ih
 have gl:=qaC g2 g3
 cases m with
 | zero =>
  rw [q5V] at g5
  cases acc with
  | nil =>
   refine ⟨q2c (RP (n+4)) (il f),rfl,[],q,g4,g2,by simp,.inr ⟨?_,g5⟩⟩
   simp [qcP,q2c]
  | cons y r =>
   refine ⟨q2b (RP (n+4)) (il f),rfl,y::r,q,g4,g2,by omega,.inl ⟨by simp,.inr ⟨?_,g5⟩⟩⟩
   simp [qcP,q2b]
 | succ m =>
  obtain ⟨e,he⟩:∃ e,(b.getD [])[m]?=some e:=⟨_,List.getElem?_eq_getElem (by omega)⟩
  rw [q4m he,q1p] at g5
  have hm:(((m+1:Nat):Int) - 1)=((m:Nat):Int):=by omega
  have hw:IntKind.i64.wrap (((m:Nat):Int) - 1)=((m:Nat):Int) - 1:=q0l (by omega) (by omega)
  have h194:=s194 (n+3) a b c o m e f he
  have hnn:¬ ((m:Nat):Int) < 0:=by omega
  have hmem:e∈b.getD []:=List.mem_of_getElem? he
  cases acc with
  | nil =>
   refine ⟨q2c (RP (n+4)) (il f),rfl,?_⟩
   simp only [qcP,hm,q2c,q03,q08,q05,q2f,q00]
   rw [if_pos (by simp)]
   simp only [q0a,h194,q01,q03,q08,q0N,q00,q27,hw,q1F,q1E]
   by_cases h1:e.a=f
   ·rw [if_neg (by simp [h1])]
    simp only [qfk,q01,q03,q0N,q00]
    by_cases h2:q3r e.f1 e.t2 d=true
    ·rw [if_neg (by simp [h2])]
     rw [if_pos ⟨h1,h2⟩] at g5
     have hbe:=hb e hmem
     obtain ⟨q',hq',hcall⟩:=hrec e.b q hbe.1 (by omega) g4
     have hne:q0f d (b.getD []) e.b≠[]:=fun h=>by
      obtain ⟨z,hz⟩:=q5b hb (d:=d) _ e.b (Nat.le_refl _) hbe.1
      rw [h] at hz;simp at hz
     have hlen:=q5J (d:=d) hb hbe.1
     simp only [q0n,hnn,decide_false,q00,Bool.false_eq_true,if_false,q5y,hcall,q01,q03,q08,q50,q5K,Option.getD_some,q0q]
     rw [li01 n _ (by omega) hne]
     have hin:=q40 [] hne
     have hiu:=q0R (q0f d (b.getD []) e.b) (acc:=[]) (by simp)
     have hir:∀ z∈q06 [] (q0f d (b.getD []) e.b),1≤z∧z≤99:=fun z hz=>by
      rw [q1I] at hz
      rcases hz with hz | hz
      ·simp at hz
      ·have:=q1t hb _ e.b z (Nat.le_refl _) hbe.1 hz;omega
     have hil:=qaC hiu hir
     simp only [q3a,q01,q8P,q03,q08,q1F,q1E,q0F,q0P,q0O,q00,q0e]
     rw [q3O] at g5
     by_cases h3:q3L e.f2 e.t1 d=true
     ·rw [if_pos h3] at g5 ⊢
      exact ⟨q06 [] (q0f d (b.getD []) e.b),q',hq',hiu,by omega,.inl ⟨hin,.inl ⟨rfl,g5⟩⟩⟩
     ·rw [if_neg h3] at g5 ⊢
      have:=ih (m,q06 [] (q0f d (b.getD []) e.b),q') ⟨by simp only;omega,hiu,hir,hq',g5⟩ (by simp only;omega)
      rw [qbQ _ _ _ _ _ hin] at this
      exact this
    ·rw [if_pos (by simp [h2])]
     rw [if_neg fun h=>h2 h.2] at g5
     exact ih (m,[],q) ⟨by simp only;omega,g2,g3,g4,g5⟩ (by simp only;omega)
   ·rw [if_pos (by simp [h1])]
    rw [if_neg fun h=>h1 h.1] at g5
    exact ih (m,[],q) ⟨by simp only;omega,g2,g3,g4,g5⟩ (by simp only;omega)
  | cons y r =>
   refine ⟨q2b (RP (n+4)) (il f),rfl,?_⟩
   simp only [qcP,hm,q2b,q03,q08,q05,q2f,q00]
   rw [if_pos (by simp)]
   simp only [q0a,h194,q01,q03,q08,q0N,q00,q27,hw,q1F,q1E,q0F,q0V,q0P,q0O]
   by_cases h1:e.a=f
   ·rw [if_neg (by simp [h1])]
    simp only [qfk,q01,q03,q0N,q00]
    by_cases h2:q3r e.f1 e.t2 d=true
    ·rw [if_neg (by simp [h2])]
     rw [if_pos ⟨h1,h2⟩] at g5
     have hbe:=hb e hmem
     obtain ⟨q',hq',hcall⟩:=hrec e.b q hbe.1 (by omega) g4
     have hne:q0f d (b.getD []) e.b≠[]:=fun h=>by
      obtain ⟨z,hz⟩:=q5b hb (d:=d) _ e.b (Nat.le_refl _) hbe.1
      rw [h] at hz;simp at hz
     have hlen:=q5J (d:=d) hb hbe.1
     simp only [q0n,hnn,decide_false,q00,Bool.false_eq_true,if_false,q5y,hcall,q01,q03,q08,q50,q5K,Option.getD_some,q0q]
     rw [li5 n _ (by omega) _ _ _ _ _ _ _ _ _ _ _ (y::r) g2 (by omega)]
     have hin:=q40 (y::r) hne
     have hiu:=q0R (q0f d (b.getD []) e.b) g2
     have hir:∀ z∈q06 (y::r) (q0f d (b.getD []) e.b),1≤z∧z≤99:=fun z hz=>by
      rw [q1I] at hz
      rcases hz with hz | hz
      ·exact g3 z hz
      ·have:=q1t hb _ e.b z (Nat.le_refl _) hbe.1 hz;omega
     have hil:=qaC hiu hir
     simp only [q01,q8P,q03,q08,q1F,q1E,q0F,q0V,q0P,q0O,q00,q0e]
     rw [q3O] at g5
     by_cases h3:q3L e.f2 e.t1 d=true
     ·rw [if_pos h3] at g5 ⊢
      exact ⟨q06 (y::r) (q0f d (b.getD []) e.b),q',hq',hiu,by omega,.inl ⟨hin,.inl ⟨rfl,g5⟩⟩⟩
     ·rw [if_neg h3] at g5 ⊢
      have:=ih (m,q06 (y::r) (q0f d (b.getD []) e.b),q') ⟨by simp only;omega,hiu,hir,hq',g5⟩ (by simp only;omega)
      rw [qbQ _ _ _ _ _ hin] at this
      exact this
    ·rw [if_pos (by simp [h2])]
     rw [if_neg fun h=>h2 h.2] at g5
     exact ih (m,y::r,q) ⟨by simp only;omega,g2,g3,g4,g5⟩ (by simp only;omega)
   ·rw [if_pos (by simp [h1])]
    rw [if_neg fun h=>h1 h.1] at g5
    exact ih (m,y::r,q) ⟨by simp only;omega,g2,g3,g4,g5⟩ (by simp only;omega)
end Go.VE
namespace Go.VE
open Go.RowKit Go.Proofs
attribute [local simp] q50 q5y
theorem q76 (q:List Int):(.sl 1 ((q.map rI).take q.length):D)=dI (some q):=by rw [qha];rfl
set_option maxRecDepth 20000 in
theorem s161 (a b c:Option (List E9)) (o:Option (List E5)) (d:Int) (hb:q9O (b.getD [])) (hl:(b.getD []).length≤1000000):∀ (N n:Nat) (f:Int) (q:Mr),1≤f→f.toNat≤N→f≤99→q5q d (b.getD []) q →
  ∃ q':Mr,q5q d (b.getD []) q'∧FN (n+5+N) 1000161 [q0I a b c o,il d,.mp false q.1 q.2,il f,q0I a b c o,il d]=some (0,[.d (dI (some (q0f d (b.getD []) f))),.d (q0I a b c o),.d (il d),.d (.mp false q'.1 q'.2)]):=by
 intro N
 induction N with
 | zero=>intro n f q h1 h2;omega
 | succ N ih =>
  intro n f q h1 h2 h3 hq
  have hrec:∀ (w:Int) (q:Mr),1≤w→w < f→q5q d (b.getD []) q→∃ q':Mr,q5q d (b.getD []) q'∧FN (n+1+N+4) 1000161 [q0I a b c o,il d,.mp false q.1 q.2,il w,q0I a b c o,il d]=some (0,[.d (dI (some (q0f d (b.getD []) w))),.d (q0I a b c o),.d (il d),.d (.mp false q'.1 q'.2)]):=fun w q hw1 hw2 hq=>by
   have:=ih n w q hw1 (by omega) (by omega) hq
   rw [show n+1+N+4=n+5+N by omega]
   exact this
  have hloop:=l161 (n+1+N) a b c o d f hb hl h3 hrec q hq
  rw [show n+5+(N+1)=(n+1+N+4)+1 by omega,qgW]
  rw [←q9r hb h1] at hloop
  generalize n+1+N=n at hloop ⊢
  simp only [q8F,q50,qdC]
  rcases qdW hq f with e | e
  ·rw [e]
   refine ⟨q,hq,?_⟩
   simp
  ·rw [e]
   have hp:∀ k:List D→Out,(RP (n+4)).ptrW 4 (q0I a b c o) k=k [d9 a,d9 b,d9 c,d5 o]:=fun k=>q21 _ 4 k rfl
   have w1:IntKind.i64.wrap (((b.getD []).length:Int) - 1)=((b.getD []).length:Int) - 1:=q0l (by omega) (by omega)
   have hip:∀ k:Out,(RP (n+4)).isPtr (q0I a b c o) k=k:=fun k=>rfl
   simp only [q00,Bool.false_eq_true,if_false,hip,hp,q0c,q0B,q65,q05,q27,w1,q0q]
   obtain ⟨acc,q1,hq1,hu,hlen,hr⟩:=hloop
   obtain ⟨q2,hq2,hm2⟩:=qg2 hq1 f
   have hd:∀ x,x=q0f d (b.getD []) f→(.sl 1 ((x.map rI).take x.length):D)=dI (some (q0f d (b.getD []) f)):=fun x hx=>by rw [q76,hx]
   refine ⟨q2,hm2,?_⟩
   rcases hr with ⟨hne,⟨hr,hT⟩ | ⟨hr,hT⟩⟩ | ⟨hr,hT⟩
   ·rw [hr]
    simp only [q3a,q01,q0F,q0P,q0O,q03,q08,q1F,q1E,q0Q,List.length_map,q0T,if_true,q0M,q1k,q0e,qdA]
    rw [hd acc hT,hq2]
    simp
   ·rw [hr]
    have hput:=q10 n acc f (by omega) hu
    simp only [q3a,q01,q0F,q0P,q0O,q03,q08,q1F,q1E,q0Q,List.length_map,q0T,if_true,q0M,q1k,q0e,qdA,q0n,q00,q0a,hput,q0H]
    rw [if_pos (by simp)]
    simp only [q01,q03,q08,q1F,q1E]
    rw [show (List.map rI (ins f acc)).take (ins f acc).length=(List.map rI (ins f acc)).take (ins f acc).length from rfl,hd (ins f acc) hT,hq2]
    simp
   ·rw [hr]
    simp only [q3a,q01,q03,q08,q1F,q1E,q0n,q00,q0a,q1e,qg1]
    rw [if_pos (by simp)]
    simp only [Bool.false_eq_true,if_false]
    have hx:[f]=q0f d (b.getD []) f:=hT
    rw [←hx] at hq2 ⊢
    simp only [q1i,q0K,q0Q,q0M,List.length_cons,List.length_nil,q0T,List.take_succ_cons,List.take_zero,q1O,q19]
    rw [if_pos (by simp),if_pos (by simp []),qbo]
    simp only [List.length_cons,List.length_nil,if_true,q0e,q01,q1k,List.take_succ_cons,List.take_zero,q03,q08,q1F,q1E,qdA]
    rw [show (.sl 1 [[il f]]:D)=dI (some [f]) from rfl,hq2]
    simp
end Go.VE
namespace Go.VE
open Go.RowKit Go.Proofs
end Go.VE
namespace Go.VE
open Go.RowKit Go.Proofs
theorem q6D {α:Type} {p:α→Bool} {src:α→Int}:∀ {l:List α} {o:Option Int},okL p src o l=true→∀ e∈l,p e=true
 | [],_,_,e,he=>by simp at he
 | x::r,o,h,e,he=>by
  unfold okL at h
  simp only [Bool.and_eq_true] at h
  rcases List.mem_cons.1 he with rfl | he
  ·exact h.1.1
  ·exact q6D h.2 e he
end Go.VE
namespace Go.VE
open Go.RowKit Go.Proofs
attribute [local simp] q50 q5y
set_option maxRecDepth 20000 in
theorem qiD (n:Nat) (L:List Int) (hL:L.length≤1000000) (hne:L≠[]) (q:Mr) (x3 x4 x5 x6 x8 x9 x10 x11 x12 x13 x14 x15 x16 x17:D) :
  q0p [qjg (RP (n+4)),qgP (RP (n+4))] M0 0 [.d (dI (some L)),.d (il L.length),.d (il 0),.d x3,.d x4,.d x5,.d x6,.m q,.d x8,.d x9,.d x10,.d x11,.d x12,.d x13,.d x14,.d x15,.d x16,.d x17] =
   some (1,[.r ((q06 [] L).map rI),.d x3,.d x4,.d x5,.d x6,.m q,.d x8,.d x9,.d x10,.d x11,.n (q06 [] L).length,.n (q06 [] L).length,.d x12,.d x13,.d x14,.d x15,.d x16,.d x17]):=by
 refine qai L hL hne _ _ (fun i=>[.d (dI (some L)),.d (il L.length),.d (il (i:Nat)),.d x3,.d x4,.d x5,.d x6,.m q,.d x8,.d x9,.d x10,.d x11,.d x12,.d x13,.d x14,.d x15,.d x16,.d x17])
  (fun i acc=>[.d (dI (some L)),.d (il L.length),.d (il (i:Nat)),.r (acc.map rI),.d x3,.d x4,.d x5,.d x6,.m q,.d x8,.d x9,.d x10,.d x11,.n acc.length,.n acc.length,.d x12,.d x13,.d x14,.d x15,.d x16,.d x17])
  (fun acc=>some (1,[.r (acc.map rI),.d x3,.d x4,.d x5,.d x6,.m q,.d x8,.d x9,.d x10,.d x11,.n acc.length,.n acc.length,.d x12,.d x13,.d x14,.d x15,.d x16,.d x17])) ?_ ?_ ?_
 ·intro acc k;simp [qgP]
 ·intro c k hi hlt
  have h0:=q5s (Fn:=FN (n+4)) (FnD:=q1q Tryz.prog (cf3 tb Tryz.prog) (FN (n+4))) (m:=M0) (o:=some L) (i:=0) (c:=c) hi
  simp only [qjg,q03,q08,q0n,q00,Int.natCast_zero,hlt,decide_true,if_true]
  rw [show ((il 0):D)=il ((0:Nat):Int) from rfl,h0]
  simp only [rI,q0c,q0a,q1e,qg1,q01,q03,q08,q00,Bool.false_eq_true,if_false]
  rw [put0]
  simp only [q05,q0o,q1i,q0K,q0Q,q0M,List.length_cons,List.length_nil,List.take_succ_cons,List.take_zero,Int.natCast_zero]
  rw [show IntKind.i64.wrap (0+1)=((1:Nat):Int) from rfl]
  rfl
 ·intro i c acc k hi hlt hw hu hl
  have hi':((some L).getD [])[i]?=some c:=hi
  have hput:=q10 n acc c (by omega) hu
  simp only [qgP,q03,q08,q0P,q0O,q0F,q0V,q0n,q00,hlt,decide_true,if_true,q5s hi',rI,q0c,q0Q,q0T,List.length_map,q1k,q0a]
  simp only [hput,q01,q03,q0H,q05,q0o,hw,List.length_map,q1E,q1F]
set_option maxRecDepth 20000 in
theorem li82_2 (n:Nat) (L:List Int) (hL:L.length≤1000000) (q:Mr) (x4 x5 x6 x7 x9 x10 x11 x12 x15 x16 x17 x18 x19 x20:D) (acc:List Int) (hu:Up acc) (ha:acc.length≤1000) :
  q0p [qgO (RP (n+4))] M0 0 [.d (dI (some L)),.d (il L.length),.d (il 0),.r (acc.map rI),.d x4,.d x5,.d x6,.d x7,.m q,.d x9,.d x10,.d x11,.d x12,.n acc.length,.n acc.length,.d x15,.d x16,.d x17,.d x18,.d x19,.d x20] =
   some (0,[.r ((q06 acc L).map rI),.d x4,.d x5,.d x6,.d x7,.m q,.d x9,.d x10,.d x11,.d x12,.n (q06 acc L).length,.n (q06 acc L).length,.d x15,.d x16,.d x17,.d x18,.d x19,.d x20]):=by
 refine q8r L hL _ (fun i acc=>[.d (dI (some L)),.d (il L.length),.d (il (i:Nat)),.r (acc.map rI),.d x4,.d x5,.d x6,.d x7,.m q,.d x9,.d x10,.d x11,.d x12,.n acc.length,.n acc.length,.d x15,.d x16,.d x17,.d x18,.d x19,.d x20])
  (fun acc=>some (0,[.r (acc.map rI),.d x4,.d x5,.d x6,.d x7,.m q,.d x9,.d x10,.d x11,.d x12,.n acc.length,.n acc.length,.d x15,.d x16,.d x17,.d x18,.d x19,.d x20])) 1000 ?_ ?_ acc hu ha
 ·intro acc k;simp [qgO]
 ·intro i c acc k hi hlt hw hu hl
  have hi':((some L).getD [])[i]?=some c:=hi
  have hput:=q10 n acc c (by omega) hu
  simp only [qgO,q03,q08,q0P,q0O,q0F,q0V,q0n,q00,hlt,decide_true,if_true,q5s hi',rI,q0c,q0Q,q0T,List.length_map,q1k,q0a]
  simp only [hput,q01,q03,q0H,q05,q0o,hw,List.length_map,q1E,q1F]
set_option maxRecDepth 20000 in
theorem qhA (n:Nat) (L:List Int) (hL:L.length≤1000000) (q:Mr) (x4 x5 x6 x7 x9 x10 x11 x12 x15 x16 x17 x18 x19 x20:D) (acc:List Int) (hu:Up acc) (ha:acc.length≤1000) :
  q0p [qgN (RP (n+4))] M0 0 [.d (dI (some L)),.d (il L.length),.d (il 0),.r (acc.map rI),.d x4,.d x5,.d x6,.d x7,.m q,.d x9,.d x10,.d x11,.d x12,.n acc.length,.n acc.length,.d x15,.d x16,.d x17,.d x18,.d x19,.d x20] =
   some (0,[.r ((q06 acc L).map rI),.d x4,.d x5,.d x6,.d x7,.m q,.d x9,.d x10,.d x11,.d x12,.n (q06 acc L).length,.n (q06 acc L).length,.d x15,.d x16,.d x17,.d x18,.d x19,.d x20]):=by
 refine q8r L hL _ (fun i acc=>[.d (dI (some L)),.d (il L.length),.d (il (i:Nat)),.r (acc.map rI),.d x4,.d x5,.d x6,.d x7,.m q,.d x9,.d x10,.d x11,.d x12,.n acc.length,.n acc.length,.d x15,.d x16,.d x17,.d x18,.d x19,.d x20])
  (fun acc=>some (0,[.r (acc.map rI),.d x4,.d x5,.d x6,.d x7,.m q,.d x9,.d x10,.d x11,.d x12,.n acc.length,.n acc.length,.d x15,.d x16,.d x17,.d x18,.d x19,.d x20])) 1000 ?_ ?_ acc hu ha
 ·intro acc k;simp [qgN]
 ·intro i c acc k hi hlt hw hu hl
  have hi':((some L).getD [])[i]?=some c:=hi
  have hput:=q10 n acc c (by omega) hu
  simp only [qgN,q03,q08,q0P,q0O,q0F,q0V,q0n,q00,hlt,decide_true,if_true,q5s hi',rI,q0c,q0Q,q0T,List.length_map,q1k,q0a]
  simp only [hput,q01,q03,q0H,q05,q0o,hw,List.length_map,q1E,q1F]
set_option maxRecDepth 20000 in
theorem qhz (n:Nat) (L:List Int) (hL:L.length≤1000000) (q:Mr) (x3 x4 x5 x6 x8 x9 x10 x11 x15 x16 x17 x18 x19 x20:D) (acc:List Int) (hu:Up acc) (ha:acc.length≤1000) :
  q0p [qgM (RP (n+4))] M0 0 [.d (dI (some L)),.d (il L.length),.d (il 0),.d x3,.d x4,.d x5,.d x6,.m q,.d x8,.d x9,.d x10,.d x11,.n acc.length,.n acc.length,.r (acc.map rI),.d x15,.d x16,.d x17,.d x18,.d x19,.d x20] =
   some (0,[.d x3,.d x4,.d x5,.d x6,.m q,.d x8,.d x9,.d x10,.d x11,.n (q06 acc L).length,.n (q06 acc L).length,.r ((q06 acc L).map rI),.d x15,.d x16,.d x17,.d x18,.d x19,.d x20]):=by
 refine q8r L hL _ (fun i acc=>[.d (dI (some L)),.d (il L.length),.d (il (i:Nat)),.d x3,.d x4,.d x5,.d x6,.m q,.d x8,.d x9,.d x10,.d x11,.n acc.length,.n acc.length,.r (acc.map rI),.d x15,.d x16,.d x17,.d x18,.d x19,.d x20])
  (fun acc=>some (0,[.d x3,.d x4,.d x5,.d x6,.m q,.d x8,.d x9,.d x10,.d x11,.n acc.length,.n acc.length,.r (acc.map rI),.d x15,.d x16,.d x17,.d x18,.d x19,.d x20])) 1000 ?_ ?_ acc hu ha
 ·intro acc k;simp [qgM]
 ·intro i c acc k hi hlt hw hu hl
  have hi':((some L).getD [])[i]?=some c:=hi
  have hput:=q10 n acc c (by omega) hu
  simp only [qgM,q03,q08,q0P,q0O,q0F,q0V,q0n,q00,hlt,decide_true,if_true,q5s hi',rI,q0c,q0Q,q0T,List.length_map,q1k,q0a]
  simp only [hput,q01,q03,q0H,q05,q0o,hw,List.length_map,q1E,q1F]
def qch (d who:Int) (kin:D) (no yes:Bool) (acc:List Int) (q:Mr):List Yr:=[.r (acc.map rI),.n acc.length,.n acc.length,.d (bl no),.d (bl yes),.d kin,.d (il d),.m q,.d kin,.d (il d),.d kin,.d (il who)]
def qcj (d who:Int) (kin:D) (no yes:Bool) (m:Nat) (acc:List Int) (q:Mr):List Yr:=.d (il d)::.d (il ((m:Int) - 1))::qch d who kin no yes acc q
def tz82 (d who:Int) (kin:D) (no yes:Bool) (q:Mr):List Yr:=[.d (bl no),.d (bl yes),.d kin,.d (il d),.m q,.d kin,.d (il d),.d kin,.d (il who)]
def qh8 (d who:Int) (kin:D) (no yes:Bool) (m:Nat) (q:Mr):List Yr:=.d (il d)::.d (il ((m:Int) - 1))::tz82 d who kin no yes q
set_option maxRecDepth 20000 in
theorem rd82_5 (n:Nat) (a b c:Option (List E9)) (o:Option (List E5)) (d who:Int) (no yes:Bool) (m:Nat) (e:E9) (he:(a.getD [])[m]?=some e) (hb0:¬ e.b=0) (hw:IntKind.i64.wrap (((m:Nat):Int) - 1)=((m:Nat):Int) - 1)
  (_:q0f d (b.getD []) e.b≠[]) (hlen:(q0f d (b.getD []) e.b).length≤1000000)
  (hcall:∀ q:Mr,q5q d (b.getD []) q→∃ q':Mr,q5q d (b.getD []) q'∧FN (n+4) 1000161 [q0I a b c o,il d,.mp false q.1 q.2,il e.b,q0I a b c o,il d]=some (0,[.d (dI (some (q0f d (b.getD []) e.b))),.d (q0I a b c o),.d (il d),.d (.mp false q'.1 q'.2)]))
  (acc:List Int) (q:Mr) (hu:Up acc) (ha:acc.length≤900) (hq:q5q d (b.getD []) q) (k:Nat→List Yr→Out):∃ q':Mr,q5q d (b.getD []) q'∧q9Q (RP (n+4)) k (qcj d who (q0I a b c o) no yes (m+1) acc q) =
   if e.a=who∧q3r e.f1 e.t2 d=true then (if q3L e.f2 e.t1 d=true then some (2,qch d who (q0I a b c o) no yes (q0x (q0f d (b.getD [])) yes no (some e.b) acc) q') else k 1 (qcj d who (q0I a b c o) no yes m (q0x (q0f d (b.getD [])) yes no (some e.b) acc) q')) else k 1 (qcj d who (q0I a b c o) no yes m acc q'):=by
 have hm:(((m+1:Nat):Int) - 1)=((m:Nat):Int):=by omega
 have h157:=s157 (n+3) a b c o m e who he
 have hput:=q10 n acc 0 (by omega) hu
 simp only [qcj,qch,hm,q9Q,q03,q08,q0P,q0O,q0F,q0V,q1F,q1E,q05,q2f,q00]
 rw [if_pos (by simp)]
 simp only [q0a,h157,q01,q03,q08,q0N,q00,q27,hw]
 by_cases h1:e.a=who
 ·rw [if_neg (by simp [h1])]
  simp only [qfk,q01,q03,q0N,q00]
  by_cases h2:q3r e.f1 e.t2 d=true
  ·rw [if_neg (by simp [h2])]
   simp only [if_pos (⟨h1,h2⟩:e.a=who∧q3r e.f1 e.t2 d=true)]
   simp only [q0S,hb0,decide_false,q00,Bool.false_eq_true,if_false]
   cases no with
   | false =>
    have hfs:q0x (q0f d (b.getD [])) yes false (some e.b) acc=if yes=true then q06 acc (q0f d (b.getD []) e.b) else acc:=by cases yes<;>simp [q0x,f0,hb0]
    simp only [Bool.false_eq_true,if_false,q01,q03,q08,q0P,q0O,q0F,q0V,q1F,q1E,q0S,hb0,decide_false,q00,q0e]
    cases yes with
    | false =>
     refine ⟨q,hq,?_⟩
     simp only [q0N,Bool.not_false,q00,if_true,q8P,q01,q03,hfs]
     rfl
    | true =>
     obtain ⟨q',hq',hc⟩:=hcall q hq
     refine ⟨q',hq',?_⟩
     simp only [q0N,Bool.not_true,q00,Bool.false_eq_true,if_false,q5y,hc,q01,q03,q08,q50,q5K,Option.getD_some,q0q]
     rw [qhA n _ hlen _ _ _ _ _ _ _ _ _ _ _ _ _ _ _ acc hu (by omega)]
     simp only [q01,q8P,q03,q08,q0P,q0O,q0F,q1F,q1E,q00,hfs]
     rfl
   | true =>
    have hu0:=q35 0 hu
    have hl0:=q31 0 acc
    have hfs:q0x (q0f d (b.getD [])) yes true (some e.b) acc=if yes=true then q06 (ins 0 acc) (q0f d (b.getD []) e.b) else ins 0 acc:=by cases yes<;>simp [q0x,f0,hb0]
    simp only [if_true,q0Q,List.length_map,q0T,q1k,hput,q0H,q01,q03,q08,q0P,q0O,q0F,q0V,q1F,q1E,q0S,hb0,decide_false,q00,Bool.false_eq_true,if_false,q0e]
    cases yes with
    | false =>
     refine ⟨q,hq,?_⟩
     simp only [q0N,Bool.not_false,q00,if_true,q8P,q01,q03,hfs]
     rfl
    | true =>
     obtain ⟨q',hq',hc⟩:=hcall q hq
     refine ⟨q',hq',?_⟩
     simp only [q0N,Bool.not_true,q00,Bool.false_eq_true,if_false,q5y,hc,q01,q03,q08,q50,q5K,Option.getD_some,q0q]
     rw [qhA n _ hlen _ _ _ _ _ _ _ _ _ _ _ _ _ _ _ (ins 0 acc) hu0 (by omega)]
     simp only [q01,q8P,q03,q08,q0P,q0O,q0F,q1F,q1E,q00,hfs]
     rfl
  ·rw [if_pos (by simp [h2])]
   simp only [if_neg (fun h=>h2 h.2:¬ (e.a=who∧q3r e.f1 e.t2 d=true))]
   exact ⟨q,hq,rfl⟩
 ·rw [if_pos (by simp [h1])]
  simp only [if_neg (fun h=>h1 h.1:¬ (e.a=who∧q3r e.f1 e.t2 d=true))]
  exact ⟨q,hq,rfl⟩
set_option maxRecDepth 20000 in
theorem rd82_7 (n:Nat) (a b c:Option (List E9)) (o:Option (List E5)) (d who:Int) (no yes:Bool) (m:Nat) (e:E9) (he:(a.getD [])[m]?=some e) (hb0:¬ e.b=0) (hw:IntKind.i64.wrap (((m:Nat):Int) - 1)=((m:Nat):Int) - 1)
  (_:q0f d (b.getD []) e.b≠[]) (hlen:(q0f d (b.getD []) e.b).length≤1000000)
  (hcall:∀ q:Mr,q5q d (b.getD []) q→∃ q':Mr,q5q d (b.getD []) q'∧FN (n+4) 1000161 [q0I a b c o,il d,.mp false q.1 q.2,il e.b,q0I a b c o,il d]=some (0,[.d (dI (some (q0f d (b.getD []) e.b))),.d (q0I a b c o),.d (il d),.d (.mp false q'.1 q'.2)]))
  (acc:List Int) (q:Mr) (hu:Up acc) (ha:acc.length≤900) (hq:q5q d (b.getD []) q) (k:Nat→List Yr→Out):∃ q':Mr,q5q d (b.getD []) q'∧q9P (RP (n+4)) k (qcj d who (q0I a b c o) no yes (m+1) acc q) =
   if e.a=who∧q3r e.f1 e.t2 d=true then (if q3L e.f2 e.t1 d=true then some (4,qch d who (q0I a b c o) no yes (q0x (q0f d (b.getD [])) yes no (some e.b) acc) q') else k 2 (qcj d who (q0I a b c o) no yes m (q0x (q0f d (b.getD [])) yes no (some e.b) acc) q')) else k 2 (qcj d who (q0I a b c o) no yes m acc q'):=by
 have hm:(((m+1:Nat):Int) - 1)=((m:Nat):Int):=by omega
 have h157:=s157 (n+3) a b c o m e who he
 have hput:=q10 n acc 0 (by omega) hu
 simp only [qcj,qch,hm,q9P,q03,q08,q0P,q0O,q0F,q0V,q1F,q1E,q05,q2f,q00]
 rw [if_pos (by simp)]
 simp only [q0a,h157,q01,q03,q08,q0N,q00,q27,hw]
 by_cases h1:e.a=who
 ·rw [if_neg (by simp [h1])]
  simp only [qfk,q01,q03,q0N,q00]
  by_cases h2:q3r e.f1 e.t2 d=true
  ·rw [if_neg (by simp [h2])]
   simp only [if_pos (⟨h1,h2⟩:e.a=who∧q3r e.f1 e.t2 d=true)]
   simp only [q0S,hb0,decide_false,q00,Bool.false_eq_true,if_false]
   cases no with
   | false =>
    have hfs:q0x (q0f d (b.getD [])) yes false (some e.b) acc=if yes=true then q06 acc (q0f d (b.getD []) e.b) else acc:=by cases yes<;>simp [q0x,f0,hb0]
    simp only [Bool.false_eq_true,if_false,q01,q03,q08,q0P,q0O,q0F,q0V,q1F,q1E,q0S,hb0,decide_false,q00,q0e]
    cases yes with
    | false =>
     refine ⟨q,hq,?_⟩
     simp only [q0N,Bool.not_false,q00,if_true,q8P,q01,q03,hfs]
     rfl
    | true =>
     obtain ⟨q',hq',hc⟩:=hcall q hq
     refine ⟨q',hq',?_⟩
     simp only [q0N,Bool.not_true,q00,Bool.false_eq_true,if_false,q5y,hc,q01,q03,q08,q50,q5K,Option.getD_some,q0q]
     rw [qhz n _ hlen _ _ _ _ _ _ _ _ _ _ _ _ _ _ _ acc hu (by omega)]
     simp only [q01,q8P,q03,q08,q0P,q0O,q0F,q0V,q1F,q1E,q00,hfs]
     rfl
   | true =>
    have hu0:=q35 0 hu
    have hl0:=q31 0 acc
    have hfs:q0x (q0f d (b.getD [])) yes true (some e.b) acc=if yes=true then q06 (ins 0 acc) (q0f d (b.getD []) e.b) else ins 0 acc:=by cases yes<;>simp [q0x,f0,hb0]
    simp only [if_true,q0Q,List.length_map,q0T,q1k,hput,q0H,q01,q03,q08,q0P,q0O,q0F,q0V,q1F,q1E,q0S,hb0,decide_false,q00,Bool.false_eq_true,if_false,q0e]
    cases yes with
    | false =>
     refine ⟨q,hq,?_⟩
     simp only [q0N,Bool.not_false,q00,if_true,q8P,q01,q03,hfs]
     rfl
    | true =>
     obtain ⟨q',hq',hc⟩:=hcall q hq
     refine ⟨q',hq',?_⟩
     simp only [q0N,Bool.not_true,q00,Bool.false_eq_true,if_false,q5y,hc,q01,q03,q08,q50,q5K,Option.getD_some,q0q]
     rw [qhz n _ hlen _ _ _ _ _ _ _ _ _ _ _ _ _ _ _ (ins 0 acc) hu0 (by omega)]
     simp only [q01,q8P,q03,q08,q0P,q0O,q0F,q0V,q1F,q1E,q00,hfs]
     rfl
  ·rw [if_pos (by simp [h2])]
   simp only [if_neg (fun h=>h2 h.2:¬ (e.a=who∧q3r e.f1 e.t2 d=true))]
   exact ⟨q,hq,rfl⟩
 ·rw [if_pos (by simp [h1])]
  simp only [if_neg (fun h=>h1 h.1:¬ (e.a=who∧q3r e.f1 e.t2 d=true))]
  exact ⟨q,hq,rfl⟩
set_option maxRecDepth 20000 in
theorem rd82_3 (n:Nat) (a b c:Option (List E9)) (o:Option (List E5)) (d who:Int) (no yes:Bool) (m:Nat) (e:E9) (he:(a.getD [])[m]?=some e) (hb0:¬ e.b=0) (hw:IntKind.i64.wrap (((m:Nat):Int) - 1)=((m:Nat):Int) - 1)
  (hne:q0f d (b.getD []) e.b≠[]) (hlen:(q0f d (b.getD []) e.b).length≤1000000)
  (hcall:∀ q:Mr,q5q d (b.getD []) q→∃ q':Mr,q5q d (b.getD []) q'∧FN (n+4) 1000161 [q0I a b c o,il d,.mp false q.1 q.2,il e.b,q0I a b c o,il d]=some (0,[.d (dI (some (q0f d (b.getD []) e.b))),.d (q0I a b c o),.d (il d),.d (.mp false q'.1 q'.2)]))
  (hyn:yes=false→no=true) (q:Mr) (hq:q5q d (b.getD []) q) (k:Nat→List Yr→Out):∃ q':Mr,q5q d (b.getD []) q'∧q9R (RP (n+4)) k (qh8 d who (q0I a b c o) no yes (m+1) q) =
   if e.a=who∧q3r e.f1 e.t2 d=true then (if q3L e.f2 e.t1 d=true then some (if no=true then 2 else 4,qch d who (q0I a b c o) no yes (q0x (q0f d (b.getD [])) yes no (some e.b) []) q') else k (if no=true then 1 else 2) (qcj d who (q0I a b c o) no yes m (q0x (q0f d (b.getD [])) yes no (some e.b) []) q')) else k 0 (qh8 d who (q0I a b c o) no yes m q'):=by
 have hm:(((m+1:Nat):Int) - 1)=((m:Nat):Int):=by omega
 have h157:=s157 (n+3) a b c o m e who he
 simp only [qh8,tz82,hm,q9R,q03,q08,q1F,q1E,q05,q2f,q00]
 rw [if_pos (by simp)]
 simp only [q0a,h157,q01,q03,q08,q0N,q00,q27,hw]
 by_cases h1:e.a=who
 ·rw [if_neg (by simp [h1])]
  simp only [qfk,q01,q03,q0N,q00]
  by_cases h2:q3r e.f1 e.t2 d=true
  ·rw [if_neg (by simp [h2])]
   simp only [if_pos (⟨h1,h2⟩:e.a=who∧q3r e.f1 e.t2 d=true)]
   simp only [q0S,hb0,decide_false,q00,Bool.false_eq_true,if_false]
   cases no with
   | false =>
    cases yes with
    | false=>exact absurd (hyn rfl) (by simp)
    | true =>
     have hfs:q0x (q0f d (b.getD [])) true false (some e.b) []=q06 [] (q0f d (b.getD []) e.b):=by simp [q0x,f0,hb0]
     obtain ⟨q',hq',hc⟩:=hcall q hq
     refine ⟨q',hq',?_⟩
     simp only [Bool.false_eq_true,if_false,q01,q03,q08,q1F,q1E,q0S,hb0,decide_false,q00,q0e,q0N,Bool.not_true,q5y,hc,q50,q5K,Option.getD_some,q0q]
     rw [qiD n _ hlen hne]
     simp only [q3a,q01,q8P,q03,q08,q0P,q0O,q0F,q1F,q1E,q00,hfs]
     rfl
   | true =>
    have hfs:q0x (q0f d (b.getD [])) yes true (some e.b) []=if yes=true then q06 [0] (q0f d (b.getD []) e.b) else [0]:=by cases yes<;>simp [q0x,f0,hb0,ins]
    simp only [if_true,q1e,qg1,q01,q03,q08,q00,Bool.false_eq_true,if_false]
    rw [put0]
    simp only [q1i,q0K,q0Q,q0M,List.length_cons,List.length_nil,List.take_succ_cons,List.take_zero,q0e,q3a,q01,q03,q08,q0P,q0O,q0F,q1F,q1E,q0S,hb0,decide_false,q00,Bool.false_eq_true,if_false]
    cases yes with
    | false =>
     refine ⟨q,hq,?_⟩
     simp only [q0N,Bool.not_false,q00,if_true,q8P,q01,q03,hfs]
     rfl
    | true =>
     obtain ⟨q',hq',hc⟩:=hcall q hq
     refine ⟨q',hq',?_⟩
     simp only [q0N,Bool.not_true,q00,Bool.false_eq_true,if_false,q5y,hc,q01,q03,q08,q50,q5K,Option.getD_some,q0q]
     rw [show ([0].map rI)=[0].map rI from rfl,show (0+1:Nat)=[(0:Int)].length from rfl,li82_2 n _ hlen _ _ _ _ _ _ _ _ _ _ _ _ _ _ _ [0] (by simp) (by simp)]
     simp only [q01,q8P,q03,q08,q0P,q0O,q0F,q1F,q1E,q00,hfs]
     rfl
  ·rw [if_pos (by simp [h2])]
   simp only [if_neg (fun h=>h2 h.2:¬ (e.a=who∧q3r e.f1 e.t2 d=true))]
   exact ⟨q,hq,rfl⟩
 ·rw [if_pos (by simp [h1])]
  simp only [if_neg (fun h=>h1 h.1:¬ (e.a=who∧q3r e.f1 e.t2 d=true))]
  exact ⟨q,hq,rfl⟩
end Go.VE
namespace Go.VE
open Go.RowKit Go.Proofs
theorem q6q {acc:List Int} (hu:Up acc) (h:∀ z∈acc,0≤z∧z≤99):acc.length≤100:=by
 have:=qb0 acc 0 99 hu h
 omega
def en82 (d who:Int) (kin:D) (no yes:Bool) (s:Nat×Bool×List Int×Mr):Nat×List Yr:=match s.2.2.1 with
 | []=>(0,qh8 d who kin no yes s.1 s.2.2.2)
 | y::r=>(if s.2.1=true then 1 else 2,qcj d who kin no yes s.1 (y::r) s.2.2.2)
theorem qbP (d who:Int) (kin:D) (no yes:Bool) (m:Nat) (j:Bool) (q:Mr):en82 d who kin no yes (m,j,[],q)=(0,qh8 d who kin no yes m q):=rfl
theorem q74 (d who:Int) (kin:D) (no yes:Bool) (m:Nat) (j:Bool) {acc:List Int} (q:Mr) (h:acc≠[]):en82 d who kin no yes (m,j,acc,q)=(if j=true then 1 else 2,qcj d who kin no yes m acc q):=by
 cases acc with
 | nil=>exact absurd rfl h
 | cons _ _=>rfl
def Q82 (d who:Int) (kin:D) (no yes:Bool) (T:List Int) (r:Out):Prop:=∃ (acc:List Int) (q:Mr),Up acc∧acc.length≤900 ∧
 ((acc≠[]∧∃ j:Nat,(((j=2∨j=4)∧acc=T)∨((j=3∨j=5)∧ins 0 acc=T))∧r=some (j,qch d who kin no yes acc q))∨(r=some (0,tz82 d who kin no yes q)∧acc=[]∧ins 0 []=T))
theorem qcM {L:Int→List Int} {yes no:Bool} (hyn:yes=false→no=true) {w:Int} (hw:¬ w=0) (hL:L w≠[]) (acc:List Int):q0x L yes no (some w) acc≠[]:=by
 unfold q0x
 have:¬ f0 (some w)=0:=hw
 cases yes with
 | false=>have:=hyn rfl;subst this;simp;exact qbG _ _
 | true=>simp only [this,false_or,Bool.true_eq_false,if_false];exact q40 _ hL
set_option maxRecDepth 20000 in
theorem l82 (n:Nat) (a b c:Option (List E9)) (o:Option (List E5)) (d who:Int) (no yes:Bool) (hyn:yes=false→no=true) (ha:qgU (a.getD [])) (hla:(a.getD []).length≤1000000) (hb:q9O (b.getD []))
  (hrec:∀ (w:Int) (q:Mr),1≤w→w≤99→q5q d (b.getD []) q→∃ q':Mr,q5q d (b.getD []) q'∧FN (n+4) 1000161 [q0I a b c o,il d,.mp false q.1 q.2,il w,q0I a b c o,il d]=some (0,[.d (dI (some (q0f d (b.getD []) w))),.d (q0I a b c o),.d (il d),.d (.mp false q'.1 q'.2)])) :
  Q82 d who (q0I a b c o) no yes (qas (q0f d (b.getD [])) yes no (q1p d who (below (a.getD []) (a.getD []).length)) []) (q0p [q9R (RP (n+4)),q9Q (RP (n+4)),q9P (RP (n+4))] M0 0 (qh8 d who (q0I a b c o) no yes (a.getD []).length ([],[]))):=by
 generalize hT:qas (q0f d (b.getD [])) yes no (q1p d who (below (a.getD []) (a.getD []).length)) []=T
 refine q5F (σ:=Nat×Bool×List Int×Mr) [q9R (RP (n+4)),q9Q (RP (n+4)),q9P (RP (n+4))] (en82 d who (q0I a b c o) no yes) (fun s=>s.1)
  (fun s=>s.1≤(a.getD []).length∧Up s.2.2.1∧(∀ z∈s.2.2.1,0≤z∧z≤99)∧q5q d (b.getD []) s.2.2.2∧qas (q0f d (b.getD [])) yes no (q1p d who (below (a.getD []) s.1)) s.2.2.1=T)
  (Q82 d who (q0I a b c o) no yes T) ?_ M0 ((a.getD []).length,true,[],([],[])) ⟨Nat.le_refl _,by simp,by simp,qbw _ _,hT⟩ (by unfold M0;simp only;omega)
 clear hT
 rintro ⟨m,j,acc,q⟩ k ⟨g1,g2,g3,g4,g5⟩ ih
 simp only at g1 g2 g3 g4 g5 ih
 have gl:=q6q g2 g3
 cases m with
 | zero =>
  rw [q5V] at g5
  have g6:ins 0 acc=T:=by rw [←g5];simp [q1p,qas,q0x,f0]
  cases acc with
  | nil =>
   refine ⟨q9R (RP (n+4)),rfl,[],q,g2,by simp,.inr ⟨?_,rfl,g6⟩⟩
   simp [qbP,qh8,tz82,q9R]
  | cons y r =>
   cases j with
   | true =>
    refine ⟨q9Q (RP (n+4)),rfl,y::r,q,g2,by omega,.inl ⟨by simp,3,.inr ⟨.inl rfl,g6⟩,?_⟩⟩
    simp [en82,qcj,qch,q9Q]
   | false =>
    refine ⟨q9P (RP (n+4)),rfl,y::r,q,g2,by omega,.inl ⟨by simp,5,.inr ⟨.inr rfl,g6⟩,?_⟩⟩
    simp [en82,qcj,qch,q9P]
 | succ m =>
  obtain ⟨e,he⟩:∃ e,(a.getD [])[m]?=some e:=⟨_,List.getElem?_eq_getElem (by omega)⟩
  rw [q4m he,q1p] at g5
  have hw:IntKind.i64.wrap (((m:Nat):Int) - 1)=((m:Nat):Int) - 1:=q0l (by omega) (by omega)
  have hbe:=ha e (List.mem_of_getElem? he)
  have hb0:¬ e.b=0:=by omega
  have hne:q0f d (b.getD []) e.b≠[]:=fun h=>by
   obtain ⟨z,hz⟩:=q5b hb (d:=d) _ e.b (Nat.le_refl _) hbe.1
   rw [h] at hz;simp at hz
  have hlen:=q5J (d:=d) hb hbe.1
  have hcall:=fun q hq=>hrec e.b q hbe.1 hbe.2 hq
  have hfne:=qcM (L:=q0f d (b.getD [])) hyn hb0 hne acc
  have hfu:=q7x (q0f d (b.getD [])) yes no (some e.b) g2
  have hfr:∀ z∈q0x (q0f d (b.getD [])) yes no (some e.b) acc,0≤z∧z≤99:=fun z hz=>by
   rcases (q6J _ _ _ _ _ _).1 hz with h | ⟨rfl,_⟩ | ⟨_,_,h⟩
   ·exact g3 z h
   ·omega
   ·have:=q1t hb _ e.b z (Nat.le_refl _) hbe.1 h;omega
  have hfl:=q6q hfu hfr
  cases acc with
  | nil =>
   obtain ⟨q',hq',hr⟩:=rd82_3 n a b c o d who no yes m e he hb0 hw hne (by omega) hcall hyn q g4 k
   refine ⟨q9R (RP (n+4)),rfl,?_⟩
   rw [qbP]
   simp only
   rw [hr]
   by_cases hc:e.a=who∧q3r e.f1 e.t2 d=true
   ·rw [if_pos hc] at g5 ⊢
    rw [qas] at g5
    by_cases h3:q3L e.f2 e.t1 d=true
    ·rw [if_pos h3] at g5 ⊢
     refine ⟨q0x (q0f d (b.getD [])) yes no (some e.b) [],q',hfu,by omega,.inl ⟨hfne,_,.inl ⟨?_,g5⟩,rfl⟩⟩
     cases no<;>simp
    ·rw [if_neg h3] at g5 ⊢
     have:=ih (m,no,q0x (q0f d (b.getD [])) yes no (some e.b) [],q') ⟨by simp only;omega,hfu,hfr,hq',g5⟩ (by simp only;omega)
     rw [q74 _ _ _ _ _ _ _ _ hfne] at this
     exact this
   ·rw [if_neg hc] at g5 ⊢
    exact ih (m,true,[],q') ⟨by simp only;omega,g2,g3,hq',g5⟩ (by simp only;omega)
  | cons y r =>
   cases j with
   | true =>
    obtain ⟨q',hq',hr⟩:=rd82_5 n a b c o d who no yes m e he hb0 hw hne (by omega) hcall (y::r) q g2 (by omega) g4 k
    refine ⟨q9Q (RP (n+4)),rfl,?_⟩
    rw [q74 _ _ _ _ _ _ _ _ (by simp)]
    simp only
    rw [hr]
    by_cases hc:e.a=who∧q3r e.f1 e.t2 d=true
    ·rw [if_pos hc] at g5 ⊢
     rw [qas] at g5
     by_cases h3:q3L e.f2 e.t1 d=true
     ·rw [if_pos h3] at g5 ⊢
      exact ⟨q0x (q0f d (b.getD [])) yes no (some e.b) (y::r),q',hfu,by omega,.inl ⟨hfne,_,.inl ⟨.inl rfl,g5⟩,rfl⟩⟩
     ·rw [if_neg h3] at g5 ⊢
      have:=ih (m,true,q0x (q0f d (b.getD [])) yes no (some e.b) (y::r),q') ⟨by simp only;omega,hfu,hfr,hq',g5⟩ (by simp only;omega)
      rw [q74 _ _ _ _ _ _ _ _ hfne] at this
      exact this
    ·rw [if_neg hc] at g5 ⊢
     exact ih (m,true,y::r,q') ⟨by simp only;omega,g2,g3,hq',g5⟩ (by simp only;omega)
   | false =>
    obtain ⟨q',hq',hr⟩:=rd82_7 n a b c o d who no yes m e he hb0 hw hne (by omega) hcall (y::r) q g2 (by omega) g4 k
    refine ⟨q9P (RP (n+4)),rfl,?_⟩
    rw [q74 _ _ _ _ _ _ _ _ (by simp)]
    simp only
    rw [hr]
    by_cases hc:e.a=who∧q3r e.f1 e.t2 d=true
    ·rw [if_pos hc] at g5 ⊢
     rw [qas] at g5
     by_cases h3:q3L e.f2 e.t1 d=true
     ·rw [if_pos h3] at g5 ⊢
      exact ⟨q0x (q0f d (b.getD [])) yes no (some e.b) (y::r),q',hfu,by omega,.inl ⟨hfne,_,.inl ⟨.inr rfl,g5⟩,rfl⟩⟩
     ·rw [if_neg h3] at g5 ⊢
      have:=ih (m,false,q0x (q0f d (b.getD [])) yes no (some e.b) (y::r),q') ⟨by simp only;omega,hfu,hfr,hq',g5⟩ (by simp only;omega)
      rw [q74 _ _ _ _ _ _ _ _ hfne] at this
      exact this
    ·rw [if_neg hc] at g5 ⊢
     exact ih (m,false,y::r,q') ⟨by simp only;omega,g2,g3,hq',g5⟩ (by simp only;omega)
set_option maxRecDepth 20000 in
theorem s82 (n:Nat) (a b c:Option (List E9)) (o:Option (List E5)) (d who:Int) (hd:0≤d∧d≤4166) (ha:qgU (a.getD [])) (hb:q9O (b.getD [])) (hla:(a.getD []).length≤1000000) (hlb:(b.getD []).length≤1000000) (hlc:(c.getD []).length≤1000000) (hlo:(o.getD []).length≤1000000) :
  FN (n+105) 82 [d9 a,d9 b,d9 c,d5 o,il who,il d]=some (0,[.d (dI (some (q3I (a.getD []) (b.getD []) (c.getD []) (o.getD []) d who)))]):=by
 rw [F82]
 have hloop:=l82 (n+100) a b c o d who (goP (a.getD []) (c.getD []) (o.getD []) d who).2 (goP (a.getD []) (c.getD []) (o.getD []) d who).1 (qhI _ _ _ _ _) ha hla hb
  (fun w q hw1 hw2 hq=>s161 a b c o d hb hlb 99 n w q hw1 (by omega) hw2 hq)
 rw [show n+100+4=n+104 from rfl] at hloop
 have hp:∀ k:List D→Out,(RP (n+104)).ptrW 4 (.dp [d9 a,d9 b,d9 c,d5 o] 0) k=k [d9 a,d9 b,d9 c,d5 o]:=fun k=>q21 _ 4 k rfl
 have w2:IntKind.i64.wrap (((a.getD []).length:Int) - 1)=((a.getD []).length:Int) - 1:=q0l (by omega) (by omega)
 simp only [G82,q0a,s163 (n+97) a b c o d who hd hla hlc hlo,q01,q03,q08,q68,q3w,hp,q0c,q65,q05,q27,w2,q0q,qiu]
 simp only [qh8,tz82,q0I] at hloop
 rw [show q3I (a.getD []) (b.getD []) (c.getD []) (o.getD []) d who=qas (q0f d (b.getD [])) (goP (a.getD []) (c.getD []) (o.getD []) d who).1 (goP (a.getD []) (c.getD []) (o.getD []) d who).2 (q1p d who (below (a.getD []) (a.getD []).length)) [] from rfl]
 generalize qas (q0f d (b.getD [])) (goP (a.getD []) (c.getD []) (o.getD []) d who).1 (goP (a.getD []) (c.getD []) (o.getD []) d who).2 (q1p d who (below (a.getD []) (a.getD []).length)) []=T at hloop ⊢
 obtain ⟨acc,q,hu,hl,⟨hne,j,hj,hr⟩ | ⟨hr,_,hT⟩⟩:=hloop
 ·rw [hr]
  have hput:=q10 (n+100) acc 0 (by omega) hu
  rw [show n+100+4=n+104 from rfl] at hput
  rcases hj with ⟨rfl | rfl,rfl⟩ | ⟨rfl | rfl,rfl⟩
  ·simp [qch,q76]
  ·simp [qch,q76]
  ·simp [qch,hput,q76]
  ·simp [qch,hput,q76]
 ·rw [hr,← hT]
  simp only [tz82,q01,q0S,decide_true,q00,if_true,q1e,qg1,q03,q08,Bool.false_eq_true,if_false]
  rw [put0]
  simp [dI,dSl,ins,rI]
end Go.VE
namespace Go.VE
open Go.RowKit Go.Proofs
attribute [local simp] q50 q5y
theorem q6E {a b c:List E9} {o:List E5} (h:q0D a b c o=true):(∀ e∈a,q22 e)∧(∀ e∈b,q1z e)∧(∀ e∈c,q23 e)∧(∀ e∈o,q3M e):=by
 unfold q0D at h
 simp only [Bool.and_eq_true] at h
 obtain ⟨⟨⟨⟨_,h1⟩,h2⟩,h3⟩,h4⟩:=h
 exact ⟨fun e he=>of_decide_eq_true (q6D h1 e he),fun e he=>of_decide_eq_true (q6D h2 e he),fun e he=>of_decide_eq_true (q6D h3 e he),fun e he=>of_decide_eq_true (q6D h4 e he)⟩
theorem q8h {k:Int} {l:List E9} {e:E9} (h:e∈q4l k l):e∈l:=(List.mem_filter.1 h).1
structure GoodK (a b c:List E9) (o:List E5):Prop where
 fam:qgU a
 less:q9O b
 by0:By0 c
 la:a.length≤60
 lb:b.length≤60
 lc:c.length≤60
 lo:o.length≤60
theorem qak {a b c:List E9} {o:List E5} (h:q0D a b c o=true):GoodK a b c o:=by
 obtain ⟨p1,p2,p3,_⟩:=q6E h
 obtain ⟨l1,l2,l3,l4⟩:=q1y h
 exact ⟨fun e he=>(p1 e he).2.2.1,fun e he=>⟨(p2 e he).2.2.1.1,by have:=(p2 e he).2.2.1.2;omega,(p2 e he).2.1.2⟩,fun e he=>(p3 e he).2.2.1.1,l1,l2,l3,l4⟩
theorem q8m (k:Int) (l:List E9):(q4l k l).length≤l.length:=List.length_filter_le _ _
theorem qg7 (k:Int) (l:List E5):(qfp k l).length≤l.length:=List.length_filter_le _ _
theorem GoodK.cnt {a b c:List E9} {o:List E5} (h:GoodK a b c o) (k:Int):GoodK (q4l k a) (q4l k b) (q4l k c) (qfp k o) :=
 ⟨fun e he=>h.fam e (q8h he),fun e he=>h.less e (q8h he),fun e he=>h.by0 e (q8h he),Nat.le_trans (q8m ..) h.la,Nat.le_trans (q8m ..) h.lb,Nat.le_trans (q8m ..) h.lc,Nat.le_trans (qg7 ..) h.lo⟩
theorem s199 (n:Nat) (o:Option (List Int)) (x:Int) (hl:(o.getD []).length≤4611686018427387904):FN (n+1) 199 [dI o,il x]=some (0,[.d (il (q6l (fun y=>decide (x=y)) (o.getD [])))]):=by
 rw [F199]
 simp only [G199,q5K,q05,q0q]
 have:=q0u (β:=Unit) (o.getD []) hl (qc3 (RP n)) (fun i _=>[.d (dI o),.d (il x),.d (il (o.getD []).length),.d (il i)]) (fun _ _=>True)
  (fun i r _=>match fnd (fun y=>decide (x=y)) r with
   | some j=>some (0,[.d (il ((i+j:Nat):Int))])
   | none=>some (1,[]))
  (fun _ k _=>by simp [qc3,fnd]) ?_ M0 () trivial (q2J hl)
 ·simp only [Int.natCast_zero,Nat.zero_add] at this
  rw [this]
  unfold q6l
  cases fnd (fun y=>decide (x=y)) (o.getD [])<;>simp
 ·intro i e r _ k hi hd hlt hw _ ih
  have ih':=ih () trivial
  have hlt':(i:Int) < ((o.getD []).length:Int):=by omega
  simp only [qc3,q03,q08,q0n,q00,hlt',decide_true,if_true,q5s hi,rI,q0c,q0S,q05,q0o,hw,q0e,decide_eq_true_eq]
  by_cases h:x=e
  ·subst h;simp [fnd]
  ·rw [if_neg h]
   have h':fnd (fun y=>decide (x=y)) (e::r)=(fnd (fun y=>decide (x=y)) r).map (·+1):=by simp [fnd,h]
   rw [h']
   refine Eq.trans ih' ?_
   cases fnd (fun y=>decide (x=y)) r with
   | none=>rfl
   | some j=>simp [Nat.add_assoc,Nat.add_comm 1 j]
theorem s149 (n:Nat) (o:Option (List Int)) (x:Int) (hl:(o.getD []).length≤4611686018427387904):FN (n+2) 149 [dI o,il x]=some (0,[.d (bl (decide (x∈o.getD [])))]):=by
 rw [F149]
 simp only [G149,q0a,s199 n o x hl,q01,q03,q05,q2f,q0e,q5L]
 have:((o.getD []).any fun y=>decide (x=y))=decide (x∈o.getD []):=by
  rw [Bool.eq_iff_iff,q33,decide_eq_true_iff]
  constructor
  ·rintro ⟨y,hy,h⟩;have:=of_decide_eq_true h;subst this;exact hy
  ·intro h;exact ⟨x,h,by simp⟩
 rw [this]
def q72 (k:Int) (a b c:Option (List E9)) (o:Option (List E5)) (d p:Int):List Int:=q3I (q4l k (a.getD [])) (q4l k (b.getD [])) (q4l k (c.getD [])) (qfp k (o.getD [])) d p
section
variable {a b c:Option (List E9)} {o:Option (List E5)}
theorem k82 (n:Nat) (d who:Int) (hd:0≤d∧d≤4166) (g:GoodK (a.getD []) (b.getD []) (c.getD []) (o.getD [])) :
  FN (n+105) 82 [d9 a,d9 b,d9 c,d5 o,il who,il d]=some (0,[.d (dI (some (q3I (a.getD []) (b.getD []) (c.getD []) (o.getD []) d who)))]) :=
 s82 n a b c o d who hd g.fam g.less (by have:=g.la;omega) (by have:=g.lb;omega) (by have:=g.lc;omega) (by have:=g.lo;omega)
theorem qe3 (d p:Int) (g:GoodK (a.getD []) (b.getD []) (c.getD []) (o.getD [])):(q3I (a.getD []) (b.getD []) (c.getD []) (o.getD []) d p).length≤100 :=
 q6q (q5u ..) fun _ hz=>q47 g.fam g.less hz
theorem k86 (n:Nat) (d who f:Int) (hd:0≤d∧d≤4166) (g:GoodK (a.getD []) (b.getD []) (c.getD []) (o.getD [])) :
  FN (n+106) 86 [d9 a,d9 b,d9 c,d5 o,il who,il f,il d]=some (0,[.d (il (q8w (q3I (a.getD []) (b.getD []) (c.getD []) (o.getD []) d who) f))]):=by
 rw [F86]
 have hlen:=qe3 d who g
 obtain ⟨x,r,hx,_⟩:=qa3 (q5u (a.getD []) (b.getD []) (c.getD []) (o.getD []) d who) (fun z hz=>(q47 g.fam g.less hz).1) (qeB g.fam g.less)
 simp only [G86,q0a,k82 n d who hd g,q01,q03]
 rw [←forP _ f x r hx]
 have h149:=s149 (n+103) (some (q3I (a.getD []) (b.getD []) (c.getD []) (o.getD []) d who)) f (by simp only [Option.getD_some];omega)
 have hrow:∀ q:List D→Out,(RP (n+105)).rowD 1 (dI (some (q3I (a.getD []) (b.getD []) (c.getD []) (o.getD []) d who))) (il 0) q=q (rI x):=fun q=>q5s (i:=0) (by rw [hx];rfl) q
 simp only [Option.getD_some] at h149
 simp only [h149,q01,q03,q5K,Option.getD_some,q05,q3U,q00,q15,s84,q0e,decide_eq_true_eq,hrow,rI,q0c,q12]
 generalize q3I (a.getD []) (b.getD []) (c.getD []) (o.getD []) d who=l at hx ⊢
 by_cases h:1 < l.length
 ·rw [if_pos (by omega)];simp [h]
 ·rw [if_neg (by omega)];simp [h]
end
theorem q42 {a b c:Option (List E9)} {o:Option (List E5)} {ps fs:Bool} {p f:Int} {ds:List Int} (k:Int) (h:q2l (q0D (a.getD []) (b.getD []) (c.getD []) (o.getD [])) ps fs p f ds=0):GoodK ((kn9 k a).getD []) ((kn9 k b).getD []) ((kn9 k c).getD []) ((kn5 k o).getD []):=by
 rw [q0s,q0s,q0s,q2Q]
 exact (qak (q5W h)).cnt k
section
variable (n:Nat) (p f d k:Int) (a b c:Option (List E9)) (o:Option (List E5)) (ha:(a.getD []).length*72≤140737488351232) (hb:(b.getD []).length*72≤140737488351232) (hc:(c.getD []).length*72≤140737488351232) (ho:(o.getD []).length*40≤140737488351232)
include ha hb hc ho
theorem qcW (ps fs:Bool):FN (n+10) 73 [il p,il f,bl ps,bl fs,d9 a,d9 b,d9 c,d5 o,.sl 1 [[il d],[il k]]]=q4R (q2l (q0D (a.getD []) (b.getD []) (c.getD []) (o.getD [])) ps fs p f [d,k]) (q0I (kn9 k a) (kn9 k b) (kn9 k c) (kn5 k o)):=by
 have h73:=s73 n p f ps fs a b c o [d] k (by simp) ha hb hc ho
 rw [show dI (some ([d]++[k]))=.sl 1 [[il d],[il k]] from rfl] at h73
 exact h73
set_option maxRecDepth 20000 in
theorem s14:FN (n+105) 14 [d9 a,d9 b,d9 c,d5 o,il f,il d,il k]=if q2l (q0D (a.getD []) (b.getD []) (c.getD []) (o.getD [])) false true 0 f [d,k]=0 then some (0,[.d (dI (some (q0f d (q4l k (b.getD [])) f))),.d (il 0)]) else some (0,[.d (dI none),.d (il (q2l (q0D (a.getD []) (b.getD []) (c.getD []) (o.getD [])) false true 0 f [d,k]))]):=by
 rw [F14]
 simp only [G14,q0a,s79,q01,q03,q08,q0K,q1k,qcW (n+94) 0 f d k a b c o ha hb hc ho false true]
 by_cases he:q2l (q0D (a.getD []) (b.getD []) (c.getD []) (o.getD [])) false true 0 f [d,k]=0
 ·have g:=q42 k he
  have hf:1≤f∧f≤99:=by
   unfold q2l at he
   split at he
   ·simp at he
   ·split at he
    ·simp at he
    ·split at he
     ·simp at he
     ·rename_i h2;simpa using h2
  have hlb:=g.lb
  obtain ⟨q',_,h161⟩:=s161 (kn9 k a) (kn9 k b) (kn9 k c) (kn5 k o) d g.less (by omega) 99 n f ([],[]) hf.1 (by omega) hf.2 (qbw _ _)
  rw [if_pos he]
  simp only [q4R,he,if_true,q01,q03,q08,q05,q12,ne_eq,not_true_eq_false,decide_false,q00,Bool.false_eq_true,if_false,qiu,q5y,h161,q50,q0e]
  rw [q0s]
 ·rw [if_neg he]
  simp only [q4R,if_neg he,q01,q03,q08,q05,q12,q00]
  rw [if_pos (by simpa using he)]
  simp [dI,dSl]
set_option maxRecDepth 20000 in
theorem s16:FN (n+106) 16 [d9 a,d9 b,d9 c,d5 o,il p,il d,il k]=if q2l (q0D (a.getD []) (b.getD []) (c.getD []) (o.getD [])) true false p 0 [d,k]=0 then some (0,[.d (dI (some (q72 k a b c o d p))),.d (il 0)]) else some (0,[.d (dI none),.d (il (q2l (q0D (a.getD []) (b.getD []) (c.getD []) (o.getD [])) true false p 0 [d,k]))]):=by
 rw [F16]
 simp only [G16,q0a,s72,q01,q03,q08,q0K,q1k,qcW (n+95) p 0 d k a b c o ha hb hc ho true false]
 by_cases he:q2l (q0D (a.getD []) (b.getD []) (c.getD []) (o.getD [])) true false p 0 [d,k]=0
 ·have g:=q42 k he
  rw [if_pos he]
  have hp:∀ q:List D→Out,(RP (n+105)).ptrW 4 (q0I (kn9 k a) (kn9 k b) (kn9 k c) (kn5 k o)) q=q [d9 (kn9 k a),d9 (kn9 k b),d9 (kn9 k c),d5 (kn5 k o)]:=fun q=>q21 _ 4 q rfl
  simp only [q4R,he,if_true,q01,q03,q08,q05,q12,ne_eq,not_true_eq_false,decide_false,q00,Bool.false_eq_true,if_false,hp,q0c,q0B,k82 n d p (q4a he).1 g,q0e]
  rw [q0s,q0s,q0s,q2Q];rfl
 ·rw [if_neg he]
  simp only [q4R,if_neg he,q01,q03,q08,q05,q12,q00]
  rw [if_pos (by simpa using he)]
  simp [dI,dSl]
set_option maxRecDepth 20000 in
theorem s18:FN (n+107) 18 [d9 a,d9 b,d9 c,d5 o,il p,il d,il k]=if q2l (q0D (a.getD []) (b.getD []) (c.getD []) (o.getD [])) true false p 0 [d,k]=0 then some (0,[.d (il (q5N (q4l k (a.getD [])) (q4l k (c.getD [])) (qfp k (o.getD [])) d p)),.d (il 0)]) else some (0,[.d (il 0),.d (il (q2l (q0D (a.getD []) (b.getD []) (c.getD []) (o.getD [])) true false p 0 [d,k]))]):=by
 rw [F18]
 simp only [G18,q0a,s16 n p d k a b c o ha hb hc ho]
 by_cases he:q2l (q0D (a.getD []) (b.getD []) (c.getD []) (o.getD [])) true false p 0 [d,k]=0
 ·have g:=(qak (q5W he)).cnt k
  rw [if_pos he,if_pos he]
  have hr:∀ z∈q72 k a b c o d p,0≤z:=fun z hz=>(q47 g.fam g.less hz).1
  obtain ⟨x,r,hx,_⟩:=qa3 (q5u _ _ _ _ d p) hr (qeB g.fam g.less)
  have hlen:(q72 k a b c o d p).length≤100:=q6q (q5u ..) fun z hz=>q47 g.fam g.less hz
  have hpos:0 < (q72 k a b c o d p).length:=by rw [show q72 k a b c o d p=x::r from hx];simp
  obtain ⟨y,hy⟩:∃ y,(q72 k a b c o d p)[(q72 k a b c o d p).length - 1]?=some y:=⟨_,List.getElem?_eq_getElem (by omega)⟩
  have hgl:=qiQ g.fam g.less g.by0 hx hy
  have hw:IntKind.i64.wrap (((q72 k a b c o d p).length:Int) - 1)=(((q72 k a b c o d p).length - 1:Nat):Int):=by rw [q0l (by omega) (by omega)];omega
  have h0:∀ q:List D→Out,(RP (n+106)).rowD 1 (dI (some (q72 k a b c o d p))) (il 0) q=q (rI x):=fun q=>q5s (i:=0) (by rw [show q72 k a b c o d p=x::r from hx];rfl) q
  have h1:∀ q:List D→Out,(RP (n+106)).rowD 1 (dI (some (q72 k a b c o d p))) (il (((q72 k a b c o d p).length - 1:Nat):Int)) q=q (rI y):=fun q=>q5s (o:=some (q72 k a b c o d p)) hy q
  simp only [q01,q03,q08,q05,q12,ne_eq,not_true_eq_false,decide_false,q00,Bool.false_eq_true,if_false,q5K,Option.getD_some,q27,hw,h0,h1,rI,q0c,q0S,s84,q0e]
  rw [←hgl]
 ·rw [if_neg he,if_neg he]
  simp only [q01,q03,q08,q05,q12,q00]
  rw [if_pos (by simpa using he)]
  simp
set_option maxRecDepth 20000 in
theorem s20:FN (n+107) 20 [d9 a,d9 b,d9 c,d5 o,il p,il f,il d,il k]=if q2l (q0D (a.getD []) (b.getD []) (c.getD []) (o.getD [])) true true p f [d,k]=0 then some (0,[.d (il (q8w (q72 k a b c o d p) f)),.d (il 0)]) else some (0,[.d (il 0),.d (il (q2l (q0D (a.getD []) (b.getD []) (c.getD []) (o.getD [])) true true p f [d,k]))]):=by
 rw [F20]
 simp only [G20,q0a,q15,q0K,q1k,qcW (n+96) p f d k a b c o ha hb hc ho true true]
 by_cases he:q2l (q0D (a.getD []) (b.getD []) (c.getD []) (o.getD [])) true true p f [d,k]=0
 ·have g:=q42 k he
  rw [if_pos he]
  have hp:∀ q:List D→Out,(RP (n+106)).ptrW 4 (q0I (kn9 k a) (kn9 k b) (kn9 k c) (kn5 k o)) q=q [d9 (kn9 k a),d9 (kn9 k b),d9 (kn9 k c),d5 (kn5 k o)]:=fun q=>q21 _ 4 q rfl
  simp only [q4R,he,if_true,q01,q03,q08,q05,q12,ne_eq,not_true_eq_false,decide_false,q00,Bool.false_eq_true,if_false,hp,q0c,q0B,k86 n d p f (q4a he).1 g,q0e]
  rw [q0s,q0s,q0s,q2Q];rfl
 ·rw [if_neg he]
  simp only [q4R,if_neg he,q01,q03,q08,q05,q12,q00]
  rw [if_pos (by simpa using he)]
  simp
end
end Go.VE
namespace Go.VE
open Go.RowKit Go.Proofs
theorem qbu {l:List Int} (h:l≠[]):nzO l=some l:=by
 cases l with
 | nil=>exact absurd rfl h
 | cons _ _=>rfl
section
variable (n:Nat) (p f d k:Int) (a b c:Option (List E9)) (o:Option (List E5)) (ha:(a.getD []).length*72≤140737488351232) (hb:(b.getD []).length*72≤140737488351232) (hc:(c.getD []).length*72≤140737488351232) (ho:(o.getD []).length*40≤140737488351232)
include ha hb hc ho
end
end Go.VE
namespace Go.VE
open Go.RowKit Go.Proofs
def q4q (l:List E9):List Int:=q06 [] (l.map (·.a))
theorem q9o (l:List E9):(q4q l).length≤l.length:=by
 have:=q1g (l.map (·.a)) []
 simpa [q4q] using this
theorem qfV {l:List E9} (h:l≠[]):q4q l≠[]:=q40 [] (by simpa using h)
set_option maxRecDepth 20000 in
theorem s111 (n:Nat) (a:Option (List E9)) (b c o:D) (hl:(a.getD []).length≤1000000):FN (n+5) 111 [d9 a,b,c,o]=match q4q (a.getD []) with
  | []=>some (1,[.d (dI none)])
  | y::r=>some (0,[.r ((y::r).map rI)]):=by
 rw [F111]
 simp only [G111,q65,q05,q0q]
 by_cases hne:a.getD []=[]
 ·rw [hne]
  have h0:q0p [q82 (RP (n+4)),q81 (RP (n+4))] M0 0 [.d (d9 a),.d (il (([]:List E9).length:Int)),.d (il 0)]=some (0,[]) :=
   q2A (σ:=Unit) [q82 (RP (n+4)),q81 (RP (n+4))] (fun _=>(0,[.d (d9 a),.d (il (([]:List E9).length:Int)),.d (il 0)])) (fun _=>0) (fun _=>True) (fun _=>some (0,[])) (fun s k _ _=>⟨_,rfl,by simp [q82]⟩) M0 () trivial (by unfold M0;omega)
  rw [h0]
  rfl
 ·have hL:((a.getD []).map (·.a)).length=(a.getD []).length:=by simp
  have:=qai ((a.getD []).map (·.a)) (by simpa using hl) (by simpa using hne) (q82 (RP (n+4))) (q81 (RP (n+4))) (fun i=>[.d (d9 a),.d (il (a.getD []).length),.d (il (i:Nat))])
   (fun i acc=>[.n acc.length,.n acc.length,.d (d9 a),.d (il (a.getD []).length),.d (il (i:Nat)),.r (acc.map rI)]) (fun acc=>some (1,[.n acc.length,.n acc.length,.r (acc.map rI)])) ?_ ?_ ?_
  ·rw [show il 0=il ((0:Nat):Int) from rfl,this]
   rw [show q06 [] ((a.getD []).map (·.a))=q4q (a.getD []) from rfl]
   have hp:=qfV hne
   cases hq:q4q (a.getD []) with
   | nil=>exact absurd hq hp
   | cons y r=>simp;exact qha r
  ·intro acc k
   rw [hL]
   simp [q81]
  ·intro x k hi hlt
   rw [hL] at hlt
   obtain ⟨e,he,rfl⟩:∃ e,(a.getD [])[0]?=some e∧e.a=x:=by
    rw [List.getElem?_map] at hi
    cases h0:(a.getD [])[0]? with
    | none=>rw [h0] at hi;simp at hi
    | some e=>rw [h0] at hi;exact ⟨e,rfl,by simpa using hi⟩
   have h9:=q5t (Fn:=FN (n+4)) (FnD:=q1q Tryz.prog (cf3 tb Tryz.prog) (FN (n+4))) (m:=M0) he
   simp only [q82,q03,q08,q0n,q00,Int.natCast_zero,hlt,decide_true,if_true]
   rw [show ((il 0):D)=il ((0:Nat):Int) from rfl,h9]
   simp only [r9,q0c,q0B,q0a,q1e,qg1,q01,q03,q08,q00,Bool.false_eq_true,if_false]
   rw [put0]
   simp only [q05,q0o,q1i,q0K,q0Q,q0M,List.length_cons,List.length_nil,List.take_succ_cons,List.take_zero,Int.natCast_zero]
   rw [show IntKind.i64.wrap (0+1)=((1:Nat):Int) from rfl]
  ·intro i x acc k hi hlt hw hu hal
   rw [hL] at hlt
   obtain ⟨e,he,rfl⟩:∃ e,(a.getD [])[i]?=some e∧e.a=x:=by
    rw [List.getElem?_map] at hi
    cases h0:(a.getD [])[i]? with
    | none=>rw [h0] at hi;simp at hi
    | some e=>rw [h0] at hi;exact ⟨e,rfl,by simpa using hi⟩
   have hput:=q10 n acc e.a (by omega) hu
   simp only [q81,q03,q08,q0P,q0O,q0F,q0V,q0n,q00,hlt,decide_true,if_true,q5t he,r9,q0c,q0B,q0Q,q0T,List.length_map,q1k,q0a]
   simp only [hput,q01,q03,q0H,q05,q0o,hw,List.length_map]
theorem s90 (n:Nat) (z:Int):FN (n+1) 90 [il z]=some (0,[.d (bl (decide (z=1)))]):=by rw [F90];simp [G90]
theorem s91 (n:Nat) (z:Int):FN (n+1) 91 [il z]=some (0,[.d (bl (decide (z≠0)))]):=by rw [F91];simp only [G91,q05,q12,q0e]
theorem d90 (n:Nat) (z:Int):FD (n+1) (.fn 90 []) [.one] (rI z)=some (0,[.d (bl (decide (z=1)))]) :=
 q3F [.one] [.one (il z)] (by decide) rfl (by kernel_rfl) rfl (by kernel_rfl) (s90 n z)
theorem d91 (n:Nat) (z:Int):FD (n+1) (.fn 91 []) [.one] (rI z)=some (0,[.d (bl (decide (z≠0)))]) :=
 q3F [.one] [.one (il z)] (by decide) rfl (by kernel_rfl) rfl (by kernel_rfl) (s91 n z)
section
variable {a b c:Option (List E9)} {o:Option (List E5)}
theorem s169 (n:Nat) (d f p:Int) (is:D) (q:Int→Bool) (hq:∀ z,FD (n+106) is [.one] (rI z)=some (0,[.d (bl (q z))])) (hd:0≤d∧d≤4166) (g:GoodK (a.getD []) (b.getD []) (c.getD []) (o.getD [])) :
  FN (n+107) 169 [il p,is,q0I a b c o,il f,il d]=some (0,[.d (bl (!q (q8w (q3I (a.getD []) (b.getD []) (c.getD []) (o.getD []) d p) f)))]):=by
 rw [F169]
 have hp:∀ k:List D→Out,(RP (n+106)).ptrW 4 (q0I a b c o) k=k [d9 a,d9 b,d9 c,d5 o]:=fun k=>q21 _ 4 k rfl
 have hz:∀ z,q1q Tryz.prog (cf3 tb Tryz.prog) (FN (n+106)) is [.one] [il z]=some (0,[.d (bl (q z))]):=hq
 simp only [G169,hp,q0c,q0B,q0a,k86 n d p f hd g,q01,q03,q1P,hz,q0N,q0e]
theorem d169 (n:Nat) (d f p:Int) (is:D) (q:Int→Bool) (hq:∀ z,FD (n+106) is [.one] (rI z)=some (0,[.d (bl (q z))])) (hd:0≤d∧d≤4166) (g:GoodK (a.getD []) (b.getD []) (c.getD []) (o.getD [])) :
  FD (n+107) (.fn 169 [.dp [is] 0,.dp [q0I a b c o] 0,.dp [il f] 0,.dp [il d] 0]) [.one] (rI p)=some (0,[.d (bl (!q (q8w (q3I (a.getD []) (b.getD []) (c.getD []) (o.getD []) d p) f)))]) :=
 q3F [.one,.ptr 1,.ptr 1,.ptr 1,.ptr 1] [.one (il p)] (by decide) rfl (by kernel_rfl) rfl (by kernel_rfl) (s169 n d f p is q hq hd g)
end
end Go.VE
