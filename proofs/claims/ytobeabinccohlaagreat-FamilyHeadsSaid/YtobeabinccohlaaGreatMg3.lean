/- Family: loops that put numbers into a list; maps of what is known. -/
import Derived.Test.YtobeabinccohlaaGreatMg2
namespace Go.VE
open Go.RowKit Go.Proofs
theorem q6i (l:List Int) (hl:l.length≤1000000) (body:(Nat→List Yr→Out)→List Yr→Out) (st:Nat→List Int→List Yr) (ex:List Int→Out) (N:Nat)
  (h0:∀ acc k,body k (st l.length acc)=ex acc)
  (h1:∀ (i:Nat) c acc (k:Nat→List Yr→Out),l[i]?=some c→(i:Int) < (l.length:Int)→IntKind.i64.wrap ((i:Int)+1)=((i+1:Nat):Int)→Up acc→acc.length≤N+1000000→body k (st i acc)=k 0 (st (i+1) (ins c acc)))
  (acc:List Int) (hu:Up acc) (hN:acc.length≤N):q0u [body] M0 0 (st 0 acc)=ex (q0a acc l):=by
 refine q0z l (by omega) body st (fun i acc=>Up acc∧acc.length≤N+i) (fun _ r acc=>ex (q0a acc r)) (fun b k _=>h0 b k) ?_ M0 acc ⟨hu,by omega⟩ (by unfold M0;omega)
 intro i c r acc k hi hd hlt hw hI ih
 obtain ⟨g1,g2⟩:=hI
 rw [h1 i c acc k hi (by omega) (by rw [hw];simp) g1 (by omega)]
 have:=q2Q c acc
 rw [ih (ins c acc) ⟨q3s c g1,by omega⟩]
 rfl
def enI (z:Nat→List Yr) (st:Nat→List Int→List Yr) (s:Nat×List Int):Nat×List Yr:=match s.2 with
 | []=>(0,z s.1)
 | y::r=>(1,st s.1 (y::r))
theorem qf3 (z:Nat→List Yr) (st:Nat→List Int→List Yr) {i:Nat} {acc:List Int} (h:acc≠[]):enI z st (i,acc)=(1,st i acc):=by
 cases acc with
 | nil=>exact absurd rfl h
 | cons _ _=>rfl
theorem q7F (l:List Int) (hl:l.length≤1000000) (hne:l≠[]) (b0 b1:(Nat→List Yr→Out)→List Yr→Out) (z:Nat→List Yr) (st:Nat→List Int→List Yr) (ex:List Int→Out)
  (h0:∀ acc k,b1 k (st l.length acc)=ex acc)
  (hz:∀ c (k:Nat→List Yr→Out),l[0]?=some c→(0:Int) < (l.length:Int)→b0 k (z 0)=k 1 (st 1 [c]))
  (h1:∀ (i:Nat) c acc (k:Nat→List Yr→Out),l[i]?=some c→(i:Int) < (l.length:Int)→IntKind.i64.wrap ((i:Int)+1)=((i+1:Nat):Int)→Up acc→acc.length≤1000000→b1 k (st i acc)=k 1 (st (i+1) (ins c acc))) :
  q0u [b0,b1] M0 0 (z 0)=ex (q0a [] l):=by
 refine q2i (σ:=Nat×List Int) [b0,b1] (enI z st) (fun s=>l.length - s.1) (fun s=>s.1≤l.length∧Up s.2∧s.2.length≤s.1∧(s.2=[]→s.1=0)) (fun s=>ex (q0a s.2 (l.drop s.1))) ?_ M0 (0,[]) ⟨by simp,by simp,by simp,fun _=>rfl⟩ (by unfold M0;simp only;omega)
 rintro ⟨i,acc⟩ k ⟨g1,g2,g3,g4⟩ ih
 simp only at g1 g2 g3 g4 ih ⊢
 by_cases h:i < l.length
 ·have hd:=List.drop_eq_getElem_cons h
  have hi:l[i]?=some l[i]:=List.getElem?_eq_getElem h
  have ih':=ih (i+1,ins l[i] acc) ⟨by simp only;omega,q3s _ g2,by have:=q2Q l[i] acc;simp only;omega,fun h=>absurd h (q7G _ _)⟩ (by simp only;omega)
  rw [hd,q5g]
  rw [qf3 _ _ (q7G _ _)] at ih'
  by_cases ha:acc=[]
  ·subst ha
   have hi0:=g4 rfl
   subst hi0
   exact ⟨b0,rfl,by rw [show (enI z st (0,[])).2=z 0 from rfl,hz _ k hi (by omega)];exact ih'⟩
  ·rw [qf3 _ _ ha]
   exact ⟨b1,rfl,by simp only;rw [h1 i _ acc k hi (by omega) (by rw [q0f (by omega) (by omega)];simp) g2 (by omega)];exact ih'⟩
 ·have hil:i=l.length:=by omega
  subst hil
  have ha:acc≠[]:=fun h=>hne (List.eq_nil_of_length_eq_zero (g4 h))
  rw [qf3 _ _ ha]
  exact ⟨b1,rfl,by simp only [List.drop_length];exact h0 acc k⟩
section
variable {Fn:Nat→List D→Out} {FnD:D→List Sh→List D→Out} {m:Nat}
theorem q5z (q:Mr) (k:Mr→Out):(q06 Fn FnD m).asM false (.mp false q.1 q.2) k=k q:=rfl
theorem q67 (q:Mr):(q06 Fn FnD m).mpD false q=.mp false q.1 q.2:=rfl
theorem qdU (kd:Nat) (mm:Mr) (key:D) (ds:List D) (k:Mr→Out):(q06 Fn FnD m).upd kd mm key ds k=match qi3 kd mm key ds with
  | some p=>k p
  | none=>none:=rfl
end
def q61 (d:Int) (b:List E9) (q:Mr):Prop:=q.1.length=q.2.length∧∀ (j:Nat) v,q.1[j]?=some v→∃ f:Int,v=.int .i64 f∧q.2[j]?=some [dI (some (q0d d b f))]
theorem qc3 (d:Int) (b:List E9):q61 d b ([],[]):=⟨rfl,fun j v h=>by simp at h⟩
theorem q7P (f:Int):∀ (keys:List Value) (i:Nat),(∀ v∈keys,∃ g:Int,v=.int .i64 g)→(q4a 0 (.int .i64 f) keys i=some none∨∃ j,q4a 0 (.int .i64 f) keys i=some (some (i+j))∧keys[j]?=some (.int .i64 f))
 | [],i,_=>.inl rfl
 | x::r,i,h=>by
  obtain ⟨g,rfl⟩:=h x (by simp)
  have ih:=q7P f r (i+1) fun v hv=>h v (List.mem_cons_of_mem _ hv)
  have e:q4a 0 (.int .i64 f) (.int .i64 g::r) i=if f=g then some (some i) else q4a 0 (.int .i64 f) r (i+1):=by
   simp only [q4a,kEq,if_true]
   by_cases hfg:f=g
   ·subst hfg;simp
   ·have:(f==g)=false:=by simp [hfg]
    simp [this,hfg]
  rw [e]
  by_cases hfg:f=g
  ·subst hfg;exact .inr ⟨0,by simp⟩
  ·rw [if_neg hfg]
   rcases ih with ih | ⟨j,h1,h2⟩
   ·exact .inl ih
   ·exact .inr ⟨j+1,by rw [h1];congr 2;omega,by simpa using h2⟩
theorem qa6 {d:Int} {b:List E9} {q:Mr} (h:q61 d b q):∀ v∈q.1,∃ g:Int,v=.int .i64 g:=fun v hv=>by
 obtain ⟨j,hj⟩:=List.getElem?_of_mem hv
 obtain ⟨f,hf,_⟩:=h.2 j v hj
 exact ⟨f,hf⟩
theorem qej {d:Int} {b:List E9} {q:Mr} (h:q61 d b q) (f:Int):q9g 0 [.slice none 0 0] q (il f)=some ([dI (some (q0d d b f))],bl true)∨q9g 0 [.slice none 0 0] q (il f)=some ([.lit (.slice none 0 0)],bl false):=by
 rcases q7P f q.1 0 (qa6 h) with e | ⟨j,e,hj⟩
 ·right;simp only [q9g,qhB,il,q7D,if_true,e];rfl
 ·left
  obtain ⟨g,hg,h2⟩:=h.2 j _ hj
  cases hg
  rw [Nat.zero_add] at e
  simp only [q9g,qhB,il,q7D,if_true,e,h2];rfl
theorem qgk {d:Int} {b:List E9} {q:Mr} (h:q61 d b q) (f:Int):∃ q',qi3 0 q (il f) [dI (some (q0d d b f))]=some q'∧q61 d b q':=by
 rcases q7P f q.1 0 (qa6 h) with e | ⟨j,e,hj⟩
 ·refine ⟨(q.1++[.int .i64 f],q.2++[[dI (some (q0d d b f))]]),by simp only [qi3,qhB,il,q7D,if_true,e],by simp [h.1],?_⟩
  intro j v hv
  simp only at hv ⊢
  by_cases hj:j < q.1.length
  ·rw [List.getElem?_append_left hj] at hv
   obtain ⟨g,h1,h2⟩:=h.2 j v hv
   exact ⟨g,h1,by rw [List.getElem?_append_left (by rw [←h.1];exact hj)];exact h2⟩
  ·have hj2:j=q.1.length:=by
    have:=List.getElem?_eq_some_iff.1 hv
    obtain ⟨h3,_⟩:=this
    simp at h3;omega
   subst hj2
   simp at hv
   exact ⟨f,hv.symm,by rw [h.1];simp⟩
 ·rw [Nat.zero_add] at e
  refine ⟨(q.1,q.2.set j [dI (some (q0d d b f))]),by simp only [qi3,qhB,il,q7D,if_true,e],by simp [h.1],?_⟩
  intro i v hv
  simp only at hv ⊢
  obtain ⟨g,h1,h2⟩:=h.2 i v hv
  refine ⟨g,h1,?_⟩
  by_cases hij:j=i
  ·subst hij
   rw [hj] at hv
   cases hv
   have:f=g:=by cases h1;rfl
   subst this
   have hjl:j < q.2.length:=by
    obtain ⟨h3,_⟩:=List.getElem?_eq_some_iff.1 h2
    exact h3
   simp [hjl]
  ·rw [List.getElem?_set_ne hij];exact h2
end Go.VE
namespace Go.VE
open Go.RowKit Go.Proofs
attribute [local simp] q5z q67
theorem put0 {m:Nat} {Fn:Nat→List D→Out} {FnD:D→List Sh→List D→Out} (c:Int) (k:Rr→Out) (e:Out):((q06 Fn FnD m).eqN ((q06 Fn FnD m).natN 1) ((q06 Fn FnD m).len ((q06 Fn FnD m).rows [[il c]])) ((q06 Fn FnD m).isNil ((q06 Fn FnD m).seg ((q06 Fn FnD m).rows [[il c]]) none ((q06 Fn FnD m).natN 1)) e ((q06 Fn FnD m).fits 8 ((q06 Fn FnD m).len ((q06 Fn FnD m).seg ((q06 Fn FnD m).rows [[il c]]) none ((q06 Fn FnD m).natN 1))) ((q06 Fn FnD m).ins (il 0) ((q06 Fn FnD m).rows []) ((q06 Fn FnD m).seg ((q06 Fn FnD m).rows [[il c]]) none ((q06 Fn FnD m).natN 1)) k))))=k ([c].map rI):=by
 simp only [q0D,q0v,q0y,q0q,List.length_cons,List.length_nil,q0C,List.take_succ_cons,List.take_zero,q0V,q0t]
 rw [if_pos (by simp),if_pos (by simp []),qbW];rfl
theorem qhk (q:List Int):(q.map rI).take q.length=q.map rI:=List.take_of_length_le (by simp)
set_option maxRecDepth 20000 in
theorem li01 (n:Nat) (L:List Int) (hL:L.length≤1000000) (hne:L≠[]) (q:Mr) (x3 x4 x6 x7 x8 x9 x10 x11 x12 x13:D) :
  q0u [L1000161_0 (RP (n+4)),L1000161_1 (RP (n+4))] M0 0 [.d (dI (some L)),.d (il L.length),.d (il 0),.d x3,.d x4,.m q,.d x6,.d x7,.d x8,.d x9,.d x10,.d x11,.d x12,.d x13] =
   some (1,[.r ((q0a [] L).map rI),.d x3,.d x4,.m q,.d x6,.d x7,.n (q0a [] L).length,.n (q0a [] L).length,.d x8,.d x9,.d x10,.d x11,.d x12,.d x13]):=by
 refine q7F L hL hne _ _ (fun i=>[.d (dI (some L)),.d (il L.length),.d (il (i:Nat)),.d x3,.d x4,.m q,.d x6,.d x7,.d x8,.d x9,.d x10,.d x11,.d x12,.d x13])
  (fun i acc=>[.d (dI (some L)),.d (il L.length),.d (il (i:Nat)),.r (acc.map rI),.d x3,.d x4,.m q,.d x6,.d x7,.n acc.length,.n acc.length,.d x8,.d x9,.d x10,.d x11,.d x12,.d x13])
  (fun acc=>some (1,[.r (acc.map rI),.d x3,.d x4,.m q,.d x6,.d x7,.n acc.length,.n acc.length,.d x8,.d x9,.d x10,.d x11,.d x12,.d x13])) ?_ ?_ ?_
 ·intro acc k;simp [L1000161_1]
 ·intro c k hi hlt
  have h0:=q2S (Fn:=FN (n+4)) (FnD:=q1w Tryz.prog (cf3 tb Tryz.prog) (FN (n+4))) (m:=M0) (o:=some L) (i:=0) (c:=c) hi
  simp only [L1000161_0,q02,q05,q0p,q01,Int.natCast_zero,hlt,decide_true,if_true]
  rw [show ((il 0):D)=il ((0:Nat):Int) from rfl,h0]
  simp only [rI,q08,q07,q12,qgj,q00,q02,q05,q01,Bool.false_eq_true,if_false]
  rw [put0]
  simp only [q03,q0k,q0D,q0v,q0y,q0q,List.length_cons,List.length_nil,List.take_succ_cons,List.take_zero,Int.natCast_zero]
  rw [show IntKind.i64.wrap (0+1)=((1:Nat):Int) from rfl]
  rfl
 ·intro i c acc k hi hlt hw hu hl
  have hi':((some L).getD [])[i]?=some c:=hi
  have hput:=q1j n acc c (by omega) hu
  simp only [L1000161_1,q02,q05,q0B,q0A,q0x,q0E,q0p,q01,hlt,decide_true,if_true,q2S hi',rI,q08,q0y,q0C,List.length_map,q1f,q07]
  simp only [hput,q00,q02,q0X,q03,q0k,hw,List.length_map,q20,q21]
set_option maxRecDepth 20000 in
theorem li5 (n:Nat) (L:List Int) (hL:L.length≤1000000) (q:Mr) (x3 x4 x6 x7 x11 x12 x13 x14 x15 x16:D) (acc:List Int) (hu:Up acc) (ha:acc.length≤1000) :
  q0u [L1000161_5 (RP (n+4))] M0 0 [.d (dI (some L)),.d (il L.length),.d (il 0),.d x3,.d x4,.m q,.d x6,.d x7,.n acc.length,.n acc.length,.r (acc.map rI),.d x11,.d x12,.d x13,.d x14,.d x15,.d x16] =
   some (0,[.d x3,.d x4,.m q,.d x6,.d x7,.n (q0a acc L).length,.n (q0a acc L).length,.r ((q0a acc L).map rI),.d x11,.d x12,.d x13,.d x14,.d x15,.d x16]):=by
 refine q6i L hL _ (fun i acc=>[.d (dI (some L)),.d (il L.length),.d (il (i:Nat)),.d x3,.d x4,.m q,.d x6,.d x7,.n acc.length,.n acc.length,.r (acc.map rI),.d x11,.d x12,.d x13,.d x14,.d x15,.d x16])
  (fun acc=>some (0,[.d x3,.d x4,.m q,.d x6,.d x7,.n acc.length,.n acc.length,.r (acc.map rI),.d x11,.d x12,.d x13,.d x14,.d x15,.d x16])) 1000 ?_ ?_ acc hu ha
 ·intro acc k;simp [L1000161_5]
 ·intro i c acc k hi hlt hw hu hl
  have hi':((some L).getD [])[i]?=some c:=hi
  have hput:=q1j n acc c (by omega) hu
  simp only [L1000161_5,q02,q05,q0B,q0A,q0x,q0E,q0p,q01,hlt,decide_true,if_true,q2S hi',rI,q08,q0y,q0C,List.length_map,q1f,q07]
  simp only [hput,q00,q02,q0X,q03,q0k,hw,List.length_map,q20,q21]
def qdb (d f:Int) (kin:D) (s:Nat×List Int×Mr):Nat×List Yr:=match s.2.1 with
 | []=>(0,[.d (il d),.d (il ((s.1:Int) - 1)),.d kin,.d (il d),.m s.2.2,.d kin,.d (il f)])
 | y::r=>(2,[.d (il d),.d (il ((s.1:Int) - 1)),.r ((y::r).map rI),.n (y::r).length,.n (y::r).length,.d kin,.d (il d),.m s.2.2,.d kin,.d (il f)])
theorem qcp (d f:Int) (kin:D) (m:Nat) {acc:List Int} (q:Mr) (h:acc≠[]):qdb d f kin (m,acc,q)=(2,[.d (il d),.d (il ((m:Int) - 1)),.r (acc.map rI),.n acc.length,.n acc.length,.d kin,.d (il d),.m q,.d kin,.d (il f)]):=by
 cases acc with
 | nil=>exact absurd rfl h
 | cons _ _=>rfl
def Q161 (d f:Int) (b:List E9) (kin:D) (T:List Int) (r:Out):Prop:=∃ (acc:List Int) (q:Mr),q61 d b q∧Up acc∧acc.length≤1000 ∧
 ((acc≠[]∧((r=some (4,[.r (acc.map rI),.n acc.length,.n acc.length,.d kin,.d (il d),.m q,.d kin,.d (il f)])∧acc=T)∨(r=some (5,[.r (acc.map rI),.n acc.length,.n acc.length,.d kin,.d (il d),.m q,.d kin,.d (il f)])∧ins f acc=T))) ∨
  (r=some (2,[.d kin,.d (il d),.m q,.d kin,.d (il f)])∧ins f []=T))
theorem q84 {acc:List Int} (hu:Up acc) (h:∀ z∈acc,1≤z∧z≤99):acc.length≤99:=by
 have:=q9E acc 1 99 hu h
 omega
theorem q3f (acc:List Int) {l:List Int} (h:l≠[]):q0a acc l≠[]:=fun e=>by
 cases l with
 | nil=>exact h rfl
 | cons x r =>
  have:x∈q0a acc (x::r):=(q11 x _ _).2 (.inr (by simp))
  rw [e] at this;simp at this
set_option maxRecDepth 20000 in
theorem l161 (n:Nat) (a b c:Option (List E9)) (o:Option (List E5)) (d f:Int) (hb:q62 (b.getD [])) (hl:(b.getD []).length≤1000000) (hf:f≤99)
  (hrec:∀ (w:Int) (q:Mr),1≤w→w < f→q61 d (b.getD []) q→∃ q':Mr,q61 d (b.getD []) q'∧FN (n+4) 1000161 [q0Y a b c o,il d,.mp false q.1 q.2,il w,q0Y a b c o,il d]=some (0,[.d (dI (some (q0d d (b.getD []) w))),.d (q0Y a b c o),.d (il d),.d (.mp false q'.1 q'.2)]))
  (q:Mr) (hq:q61 d (b.getD []) q) :
  Q161 d f (b.getD []) (q0Y a b c o) (q3q (q0d d (b.getD [])) f (q0Z d f (below (b.getD []) (b.getD []).length)) []) (q0u [L1000161_2 (RP (n+4)) (il f),L1000161_4 (RP (n+4)) (il f),L1000161_6 (RP (n+4)) (il f)] M0 0 [.d (il d),.d (il (((b.getD []).length:Int) - 1)),.d (q0Y a b c o),.d (il d),.m q,.d (q0Y a b c o),.d (il f)]):=by
 generalize hT:q3q (q0d d (b.getD [])) f (q0Z d f (below (b.getD []) (b.getD []).length)) []=T
 refine q4x (σ:=Nat×List Int×Mr) [L1000161_2 (RP (n+4)) (il f),L1000161_4 (RP (n+4)) (il f),L1000161_6 (RP (n+4)) (il f)] (qdb d f (q0Y a b c o)) (fun s=>s.1)
  (fun s=>s.1≤(b.getD []).length∧Up s.2.1∧(∀ z∈s.2.1,1≤z∧z≤99)∧q61 d (b.getD []) s.2.2∧q3q (q0d d (b.getD [])) f (q0Z d f (below (b.getD []) s.1)) s.2.1=T)
  (Q161 d f (b.getD []) (q0Y a b c o) T) ?_ M0 ((b.getD []).length,[],q) ⟨Nat.le_refl _,by simp,by simp,hq,hT⟩ (by unfold M0;simp only;omega)
 clear hT hq q
 rintro ⟨m,acc,q⟩ k ⟨g1,g2,g3,g4,g5⟩ ih
 simp only at g1 g2 g3 g4 g5 ih
 have gl:=q84 g2 g3
 cases m with
 | zero =>
  rw [q3Z] at g5
  cases acc with
  | nil =>
   refine ⟨L1000161_2 (RP (n+4)) (il f),rfl,[],q,g4,g2,by simp,.inr ⟨?_,g5⟩⟩
   simp [qdb,L1000161_2]
  | cons y r =>
   refine ⟨L1000161_6 (RP (n+4)) (il f),rfl,y::r,q,g4,g2,by omega,.inl ⟨by simp,.inr ⟨?_,g5⟩⟩⟩
   simp [qdb,L1000161_6]
 | succ m =>
  obtain ⟨e,he⟩:∃ e,(b.getD [])[m]?=some e:=⟨_,List.getElem?_eq_getElem (by omega)⟩
  rw [q39 he,q0Z] at g5
  have hm:(((m+1:Nat):Int) - 1)=((m:Nat):Int):=by omega
  have hw:IntKind.i64.wrap (((m:Nat):Int) - 1)=((m:Nat):Int) - 1:=q0f (by omega) (by omega)
  have h194:=s194 (n+3) a b c o m e f he
  have hnn:¬ ((m:Nat):Int) < 0:=by omega
  have hmem:e∈b.getD []:=List.mem_of_getElem? he
  cases acc with
  | nil =>
   refine ⟨L1000161_2 (RP (n+4)) (il f),rfl,?_⟩
   simp only [qdb,hm,L1000161_2,q02,q05,q03,q1L,q01]
   rw [if_pos (by simp)]
   simp only [q07,h194,q00,q02,q05,q0I,q01,q1k,hw,q21,q20]
   by_cases h1:e.a=f
   ·rw [if_neg (by simp [h1])]
    simp only [qfA,q00,q02,q0I,q01]
    by_cases h2:q1T e.f1 e.t2 d=true
    ·rw [if_neg (by simp [h2])]
     rw [if_pos ⟨h1,h2⟩] at g5
     have hbe:=hb e hmem
     obtain ⟨q',hq',hcall⟩:=hrec e.b q hbe.1 (by omega) g4
     have hne:q0d d (b.getD []) e.b≠[]:=fun h=>by
      obtain ⟨z,hz⟩:=q4A hb (d:=d) _ e.b (Nat.le_refl _) hbe.1
      rw [h] at hz;simp at hz
     have hlen:=q35 (d:=d) hb hbe.1
     simp only [q0p,hnn,decide_false,q01,Bool.false_eq_true,if_false,q67,hcall,q00,q02,q05,q5z,q2I,Option.getD_some,q0n]
     rw [li01 n _ (by omega) hne]
     have hin:=q3f [] hne
     have hiu:=q1l (q0d d (b.getD []) e.b) (acc:=[]) (by simp)
     have hir:∀ z∈q0a [] (q0d d (b.getD []) e.b),1≤z∧z≤99:=fun z hz=>by
      rw [q11] at hz
      rcases hz with hz | hz
      ·simp at hz
      ·have:=q17 hb _ e.b z (Nat.le_refl _) hbe.1 hz;omega
     have hil:=q84 hiu hir
     simp only [q1M,q00,q9B,q02,q05,q21,q20,q0x,q0B,q0A,q01,q0e]
     rw [q3q] at g5
     by_cases h3:q1z e.f2 e.t1 d=true
     ·rw [if_pos h3] at g5 ⊢
      exact ⟨q0a [] (q0d d (b.getD []) e.b),q',hq',hiu,by omega,.inl ⟨hin,.inl ⟨rfl,g5⟩⟩⟩
     ·rw [if_neg h3] at g5 ⊢
      have:=ih (m,q0a [] (q0d d (b.getD []) e.b),q') ⟨by simp only;omega,hiu,hir,hq',g5⟩ (by simp only;omega)
      rw [qcp _ _ _ _ _ hin] at this
      exact this
    ·rw [if_pos (by simp [h2])]
     rw [if_neg fun h=>h2 h.2] at g5
     exact ih (m,[],q) ⟨by simp only;omega,g2,g3,g4,g5⟩ (by simp only;omega)
   ·rw [if_pos (by simp [h1])]
    rw [if_neg fun h=>h1 h.1] at g5
    exact ih (m,[],q) ⟨by simp only;omega,g2,g3,g4,g5⟩ (by simp only;omega)
  | cons y r =>
   refine ⟨L1000161_6 (RP (n+4)) (il f),rfl,?_⟩
   simp only [qdb,hm,L1000161_6,q02,q05,q03,q1L,q01]
   rw [if_pos (by simp)]
   simp only [q07,h194,q00,q02,q05,q0I,q01,q1k,hw,q21,q20,q0x,q0E,q0B,q0A]
   by_cases h1:e.a=f
   ·rw [if_neg (by simp [h1])]
    simp only [qfA,q00,q02,q0I,q01]
    by_cases h2:q1T e.f1 e.t2 d=true
    ·rw [if_neg (by simp [h2])]
     rw [if_pos ⟨h1,h2⟩] at g5
     have hbe:=hb e hmem
     obtain ⟨q',hq',hcall⟩:=hrec e.b q hbe.1 (by omega) g4
     have hne:q0d d (b.getD []) e.b≠[]:=fun h=>by
      obtain ⟨z,hz⟩:=q4A hb (d:=d) _ e.b (Nat.le_refl _) hbe.1
      rw [h] at hz;simp at hz
     have hlen:=q35 (d:=d) hb hbe.1
     simp only [q0p,hnn,decide_false,q01,Bool.false_eq_true,if_false,q67,hcall,q00,q02,q05,q5z,q2I,Option.getD_some,q0n]
     rw [li5 n _ (by omega) _ _ _ _ _ _ _ _ _ _ _ (y::r) g2 (by omega)]
     have hin:=q3f (y::r) hne
     have hiu:=q1l (q0d d (b.getD []) e.b) g2
     have hir:∀ z∈q0a (y::r) (q0d d (b.getD []) e.b),1≤z∧z≤99:=fun z hz=>by
      rw [q11] at hz
      rcases hz with hz | hz
      ·exact g3 z hz
      ·have:=q17 hb _ e.b z (Nat.le_refl _) hbe.1 hz;omega
     have hil:=q84 hiu hir
     simp only [q00,q9B,q02,q05,q21,q20,q0x,q0E,q0B,q0A,q01,q0e]
     rw [q3q] at g5
     by_cases h3:q1z e.f2 e.t1 d=true
     ·rw [if_pos h3] at g5 ⊢
      exact ⟨q0a (y::r) (q0d d (b.getD []) e.b),q',hq',hiu,by omega,.inl ⟨hin,.inl ⟨rfl,g5⟩⟩⟩
     ·rw [if_neg h3] at g5 ⊢
      have:=ih (m,q0a (y::r) (q0d d (b.getD []) e.b),q') ⟨by simp only;omega,hiu,hir,hq',g5⟩ (by simp only;omega)
      rw [qcp _ _ _ _ _ hin] at this
      exact this
    ·rw [if_pos (by simp [h2])]
     rw [if_neg fun h=>h2 h.2] at g5
     exact ih (m,y::r,q) ⟨by simp only;omega,g2,g3,g4,g5⟩ (by simp only;omega)
   ·rw [if_pos (by simp [h1])]
    rw [if_neg fun h=>h1 h.1] at g5
    exact ih (m,y::r,q) ⟨by simp only;omega,g2,g3,g4,g5⟩ (by simp only;omega)
end Go.VE
namespace Go.VE
open Go.RowKit Go.Proofs
attribute [local simp] q5z q67
theorem q4I (q:List Int):(.sl 1 ((q.map rI).take q.length):D)=dI (some q):=by rw [qhk];rfl
set_option maxRecDepth 20000 in
theorem s161 (a b c:Option (List E9)) (o:Option (List E5)) (d:Int) (hb:q62 (b.getD [])) (hl:(b.getD []).length≤1000000):∀ (N n:Nat) (f:Int) (q:Mr),1≤f→f.toNat≤N→f≤99→q61 d (b.getD []) q →
  ∃ q':Mr,q61 d (b.getD []) q'∧FN (n+5+N) 1000161 [q0Y a b c o,il d,.mp false q.1 q.2,il f,q0Y a b c o,il d]=some (0,[.d (dI (some (q0d d (b.getD []) f))),.d (q0Y a b c o),.d (il d),.d (.mp false q'.1 q'.2)]):=by
 intro N
 induction N with
 | zero=>intro n f q h1 h2;omega
 | succ N ih =>
  intro n f q h1 h2 h3 hq
  have hrec:∀ (w:Int) (q:Mr),1≤w→w < f→q61 d (b.getD []) q→∃ q':Mr,q61 d (b.getD []) q'∧FN (n+1+N+4) 1000161 [q0Y a b c o,il d,.mp false q.1 q.2,il w,q0Y a b c o,il d]=some (0,[.d (dI (some (q0d d (b.getD []) w))),.d (q0Y a b c o),.d (il d),.d (.mp false q'.1 q'.2)]):=fun w q hw1 hw2 hq=>by
   have:=ih n w q hw1 (by omega) (by omega) hq
   rw [show n+1+N+4=n+5+N by omega]
   exact this
  have hloop:=l161 (n+1+N) a b c o d f hb hl h3 hrec q hq
  rw [show n+5+(N+1)=(n+1+N+4)+1 by omega,F1000161]
  rw [←q5L hb h1] at hloop
  generalize n+1+N=n at hloop ⊢
  simp only [G1000161,q5z,qdW]
  rcases qej hq f with e | e
  ·rw [e]
   refine ⟨q,hq,?_⟩
   simp
  ·rw [e]
   have hp:∀ k:List D→Out,(RP (n+4)).ptrW 4 (q0Y a b c o) k=k [d9 a,d9 b,d9 c,d5 o]:=fun k=>q2d _ 4 k rfl
   have w1:IntKind.i64.wrap (((b.getD []).length:Int) - 1)=((b.getD []).length:Int) - 1:=q0f (by omega) (by omega)
   have hip:∀ k:Out,(RP (n+4)).isPtr (q0Y a b c o) k=k:=fun k=>rfl
   simp only [q01,Bool.false_eq_true,if_false,hip,hp,q08,q0r,q5J,q03,q1k,w1,q0n]
   obtain ⟨acc,q1,hq1,hu,hlen,hr⟩:=hloop
   obtain ⟨q2,hq2,hm2⟩:=qgk hq1 f
   have hd:∀ x,x=q0d d (b.getD []) f→(.sl 1 ((x.map rI).take x.length):D)=dI (some (q0d d (b.getD []) f)):=fun x hx=>by rw [q4I,hx]
   refine ⟨q2,hm2,?_⟩
   rcases hr with ⟨hne,⟨hr,hT⟩ | ⟨hr,hT⟩⟩ | ⟨hr,hT⟩
   ·rw [hr]
    simp only [q1M,q00,q0x,q0B,q0A,q02,q05,q21,q20,q0y,List.length_map,q0C,if_true,q0q,q1f,q0e,qdU]
    rw [hd acc hT,hq2]
    simp
   ·rw [hr]
    have hput:=q1j n acc f (by omega) hu
    simp only [q1M,q00,q0x,q0B,q0A,q02,q05,q21,q20,q0y,List.length_map,q0C,if_true,q0q,q1f,q0e,qdU,q0p,q01,q07,hput,q0X]
    rw [if_pos (by simp)]
    simp only [q00,q02,q05,q21,q20]
    rw [show (List.map rI (ins f acc)).take (ins f acc).length=(List.map rI (ins f acc)).take (ins f acc).length from rfl,hd (ins f acc) hT,hq2]
    simp
   ·rw [hr]
    simp only [q1M,q00,q02,q05,q21,q20,q0p,q01,q07,q12,qgj]
    rw [if_pos (by simp)]
    simp only [Bool.false_eq_true,if_false]
    have hx:[f]=q0d d (b.getD []) f:=hT
    rw [←hx] at hq2 ⊢
    simp only [q0D,q0v,q0y,q0q,List.length_cons,List.length_nil,q0C,List.take_succ_cons,List.take_zero,q0V,q0t]
    rw [if_pos (by simp),if_pos (by simp []),qbW]
    simp only [List.length_cons,List.length_nil,if_true,q0e,q00,q1f,List.take_succ_cons,List.take_zero,q02,q05,q21,q20,qdU]
    rw [show (.sl 1 [[il f]]:D)=dI (some [f]) from rfl,hq2]
    simp
end Go.VE
namespace Go.VE
open Go.RowKit Go.Proofs
def q5N {σ:Type} (step:σ→Int→σ):σ→List (Option Int)→σ
 | s,[]=>s
 | s,none::r=>q5N step s r
 | s,some w::r=>q5N step (step s w) r
theorem q9Z {σ:Type} (step:σ→Int→σ) (stopO noneO:σ→Out):∀ (os:List (Option Int)) (s:σ),qfu os→qfC step stopO noneO s os=if none∈os then noneO (q5N step s os) else stopO (q5N step s os)
 | [],s,_=>by simp [qfC,q5N]
 | none::r,s,h=>by have:r=[]:=h;subst this;simp [qfC,q5N]
 | some w::os,s,h=>by rw [qfC,q9Z step stopO noneO os _ h,q5N];simp
theorem q8E (L:Int→List Int) (f:Int):∀ (os:List (Option Int)) (s:List Int),qfu os→q3q L f os s=if none∈os then ins f (q5N (fun s w=>q0a s (L w)) s os) else q5N (fun s w=>q0a s (L w)) s os
 | [],s,_=>by simp [q3q,q5N]
 | none::r,s,h=>by have:r=[]:=h;subst this;simp [q3q,q5N]
 | some w::os,s,h=>by rw [q3q,q8E L f os _ h,q5N];simp
theorem q7h (d who:Int):∀ {l:List E9},(∀ e∈l,e.a≠who)→q0Z d who l=[none]
 | [],_=>rfl
 | e::r,h=>by
  rw [q0Z,if_neg fun hh=>h e (by simp) hh.1]
  exact q7h d who fun e he=>h e (List.mem_cons_of_mem _ he)
def tab (d:Int) (b:List E9) (t:Nat):Rr:=(List.range t).map fun (i:Nat)=>[dI (some (q0d d b ((i:Int)+1)))]
theorem q63 (d:Int) (b:List E9) (t:Nat):(tab d b t).length=t:=by simp [tab]
theorem qdC (d:Int) (b:List E9) {t i:Nat} (h:i < t):(tab d b t)[i]?=some [dI (some (q0d d b ((i:Int)+1)))]:=by simp [tab,h]
theorem qfX (d:Int) (b:List E9) (t:Nat):tab d b (t+1)=tab d b t++[[dI (some (q0d d b ((t:Int)+1)))]]:=by simp [tab,List.range_succ]
set_option maxRecDepth 20000 in
theorem l81_0 (n:Nat) (b:Option (List E9)) (x2 x4 x5:D) (d:Int) (hb:q62 (b.getD [])) (hl:(b.getD []).length≤1000000) :
  q0u [L81_0 (RP n)] M0 0 [.d (il 1),.d (il d),.d x2,.d (d9 b),.d x4,.d x5,.d (il (((b.getD []).length:Int) - 1))]=some (1,[.d (il 1)]):=by
 have:=q5C (σ:=Unit) (b.getD []) hl d 1 [L81_0 (RP n)] (fun m _=>(0,[.d (il 1),.d (il d),.d x2,.d (d9 b),.d x4,.d x5,.d (il ((m:Int) - 1))])) (fun _ _=>True) (fun _ _=>()) (fun _=>some (1,[.d (il 1)])) (fun _=>some (1,[.d (il 1)])) ?_ ?_ () trivial
 ·refine Eq.trans this ?_
  rw [q7h _ _ fun e he=>?_]
  ·rfl
  ·have:=hb e (q4w he);omega
 ·intro s k _
  exact ⟨_,rfl,by simp [L81_0]⟩
 ·intro m e s k he hm hw hm1 _
  have hne:¬ e.a=1:=by have:=hb e (List.mem_of_getElem? he);omega
  refine ⟨trivial,fun _ _=>trivial,_,rfl,?_⟩
  simp only [hm1,L81_0,q02,q05,q03,q1L,q01]
  rw [if_pos (by simp),if_neg (fun h=>hne h.1)]
  simp only [q41 he,r9,q08,q0r,q0w,q01,q1k,hw]
  rw [if_pos (by simp [hne])]
set_option maxRecDepth 20000 in
theorem qiz (n:Nat) (L:List Int) (hL:L.length≤1000000) (hne:L≠[]) (T:Rr) (n2 n3:Nat) (x0 x1 x4 x5 x6 x7 x8 x9:D) :
  q0u [L81_2 (RP (n+1)),L81_3 (RP (n+1))] M0 0 [.d x0,.d x1,.n n2,.n n3,.d x4,.d x5,.d x6,.d x7,.d x8,.d x9,.d (dI (some L)),.d (il L.length),.d (il 0),.r T] =
   some (1,[.d x0,.d x1,.n n2,.n n3,.d x4,.d x5,.d x6,.d x7,.d (dI (some (q0a [] L))),.d x8,.d x9,.r T]):=by
 refine q7F L hL hne _ _ (fun i=>[.d x0,.d x1,.n n2,.n n3,.d x4,.d x5,.d x6,.d x7,.d x8,.d x9,.d (dI (some L)),.d (il L.length),.d (il (i:Nat)),.r T])
  (fun i acc=>[.d x0,.d x1,.n n2,.n n3,.d x4,.d x5,.d x6,.d x7,.d (dI (some acc)),.d x8,.d x9,.d (dI (some L)),.d (il L.length),.d (il (i:Nat)),.r T])
  (fun acc=>some (1,[.d x0,.d x1,.n n2,.n n3,.d x4,.d x5,.d x6,.d x7,.d (dI (some acc)),.d x8,.d x9,.r T])) ?_ ?_ ?_
 ·intro acc k;simp [L81_3]
 ·intro c k hi hlt
  have h0:=q2S (Fn:=FN (n+1)) (FnD:=q1w Tryz.prog (cf3 tb Tryz.prog) (FN (n+1))) (m:=M0) (o:=some L) (i:=0) (c:=c) hi
  simp only [L81_2,q02,q05,q0p,q01,Int.natCast_zero,hlt,decide_true,if_true]
  rw [show ((il 0):D)=il ((0:Nat):Int) from rfl,h0]
  simp only [rI,q08,q07,q12,q9b,q00,q02,q03,q0k,Int.natCast_zero,q0B,q0A,q0x,q0E]
  rw [show IntKind.i64.wrap (0+1)=((1:Nat):Int) from rfl]
 ·intro i c acc k hi hlt hw hu hl
  have hi':((some L).getD [])[i]?=some c:=hi
  have hput:=s92 n (some acc) c (by simp only [Option.getD_some];omega) hu
  simp only [Option.getD_some] at hput
  simp only [L81_3,q02,q05,q0B,q0A,q0x,q0E,q0p,q01,hlt,decide_true,if_true,q2S hi',rI,q08,q07,hput,q00,q03,q0k,hw]
set_option maxRecDepth 20000 in
theorem li81_5 (n:Nat) (L:List Int) (hL:L.length≤1000000) (T:Rr) (n2 n3:Nat) (x0 x1 x4 x5 x6 x7 x8 x9:D) (acc:List Int) (hu:Up acc) (ha:acc.length≤1000) :
  q0u [L81_5 (RP (n+1))] M0 0 [.d x0,.d x1,.n n2,.n n3,.d x4,.d x5,.d x6,.d x7,.d (dI (some acc)),.d x8,.d x9,.d (dI (some L)),.d (il L.length),.d (il 0),.r T] =
   some (0,[.d x0,.d x1,.n n2,.n n3,.d x4,.d x5,.d x6,.d x7,.d (dI (some (q0a acc L))),.d x8,.d x9,.r T]):=by
 refine q6i L hL _ (fun i acc=>[.d x0,.d x1,.n n2,.n n3,.d x4,.d x5,.d x6,.d x7,.d (dI (some acc)),.d x8,.d x9,.d (dI (some L)),.d (il L.length),.d (il (i:Nat)),.r T])
  (fun acc=>some (0,[.d x0,.d x1,.n n2,.n n3,.d x4,.d x5,.d x6,.d x7,.d (dI (some acc)),.d x8,.d x9,.r T])) 1000 ?_ ?_ acc hu ha
 ·intro acc k;simp [L81_5]
 ·intro i c acc k hi hlt hw hu hl
  have hi':((some L).getD [])[i]?=some c:=hi
  have hput:=s92 n (some acc) c (by simp only [Option.getD_some];omega) hu
  simp only [Option.getD_some] at hput
  simp only [L81_5,q02,q05,q0B,q0A,q0x,q0E,q0p,q01,hlt,decide_true,if_true,q2S hi',rI,q08,q07,hput,q00,q03,q0k,hw]
def en81 (d f:Int) (t:Nat) (T:Rr) (x4 x5 x6 x7:D) (m:Nat) (acc:List Int):Nat×List Yr:=match acc with
 | []=>(0,[.d (il f),.d (il d),.n t,.n t,.d x4,.d x5,.d x6,.d x7,.d (il ((m:Int) - 1)),.r T])
 | y::r=>(1,[.d (il f),.d (il d),.n t,.n t,.d x4,.d x5,.d x6,.d x7,.d (dI (some (y::r))),.d (il ((m:Int) - 1)),.r T])
theorem qgQ (d f:Int) (t:Nat) (T:Rr) (x4 x5 x6 x7:D) (m:Nat):en81 d f t T x4 x5 x6 x7 m []=(0,[.d (il f),.d (il d),.n t,.n t,.d x4,.d x5,.d x6,.d x7,.d (il ((m:Int) - 1)),.r T]):=rfl
theorem qf6 (d f:Int) (t:Nat) (T:Rr) (x4 x5 x6 x7:D) (m:Nat) (y:Int) (r:List Int):en81 d f t T x4 x5 x6 x7 m (y::r)=(1,[.d (il f),.d (il d),.n t,.n t,.d x4,.d x5,.d x6,.d x7,.d (dI (some (y::r))),.d (il ((m:Int) - 1)),.r T]):=rfl
theorem qf5 (d f:Int) (t:Nat) (T:Rr) (x4 x5 x6 x7:D) (m:Nat) {acc:List Int} (h:acc≠[]):en81 d f t T x4 x5 x6 x7 m acc=(1,[.d (il f),.d (il d),.n t,.n t,.d x4,.d x5,.d x6,.d x7,.d (dI (some acc)),.d (il ((m:Int) - 1)),.r T]):=by
 cases acc with
 | nil=>exact absurd rfl h
 | cons _ _=>rfl
def st81 (T:Rr) (acc:List Int):Out:=some (2,[.d (dI (some acc)),.r T])
def no81 (f:Int) (T:Rr) (acc:List Int):Out:=match acc with
 | []=>some (1,[.d (il f),.r T])
 | y::r=>some (3,[.d (il f),.d (dI (some (y::r))),.r T])
set_option maxRecDepth 20000 in
theorem l81_4 (n:Nat) (b:Option (List E9)) (x4 x6 x7:D) (d:Int) (t:Nat) (hb:q62 (b.getD [])) (hl:(b.getD []).length≤1000000) (ht:t≤99) :
  q0u [L81_4 (RP (n+1)),L81_6 (RP (n+1))] M0 0 [.d (il ((t:Int)+1)),.d (il d),.n t,.n t,.d x4,.d (d9 b),.d x6,.d x7,.d (il (((b.getD []).length:Int) - 1)),.r (tab d (b.getD []) t)] =
   qfC (fun s w=>q0a s (q0d d (b.getD []) w)) (st81 (tab d (b.getD []) t)) (no81 ((t:Int)+1) (tab d (b.getD []) t)) [] (q0Z d ((t:Int)+1) (below (b.getD []) (b.getD []).length)):=by
 refine q5C (σ:=List Int) (b.getD []) hl d ((t:Int)+1) [L81_4 (RP (n+1)),L81_6 (RP (n+1))] (fun m s=>en81 d ((t:Int)+1) t (tab d (b.getD []) t) x4 (d9 b) x6 x7 m s) (fun _ s=>Up s∧∀ z∈s,1≤z∧z≤99) (fun s w=>q0a s (q0d d (b.getD []) w)) _ _ ?_ ?_ [] ⟨by simp,by simp⟩
 ·intro s k _
  cases s with
  | nil=>exact ⟨_,rfl,by simp [L81_4,en81,no81]⟩
  | cons y r=>exact ⟨_,rfl,by simp [L81_6,en81,no81]⟩
 ·intro m e s k he hm hw hm1 hI
  obtain ⟨g2,g3⟩:=hI
  have hbe:=hb e (List.mem_of_getElem? he)
  have gl:=q84 g2 g3
  refine ⟨⟨g2,g3⟩,fun _ _=>⟨q1l _ g2,fun z hz=>?_⟩,?_⟩
  ·rw [q11] at hz
   rcases hz with hz | hz
   ·exact g3 z hz
   ·have:=q17 hb _ e.b z (Nat.le_refl _) hbe.1 hz;omega
  ·have hne:q0d d (b.getD []) e.b≠[]:=fun h=>by
    obtain ⟨z,hz⟩:=q4A hb (d:=d) _ e.b (Nat.le_refl _) hbe.1
    rw [h] at hz;simp at hz
   have hlen:=q35 (d:=d) hb hbe.1
   have hws:IntKind.i64.wrap (e.b - 1)=e.b - 1:=q0f (by omega) (by omega)
   cases s with
   | nil =>
    refine ⟨_,rfl,?_⟩
    simp only [qgQ,hm1,L81_4,q02,q05,q03,q1L,q01]
    rw [if_pos (by simp)]
    simp only [q41 he,r9,q08,q0r,q0w,q01,q1k,hw,hws,decide_eq_true_eq,q0x,q0E,q0B,q0A]
    by_cases h1:e.a=(t:Int)+1
    ·rw [if_neg (by simp [h1])]
     simp only [q07,s160,q00,q02,q0w,q01,q0K,decide_eq_true_eq]
     by_cases h2:q1T e.f1 e.t2 d=true
     ·rw [if_pos ((q6l _ _ _ _ _).2 h2),if_pos (⟨h1,h2⟩:e.a=(t:Int)+1∧q1T e.f1 e.t2 d=true)]
      have hnat:(e.b - 1).toNat < t:=by omega
      have hbb:(((e.b - 1).toNat:Nat):Int)+1=e.b:=by omega
      have hrow:∀ k:List D→Out,(RP (n+1)).rowAt 1 (tab d (b.getD []) t) (e.b - 1).toNat k=k [dI (some (q0d d (b.getD []) e.b))]:=fun k=>by
       rw [q6R,qdC _ _ hnat,hbb];rfl
      simp only [q0y,q63,q0C,if_true,q7e]
      rw [if_pos (by omega),hrow]
      simp only [q08,q2I,Option.getD_some,q0n]
      rw [qiz n _ (by omega) hne]
      simp only [q1M,q00,q02,q05,q0x,q0E,q0B,q0A,q0K,q01,q1k,hw,q0e,decide_eq_true_eq]
      have hin:=q3f [] hne
      by_cases h3:q1z e.f2 e.t1 d=true
      ·rw [if_pos h3,if_pos ((q1Y _ _ _ _ _ h2).2 h3)];rfl
      ·rw [if_neg h3,if_neg fun h=>h3 ((q1Y _ _ _ _ _ h2).1 h),qf5 _ _ _ _ _ _ _ _ _ hin]
     ·rw [q6k _ _ _ _ _ h2,if_neg (by simp),if_neg (by simp),if_neg (fun h=>h2 h.2)]
    ·rw [if_pos (by simp [h1]),if_neg (fun h=>h1 h.1)]
   | cons y r =>
    refine ⟨_,rfl,?_⟩
    simp only [qf6,hm1,L81_6,q02,q05,q03,q1L,q01]
    rw [if_pos (by simp)]
    simp only [q41 he,r9,q08,q0r,q0w,q01,q1k,hw,hws,decide_eq_true_eq,q0x,q0E,q0B,q0A]
    by_cases h1:e.a=(t:Int)+1
    ·rw [if_neg (by simp [h1])]
     simp only [q07,s160,q00,q02,q0w,q01,q0K,decide_eq_true_eq]
     by_cases h2:q1T e.f1 e.t2 d=true
     ·rw [if_pos ((q6l _ _ _ _ _).2 h2),if_pos (⟨h1,h2⟩:e.a=(t:Int)+1∧q1T e.f1 e.t2 d=true)]
      have hnat:(e.b - 1).toNat < t:=by omega
      have hbb:(((e.b - 1).toNat:Nat):Int)+1=e.b:=by omega
      have hrow:∀ k:List D→Out,(RP (n+1)).rowAt 1 (tab d (b.getD []) t) (e.b - 1).toNat k=k [dI (some (q0d d (b.getD []) e.b))]:=fun k=>by
       rw [q6R,qdC _ _ hnat,hbb];rfl
      simp only [q0y,q63,q0C,if_true,q7e]
      rw [if_pos (by omega),hrow]
      simp only [q08,q2I,Option.getD_some,q0n]
      rw [li81_5 n _ (by omega) _ _ _ _ _ _ _ _ _ _ _ (y::r) g2 (by omega)]
      simp only [q00,q02,q05,q0x,q0E,q0B,q0A,q0K,q01,q1k,hw,q0e,decide_eq_true_eq]
      have hin:=q3f (y::r) hne
      by_cases h3:q1z e.f2 e.t1 d=true
      ·rw [if_pos h3,if_pos ((q1Y _ _ _ _ _ h2).2 h3)];rfl
      ·rw [if_neg h3,if_neg fun h=>h3 ((q1Y _ _ _ _ _ h2).1 h),qf5 _ _ _ _ _ _ _ _ _ hin]
     ·rw [q6k _ _ _ _ _ h2,if_neg (by simp),if_neg (by simp),if_neg (fun h=>h2 h.2)]
    ·rw [if_pos (by simp [h1]),if_neg (fun h=>h1 h.1)]
end Go.VE
namespace Go.VE
open Go.RowKit Go.Proofs
theorem q7L {σ:Type} (step:σ→Int→σ) (P:σ→Prop):∀ (os:List (Option Int)) (s:σ),(∀ s w,some w∈os→P s→P (step s w))→P s→P (q5N step s os)
 | [],_,_,h=>h
 | none::r,s,hs,h=>q7L step P r s (fun s w hw=>hs s w (List.mem_cons_of_mem _ hw)) h
 | some w::r,s,hs,h=>q7L step P r _ (fun s w hw=>hs s w (List.mem_cons_of_mem _ hw)) (hs s w (by simp) h)
def qf4 (f d:Int) (x0 x1 x2 x3:D) (b:List E9) (t:Nat):Nat×List Yr:=match t with
 | 0=>(0,[.d (il f),.d (il d),.d x0,.d x1,.d x2,.d x3,.d (il 1)])
 | t+1=>(1,[.d (il f),.d (il d),.d x0,.d x1,.d x2,.d x3,.n (t+1),.n (t+1),.d (il ((t:Int)+1+1)),.r (tab d b (t+1))])
theorem qcT {d:Int} {b:List E9} (hb:q62 b):q0d d b 1=[1]:=by
 rw [q5L hb (by decide),q7h _ _ fun e he=>?_]
 ·rfl
 ·have:=hb e (q4w he);omega
set_option maxRecDepth 20000 in
theorem l81 (n:Nat) (b:Option (List E9)) (x0 x2 x3:D) (f d:Int) (h1:1≤f) (h2:f≤99) (hb:q62 (b.getD [])) (hl:(b.getD []).length≤1000000) :
  q0u [L81_1 (RP (n+1)),L81_7 (RP (n+1))] M0 0 [.d (il f),.d (il d),.d x0,.d (d9 b),.d x2,.d x3,.d (il 1)]=some (1,[.d (il f),.n f.toNat,.n f.toNat,.r (tab d (b.getD []) f.toNat)]):=by
 refine q2i (σ:=Nat) [L81_1 (RP (n+1)),L81_7 (RP (n+1))] (qf4 f d x0 (d9 b) x2 x3 (b.getD [])) (fun t=>100 - t) (fun t=>(t:Int)≤f) (fun _=>some (1,[.d (il f),.n f.toNat,.n f.toNat,.r (tab d (b.getD []) f.toNat)])) ?_ M0 0 (by omega) (by unfold M0;omega)
 intro t k ht ih
 have w1:IntKind.i64.wrap (((b.getD []).length:Int) - 1)=((b.getD []).length:Int) - 1:=q0f (by omega) (by omega)
 cases t with
 | zero =>
  refine ⟨L81_1 (RP (n+1)),rfl,?_⟩
  have ih':=ih 1 (by omega) (by omega)
  have ht1:tab d (b.getD []) (0+1)=[[dI (some [1])]]:=by
   have:=qcT (d:=d) hb
   simp [tab,this]
  simp only [qf4,ht1] at ih'
  simp only [qf4,L81_1,q02,q05,q4V,q01]
  rw [if_pos (by simpa using h1)]
  simp only [q5J,q03,q1k,w1,q0n,l81_0 (n+1) b x0 x2 x3 d hb hl,q1M,q00,q02,q07,q12,q9b,q0D,q0v,q0y,q0q,List.length_cons,List.length_nil,q0C,List.take_succ_cons,List.take_zero,q0V,q0t,q0k]
  rw [if_pos (by simp),if_pos (by simp [])]
  exact ih'
 | succ t =>
  refine ⟨L81_7 (RP (n+1)),rfl,?_⟩
  have hcast:(t:Int)+1=((t+1:Nat):Int):=by omega
  simp only [qf4,L81_7,q02,q05,q4V,q01,q0x,q0E,q0B,q0A,decide_eq_true_eq]
  by_cases hlt:(t:Int)+1+1≤f
  ·rw [if_pos hlt]
   have ih':=ih (t+1+1) (by omega) (by omega)
   simp only [qf4] at ih'
   rw [hcast]
   have hloop:=l81_4 n b x0 x2 x3 d (t+1) hb hl (by omega)
   simp only [q5J,q03,q1k,w1,q0n,hloop]
   have hos:=q3N d (((t+1:Nat):Int)+1) (below (b.getD []) (b.getD []).length)
   have hL:=q5L (d:=d) hb (f:=((t+1:Nat):Int)+1) (by omega)
   have hless:∀ w,some w∈q0Z d (((t+1:Nat):Int)+1) (below (b.getD []) (b.getD []).length)→1≤w∧w < ((t+1:Nat):Int)+1:=fun w hw=>by have:=q3c hb hw;omega
   rw [q8E _ _ _ _ hos] at hL
   rw [q9Z _ _ _ _ _ hos]
   generalize q0Z d (((t+1:Nat):Int)+1) (below (b.getD []) (b.getD []).length)=os at hos hL hless ⊢
   have hP:=q7L (fun s w=>q0a s (q0d d (b.getD []) w)) (fun s=>Up s∧∀ z∈s,1≤z∧z≤99) os [] (fun s w hw hs=>⟨q1l _ hs.1,fun z hz=>by
    rw [q11] at hz
    rcases hz with hz | hz
    ·exact hs.2 z hz
    ·have h3:=hless w hw
     have:=q17 hb _ w z (Nat.le_refl _) h3.1 hz;omega⟩) ⟨by simp,by simp⟩
   have hwr:IntKind.i64.wrap (((t+1:Nat):Int)+1+1)=((t+1:Nat):Int)+1+1:=q0f (by omega) (by omega)
   rw [qfX d (b.getD []) (t+1),hL] at ih'
   generalize q5N (fun s w=>q0a s (q0d d (b.getD []) w)) [] os=s at hP hL ih' ⊢
   have hlen:=q84 hP.1 hP.2
   by_cases hn:none∈os
   ·rw [if_pos hn] at hL ih' ⊢
    cases s with
    | nil =>
     simp only [no81,q1M,q00,q02,q0x,q0E,q07,q12,q9b,q0D,q0v,q0y,q0q,List.length_cons,List.length_nil,q0C,List.take_succ_cons,List.take_zero,q0t,q0k,q18,q63,q1S,hwr]
     rw [if_pos (by simp),if_pos (by simp),if_pos (by simp),if_pos (by omega)]
     exact ih'
    | cons y r =>
     have hput:=s92 n (some (y::r)) (((t+1:Nat):Int)+1) (by simp only [Option.getD_some];omega) hP.1
     simp only [Option.getD_some] at hput
     simp only [no81,q1M,q00,q02,q05,q0x,q0E,q07,hput,q0D,q0v,q0y,q0q,List.length_cons,List.length_nil,q0C,List.take_succ_cons,List.take_zero,q0t,q0k,q18,q63,q1S,hwr]
     rw [if_pos (by simp),if_pos (by simp),if_pos (by simp),if_pos (by omega)]
     exact ih'
   ·rw [if_neg hn] at hL ih' ⊢
    simp only [st81,q1M,q00,q02,q0x,q0E,q0D,q0v,q0y,q0q,List.length_cons,List.length_nil,q0C,List.take_succ_cons,List.take_zero,q0t,q0k,q18,q63,q1S,hwr]
    rw [if_pos (by simp),if_pos (by simp),if_pos (by simp),if_pos (by omega)]
    exact ih'
  ·rw [if_neg hlt]
   have hft:f.toNat=t+1:=by omega
   rw [hft]
   simp
set_option maxRecDepth 20000 in
theorem s81 (n:Nat) (b:Option (List E9)) (x0 x2 x3:D) (f d:Int) (h1:1≤f) (h2:f≤99) (hb:q62 (b.getD [])) (hl:(b.getD []).length≤1000000) :
  FN (n+2) 81 [x0,d9 b,x2,x3,il f,il d]=some (0,[.d (dI (some (q0d d (b.getD []) f)))]):=by
 rw [F81]
 have hw:IntKind.i64.wrap (f - 1)=f - 1:=q0f (by omega) (by omega)
 have hft:(f - 1).toNat < f.toNat:=by omega
 have hrow:∀ k:List D→Out,(RP (n+1)).rowAt 1 (tab d (b.getD []) f.toNat) (f - 1).toNat k=k [dI (some (q0d d (b.getD []) f))]:=fun k=>by
  rw [q6R,qdC _ _ hft,show (((f - 1).toNat:Nat):Int)+1=f by omega];rfl
 simp only [G81,q03,q0n,l81 n b x0 x2 x3 f d h1 h2 hb hl,q1M,q00,q02,q0B,q0A,q0x,q0E,q1k,hw,q0y,q63,q0C,if_true,q7e]
 rw [if_pos (by omega),hrow]
 simp
theorem q7j {α:Type} {p:α→Bool} {src:α→Int}:∀ {l:List α} {o:Option Int},okL p src o l=true→∀ e∈l,p e=true
 | [],_,_,e,he=>by simp at he
 | x::r,o,h,e,he=>by
  unfold okL at h
  simp only [Bool.and_eq_true] at h
  rcases List.mem_cons.1 he with rfl | he
  ·exact h.1.1
  ·exact q7j h.2 e he
end Go.VE
namespace Go.VE
open Go.RowKit Go.Proofs
attribute [local simp] q5z q67
set_option maxRecDepth 20000 in
theorem qiy (n:Nat) (L:List Int) (hL:L.length≤1000000) (hne:L≠[]) (q:Mr) (x3 x4 x5 x6 x8 x9 x10 x11 x12 x13 x14 x15 x16 x17:D) :
  q0u [L82_0 (RP (n+4)),L82_1 (RP (n+4))] M0 0 [.d (dI (some L)),.d (il L.length),.d (il 0),.d x3,.d x4,.d x5,.d x6,.m q,.d x8,.d x9,.d x10,.d x11,.d x12,.d x13,.d x14,.d x15,.d x16,.d x17] =
   some (1,[.r ((q0a [] L).map rI),.d x3,.d x4,.d x5,.d x6,.m q,.d x8,.d x9,.d x10,.d x11,.n (q0a [] L).length,.n (q0a [] L).length,.d x12,.d x13,.d x14,.d x15,.d x16,.d x17]):=by
 refine q7F L hL hne _ _ (fun i=>[.d (dI (some L)),.d (il L.length),.d (il (i:Nat)),.d x3,.d x4,.d x5,.d x6,.m q,.d x8,.d x9,.d x10,.d x11,.d x12,.d x13,.d x14,.d x15,.d x16,.d x17])
  (fun i acc=>[.d (dI (some L)),.d (il L.length),.d (il (i:Nat)),.r (acc.map rI),.d x3,.d x4,.d x5,.d x6,.m q,.d x8,.d x9,.d x10,.d x11,.n acc.length,.n acc.length,.d x12,.d x13,.d x14,.d x15,.d x16,.d x17])
  (fun acc=>some (1,[.r (acc.map rI),.d x3,.d x4,.d x5,.d x6,.m q,.d x8,.d x9,.d x10,.d x11,.n acc.length,.n acc.length,.d x12,.d x13,.d x14,.d x15,.d x16,.d x17])) ?_ ?_ ?_
 ·intro acc k;simp [L82_1]
 ·intro c k hi hlt
  have h0:=q2S (Fn:=FN (n+4)) (FnD:=q1w Tryz.prog (cf3 tb Tryz.prog) (FN (n+4))) (m:=M0) (o:=some L) (i:=0) (c:=c) hi
  simp only [L82_0,q02,q05,q0p,q01,Int.natCast_zero,hlt,decide_true,if_true]
  rw [show ((il 0):D)=il ((0:Nat):Int) from rfl,h0]
  simp only [rI,q08,q07,q12,qgj,q00,q02,q05,q01,Bool.false_eq_true,if_false]
  rw [put0]
  simp only [q03,q0k,q0D,q0v,q0y,q0q,List.length_cons,List.length_nil,List.take_succ_cons,List.take_zero,Int.natCast_zero]
  rw [show IntKind.i64.wrap (0+1)=((1:Nat):Int) from rfl]
  rfl
 ·intro i c acc k hi hlt hw hu hl
  have hi':((some L).getD [])[i]?=some c:=hi
  have hput:=q1j n acc c (by omega) hu
  simp only [L82_1,q02,q05,q0B,q0A,q0x,q0E,q0p,q01,hlt,decide_true,if_true,q2S hi',rI,q08,q0y,q0C,List.length_map,q1f,q07]
  simp only [hput,q00,q02,q0X,q03,q0k,hw,List.length_map,q20,q21]
set_option maxRecDepth 20000 in
theorem li82_2 (n:Nat) (L:List Int) (hL:L.length≤1000000) (q:Mr) (x4 x5 x6 x7 x9 x10 x11 x12 x15 x16 x17 x18 x19 x20:D) (acc:List Int) (hu:Up acc) (ha:acc.length≤1000) :
  q0u [L82_2 (RP (n+4))] M0 0 [.d (dI (some L)),.d (il L.length),.d (il 0),.r (acc.map rI),.d x4,.d x5,.d x6,.d x7,.m q,.d x9,.d x10,.d x11,.d x12,.n acc.length,.n acc.length,.d x15,.d x16,.d x17,.d x18,.d x19,.d x20] =
   some (0,[.r ((q0a acc L).map rI),.d x4,.d x5,.d x6,.d x7,.m q,.d x9,.d x10,.d x11,.d x12,.n (q0a acc L).length,.n (q0a acc L).length,.d x15,.d x16,.d x17,.d x18,.d x19,.d x20]):=by
 refine q6i L hL _ (fun i acc=>[.d (dI (some L)),.d (il L.length),.d (il (i:Nat)),.r (acc.map rI),.d x4,.d x5,.d x6,.d x7,.m q,.d x9,.d x10,.d x11,.d x12,.n acc.length,.n acc.length,.d x15,.d x16,.d x17,.d x18,.d x19,.d x20])
  (fun acc=>some (0,[.r (acc.map rI),.d x4,.d x5,.d x6,.d x7,.m q,.d x9,.d x10,.d x11,.d x12,.n acc.length,.n acc.length,.d x15,.d x16,.d x17,.d x18,.d x19,.d x20])) 1000 ?_ ?_ acc hu ha
 ·intro acc k;simp [L82_2]
 ·intro i c acc k hi hlt hw hu hl
  have hi':((some L).getD [])[i]?=some c:=hi
  have hput:=q1j n acc c (by omega) hu
  simp only [L82_2,q02,q05,q0B,q0A,q0x,q0E,q0p,q01,hlt,decide_true,if_true,q2S hi',rI,q08,q0y,q0C,List.length_map,q1f,q07]
  simp only [hput,q00,q02,q0X,q03,q0k,hw,List.length_map,q20,q21]
set_option maxRecDepth 20000 in
theorem qhF (n:Nat) (L:List Int) (hL:L.length≤1000000) (q:Mr) (x4 x5 x6 x7 x9 x10 x11 x12 x15 x16 x17 x18 x19 x20:D) (acc:List Int) (hu:Up acc) (ha:acc.length≤1000) :
  q0u [L82_4 (RP (n+4))] M0 0 [.d (dI (some L)),.d (il L.length),.d (il 0),.r (acc.map rI),.d x4,.d x5,.d x6,.d x7,.m q,.d x9,.d x10,.d x11,.d x12,.n acc.length,.n acc.length,.d x15,.d x16,.d x17,.d x18,.d x19,.d x20] =
   some (0,[.r ((q0a acc L).map rI),.d x4,.d x5,.d x6,.d x7,.m q,.d x9,.d x10,.d x11,.d x12,.n (q0a acc L).length,.n (q0a acc L).length,.d x15,.d x16,.d x17,.d x18,.d x19,.d x20]):=by
 refine q6i L hL _ (fun i acc=>[.d (dI (some L)),.d (il L.length),.d (il (i:Nat)),.r (acc.map rI),.d x4,.d x5,.d x6,.d x7,.m q,.d x9,.d x10,.d x11,.d x12,.n acc.length,.n acc.length,.d x15,.d x16,.d x17,.d x18,.d x19,.d x20])
  (fun acc=>some (0,[.r (acc.map rI),.d x4,.d x5,.d x6,.d x7,.m q,.d x9,.d x10,.d x11,.d x12,.n acc.length,.n acc.length,.d x15,.d x16,.d x17,.d x18,.d x19,.d x20])) 1000 ?_ ?_ acc hu ha
 ·intro acc k;simp [L82_4]
 ·intro i c acc k hi hlt hw hu hl
  have hi':((some L).getD [])[i]?=some c:=hi
  have hput:=q1j n acc c (by omega) hu
  simp only [L82_4,q02,q05,q0B,q0A,q0x,q0E,q0p,q01,hlt,decide_true,if_true,q2S hi',rI,q08,q0y,q0C,List.length_map,q1f,q07]
  simp only [hput,q00,q02,q0X,q03,q0k,hw,List.length_map,q20,q21]
set_option maxRecDepth 20000 in
theorem qhE (n:Nat) (L:List Int) (hL:L.length≤1000000) (q:Mr) (x3 x4 x5 x6 x8 x9 x10 x11 x15 x16 x17 x18 x19 x20:D) (acc:List Int) (hu:Up acc) (ha:acc.length≤1000) :
  q0u [L82_6 (RP (n+4))] M0 0 [.d (dI (some L)),.d (il L.length),.d (il 0),.d x3,.d x4,.d x5,.d x6,.m q,.d x8,.d x9,.d x10,.d x11,.n acc.length,.n acc.length,.r (acc.map rI),.d x15,.d x16,.d x17,.d x18,.d x19,.d x20] =
   some (0,[.d x3,.d x4,.d x5,.d x6,.m q,.d x8,.d x9,.d x10,.d x11,.n (q0a acc L).length,.n (q0a acc L).length,.r ((q0a acc L).map rI),.d x15,.d x16,.d x17,.d x18,.d x19,.d x20]):=by
 refine q6i L hL _ (fun i acc=>[.d (dI (some L)),.d (il L.length),.d (il (i:Nat)),.d x3,.d x4,.d x5,.d x6,.m q,.d x8,.d x9,.d x10,.d x11,.n acc.length,.n acc.length,.r (acc.map rI),.d x15,.d x16,.d x17,.d x18,.d x19,.d x20])
  (fun acc=>some (0,[.d x3,.d x4,.d x5,.d x6,.m q,.d x8,.d x9,.d x10,.d x11,.n acc.length,.n acc.length,.r (acc.map rI),.d x15,.d x16,.d x17,.d x18,.d x19,.d x20])) 1000 ?_ ?_ acc hu ha
 ·intro acc k;simp [L82_6]
 ·intro i c acc k hi hlt hw hu hl
  have hi':((some L).getD [])[i]?=some c:=hi
  have hput:=q1j n acc c (by omega) hu
  simp only [L82_6,q02,q05,q0B,q0A,q0x,q0E,q0p,q01,hlt,decide_true,if_true,q2S hi',rI,q08,q0y,q0C,List.length_map,q1f,q07]
  simp only [hput,q00,q02,q0X,q03,q0k,hw,List.length_map,q20,q21]
def qcC (d who:Int) (kin:D) (no yes:Bool) (acc:List Int) (q:Mr):List Yr:=[.r (acc.map rI),.n acc.length,.n acc.length,.d (bl no),.d (bl yes),.d kin,.d (il d),.m q,.d kin,.d (il d),.d kin,.d (il who)]
def qcD (d who:Int) (kin:D) (no yes:Bool) (m:Nat) (acc:List Int) (q:Mr):List Yr:=.d (il d)::.d (il ((m:Int) - 1))::qcC d who kin no yes acc q
def tz82 (d who:Int) (kin:D) (no yes:Bool) (q:Mr):List Yr:=[.d (bl no),.d (bl yes),.d kin,.d (il d),.m q,.d kin,.d (il d),.d kin,.d (il who)]
def qhi (d who:Int) (kin:D) (no yes:Bool) (m:Nat) (q:Mr):List Yr:=.d (il d)::.d (il ((m:Int) - 1))::tz82 d who kin no yes q
set_option maxRecDepth 20000 in
theorem rd82_5 (n:Nat) (a b c:Option (List E9)) (o:Option (List E5)) (d who:Int) (no yes:Bool) (m:Nat) (e:E9) (he:(a.getD [])[m]?=some e) (hb0:¬ e.b=0) (hw:IntKind.i64.wrap (((m:Nat):Int) - 1)=((m:Nat):Int) - 1)
  (_:q0d d (b.getD []) e.b≠[]) (hlen:(q0d d (b.getD []) e.b).length≤1000000)
  (hcall:∀ q:Mr,q61 d (b.getD []) q→∃ q':Mr,q61 d (b.getD []) q'∧FN (n+4) 1000161 [q0Y a b c o,il d,.mp false q.1 q.2,il e.b,q0Y a b c o,il d]=some (0,[.d (dI (some (q0d d (b.getD []) e.b))),.d (q0Y a b c o),.d (il d),.d (.mp false q'.1 q'.2)]))
  (acc:List Int) (q:Mr) (hu:Up acc) (ha:acc.length≤900) (hq:q61 d (b.getD []) q) (k:Nat→List Yr→Out):∃ q':Mr,q61 d (b.getD []) q'∧L82_5 (RP (n+4)) k (qcD d who (q0Y a b c o) no yes (m+1) acc q) =
   if e.a=who∧q1T e.f1 e.t2 d=true then (if q1z e.f2 e.t1 d=true then some (2,qcC d who (q0Y a b c o) no yes (q0J (q0d d (b.getD [])) yes no (some e.b) acc) q') else k 1 (qcD d who (q0Y a b c o) no yes m (q0J (q0d d (b.getD [])) yes no (some e.b) acc) q')) else k 1 (qcD d who (q0Y a b c o) no yes m acc q'):=by
 have hm:(((m+1:Nat):Int) - 1)=((m:Nat):Int):=by omega
 have h157:=s157 (n+3) a b c o m e who he
 have hput:=q1j n acc 0 (by omega) hu
 simp only [qcD,qcC,hm,L82_5,q02,q05,q0B,q0A,q0x,q0E,q21,q20,q03,q1L,q01]
 rw [if_pos (by simp)]
 simp only [q07,h157,q00,q02,q05,q0I,q01,q1k,hw]
 by_cases h1:e.a=who
 ·rw [if_neg (by simp [h1])]
  simp only [qfA,q00,q02,q0I,q01]
  by_cases h2:q1T e.f1 e.t2 d=true
  ·rw [if_neg (by simp [h2])]
   simp only [if_pos (⟨h1,h2⟩:e.a=who∧q1T e.f1 e.t2 d=true)]
   simp only [q0K,hb0,decide_false,q01,Bool.false_eq_true,if_false]
   cases no with
   | false =>
    have hfs:q0J (q0d d (b.getD [])) yes false (some e.b) acc=if yes=true then q0a acc (q0d d (b.getD []) e.b) else acc:=by cases yes<;>simp [q0J,f0,hb0]
    simp only [Bool.false_eq_true,if_false,q00,q02,q05,q0B,q0A,q0x,q0E,q21,q20,q0K,hb0,decide_false,q01,q0e]
    cases yes with
    | false =>
     refine ⟨q,hq,?_⟩
     simp only [q0I,Bool.not_false,q01,if_true,q9B,q00,q02,hfs]
     rfl
    | true =>
     obtain ⟨q',hq',hc⟩:=hcall q hq
     refine ⟨q',hq',?_⟩
     simp only [q0I,Bool.not_true,q01,Bool.false_eq_true,if_false,q67,hc,q00,q02,q05,q5z,q2I,Option.getD_some,q0n]
     rw [qhF n _ hlen _ _ _ _ _ _ _ _ _ _ _ _ _ _ _ acc hu (by omega)]
     simp only [q00,q9B,q02,q05,q0B,q0A,q0x,q21,q20,q01,hfs]
     rfl
   | true =>
    have hu0:=q3s 0 hu
    have hl0:=q2Q 0 acc
    have hfs:q0J (q0d d (b.getD [])) yes true (some e.b) acc=if yes=true then q0a (ins 0 acc) (q0d d (b.getD []) e.b) else ins 0 acc:=by cases yes<;>simp [q0J,f0,hb0]
    simp only [if_true,q0y,List.length_map,q0C,q1f,hput,q0X,q00,q02,q05,q0B,q0A,q0x,q0E,q21,q20,q0K,hb0,decide_false,q01,Bool.false_eq_true,if_false,q0e]
    cases yes with
    | false =>
     refine ⟨q,hq,?_⟩
     simp only [q0I,Bool.not_false,q01,if_true,q9B,q00,q02,hfs]
     rfl
    | true =>
     obtain ⟨q',hq',hc⟩:=hcall q hq
     refine ⟨q',hq',?_⟩
     simp only [q0I,Bool.not_true,q01,Bool.false_eq_true,if_false,q67,hc,q00,q02,q05,q5z,q2I,Option.getD_some,q0n]
     rw [qhF n _ hlen _ _ _ _ _ _ _ _ _ _ _ _ _ _ _ (ins 0 acc) hu0 (by omega)]
     simp only [q00,q9B,q02,q05,q0B,q0A,q0x,q21,q20,q01,hfs]
     rfl
  ·rw [if_pos (by simp [h2])]
   simp only [if_neg (fun h=>h2 h.2:¬ (e.a=who∧q1T e.f1 e.t2 d=true))]
   exact ⟨q,hq,rfl⟩
 ·rw [if_pos (by simp [h1])]
  simp only [if_neg (fun h=>h1 h.1:¬ (e.a=who∧q1T e.f1 e.t2 d=true))]
  exact ⟨q,hq,rfl⟩
set_option maxRecDepth 20000 in
theorem rd82_7 (n:Nat) (a b c:Option (List E9)) (o:Option (List E5)) (d who:Int) (no yes:Bool) (m:Nat) (e:E9) (he:(a.getD [])[m]?=some e) (hb0:¬ e.b=0) (hw:IntKind.i64.wrap (((m:Nat):Int) - 1)=((m:Nat):Int) - 1)
  (_:q0d d (b.getD []) e.b≠[]) (hlen:(q0d d (b.getD []) e.b).length≤1000000)
  (hcall:∀ q:Mr,q61 d (b.getD []) q→∃ q':Mr,q61 d (b.getD []) q'∧FN (n+4) 1000161 [q0Y a b c o,il d,.mp false q.1 q.2,il e.b,q0Y a b c o,il d]=some (0,[.d (dI (some (q0d d (b.getD []) e.b))),.d (q0Y a b c o),.d (il d),.d (.mp false q'.1 q'.2)]))
  (acc:List Int) (q:Mr) (hu:Up acc) (ha:acc.length≤900) (hq:q61 d (b.getD []) q) (k:Nat→List Yr→Out):∃ q':Mr,q61 d (b.getD []) q'∧L82_7 (RP (n+4)) k (qcD d who (q0Y a b c o) no yes (m+1) acc q) =
   if e.a=who∧q1T e.f1 e.t2 d=true then (if q1z e.f2 e.t1 d=true then some (4,qcC d who (q0Y a b c o) no yes (q0J (q0d d (b.getD [])) yes no (some e.b) acc) q') else k 2 (qcD d who (q0Y a b c o) no yes m (q0J (q0d d (b.getD [])) yes no (some e.b) acc) q')) else k 2 (qcD d who (q0Y a b c o) no yes m acc q'):=by
 have hm:(((m+1:Nat):Int) - 1)=((m:Nat):Int):=by omega
 have h157:=s157 (n+3) a b c o m e who he
 have hput:=q1j n acc 0 (by omega) hu
 simp only [qcD,qcC,hm,L82_7,q02,q05,q0B,q0A,q0x,q0E,q21,q20,q03,q1L,q01]
 rw [if_pos (by simp)]
 simp only [q07,h157,q00,q02,q05,q0I,q01,q1k,hw]
 by_cases h1:e.a=who
 ·rw [if_neg (by simp [h1])]
  simp only [qfA,q00,q02,q0I,q01]
  by_cases h2:q1T e.f1 e.t2 d=true
  ·rw [if_neg (by simp [h2])]
   simp only [if_pos (⟨h1,h2⟩:e.a=who∧q1T e.f1 e.t2 d=true)]
   simp only [q0K,hb0,decide_false,q01,Bool.false_eq_true,if_false]
   cases no with
   | false =>
    have hfs:q0J (q0d d (b.getD [])) yes false (some e.b) acc=if yes=true then q0a acc (q0d d (b.getD []) e.b) else acc:=by cases yes<;>simp [q0J,f0,hb0]
    simp only [Bool.false_eq_true,if_false,q00,q02,q05,q0B,q0A,q0x,q0E,q21,q20,q0K,hb0,decide_false,q01,q0e]
    cases yes with
    | false =>
     refine ⟨q,hq,?_⟩
     simp only [q0I,Bool.not_false,q01,if_true,q9B,q00,q02,hfs]
     rfl
    | true =>
     obtain ⟨q',hq',hc⟩:=hcall q hq
     refine ⟨q',hq',?_⟩
     simp only [q0I,Bool.not_true,q01,Bool.false_eq_true,if_false,q67,hc,q00,q02,q05,q5z,q2I,Option.getD_some,q0n]
     rw [qhE n _ hlen _ _ _ _ _ _ _ _ _ _ _ _ _ _ _ acc hu (by omega)]
     simp only [q00,q9B,q02,q05,q0B,q0A,q0x,q0E,q21,q20,q01,hfs]
     rfl
   | true =>
    have hu0:=q3s 0 hu
    have hl0:=q2Q 0 acc
    have hfs:q0J (q0d d (b.getD [])) yes true (some e.b) acc=if yes=true then q0a (ins 0 acc) (q0d d (b.getD []) e.b) else ins 0 acc:=by cases yes<;>simp [q0J,f0,hb0]
    simp only [if_true,q0y,List.length_map,q0C,q1f,hput,q0X,q00,q02,q05,q0B,q0A,q0x,q0E,q21,q20,q0K,hb0,decide_false,q01,Bool.false_eq_true,if_false,q0e]
    cases yes with
    | false =>
     refine ⟨q,hq,?_⟩
     simp only [q0I,Bool.not_false,q01,if_true,q9B,q00,q02,hfs]
     rfl
    | true =>
     obtain ⟨q',hq',hc⟩:=hcall q hq
     refine ⟨q',hq',?_⟩
     simp only [q0I,Bool.not_true,q01,Bool.false_eq_true,if_false,q67,hc,q00,q02,q05,q5z,q2I,Option.getD_some,q0n]
     rw [qhE n _ hlen _ _ _ _ _ _ _ _ _ _ _ _ _ _ _ (ins 0 acc) hu0 (by omega)]
     simp only [q00,q9B,q02,q05,q0B,q0A,q0x,q0E,q21,q20,q01,hfs]
     rfl
  ·rw [if_pos (by simp [h2])]
   simp only [if_neg (fun h=>h2 h.2:¬ (e.a=who∧q1T e.f1 e.t2 d=true))]
   exact ⟨q,hq,rfl⟩
 ·rw [if_pos (by simp [h1])]
  simp only [if_neg (fun h=>h1 h.1:¬ (e.a=who∧q1T e.f1 e.t2 d=true))]
  exact ⟨q,hq,rfl⟩
set_option maxRecDepth 20000 in
theorem rd82_3 (n:Nat) (a b c:Option (List E9)) (o:Option (List E5)) (d who:Int) (no yes:Bool) (m:Nat) (e:E9) (he:(a.getD [])[m]?=some e) (hb0:¬ e.b=0) (hw:IntKind.i64.wrap (((m:Nat):Int) - 1)=((m:Nat):Int) - 1)
  (hne:q0d d (b.getD []) e.b≠[]) (hlen:(q0d d (b.getD []) e.b).length≤1000000)
  (hcall:∀ q:Mr,q61 d (b.getD []) q→∃ q':Mr,q61 d (b.getD []) q'∧FN (n+4) 1000161 [q0Y a b c o,il d,.mp false q.1 q.2,il e.b,q0Y a b c o,il d]=some (0,[.d (dI (some (q0d d (b.getD []) e.b))),.d (q0Y a b c o),.d (il d),.d (.mp false q'.1 q'.2)]))
  (hyn:yes=false→no=true) (q:Mr) (hq:q61 d (b.getD []) q) (k:Nat→List Yr→Out):∃ q':Mr,q61 d (b.getD []) q'∧L82_3 (RP (n+4)) k (qhi d who (q0Y a b c o) no yes (m+1) q) =
   if e.a=who∧q1T e.f1 e.t2 d=true then (if q1z e.f2 e.t1 d=true then some (if no=true then 2 else 4,qcC d who (q0Y a b c o) no yes (q0J (q0d d (b.getD [])) yes no (some e.b) []) q') else k (if no=true then 1 else 2) (qcD d who (q0Y a b c o) no yes m (q0J (q0d d (b.getD [])) yes no (some e.b) []) q')) else k 0 (qhi d who (q0Y a b c o) no yes m q'):=by
 have hm:(((m+1:Nat):Int) - 1)=((m:Nat):Int):=by omega
 have h157:=s157 (n+3) a b c o m e who he
 simp only [qhi,tz82,hm,L82_3,q02,q05,q21,q20,q03,q1L,q01]
 rw [if_pos (by simp)]
 simp only [q07,h157,q00,q02,q05,q0I,q01,q1k,hw]
 by_cases h1:e.a=who
 ·rw [if_neg (by simp [h1])]
  simp only [qfA,q00,q02,q0I,q01]
  by_cases h2:q1T e.f1 e.t2 d=true
  ·rw [if_neg (by simp [h2])]
   simp only [if_pos (⟨h1,h2⟩:e.a=who∧q1T e.f1 e.t2 d=true)]
   simp only [q0K,hb0,decide_false,q01,Bool.false_eq_true,if_false]
   cases no with
   | false =>
    cases yes with
    | false=>exact absurd (hyn rfl) (by simp)
    | true =>
     have hfs:q0J (q0d d (b.getD [])) true false (some e.b) []=q0a [] (q0d d (b.getD []) e.b):=by simp [q0J,f0,hb0]
     obtain ⟨q',hq',hc⟩:=hcall q hq
     refine ⟨q',hq',?_⟩
     simp only [Bool.false_eq_true,if_false,q00,q02,q05,q21,q20,q0K,hb0,decide_false,q01,q0e,q0I,Bool.not_true,q67,hc,q5z,q2I,Option.getD_some,q0n]
     rw [qiy n _ hlen hne]
     simp only [q1M,q00,q9B,q02,q05,q0B,q0A,q0x,q21,q20,q01,hfs]
     rfl
   | true =>
    have hfs:q0J (q0d d (b.getD [])) yes true (some e.b) []=if yes=true then q0a [0] (q0d d (b.getD []) e.b) else [0]:=by cases yes<;>simp [q0J,f0,hb0,ins]
    simp only [if_true,q12,qgj,q00,q02,q05,q01,Bool.false_eq_true,if_false]
    rw [put0]
    simp only [q0D,q0v,q0y,q0q,List.length_cons,List.length_nil,List.take_succ_cons,List.take_zero,q0e,q1M,q00,q02,q05,q0B,q0A,q0x,q21,q20,q0K,hb0,decide_false,q01,Bool.false_eq_true,if_false]
    cases yes with
    | false =>
     refine ⟨q,hq,?_⟩
     simp only [q0I,Bool.not_false,q01,if_true,q9B,q00,q02,hfs]
     rfl
    | true =>
     obtain ⟨q',hq',hc⟩:=hcall q hq
     refine ⟨q',hq',?_⟩
     simp only [q0I,Bool.not_true,q01,Bool.false_eq_true,if_false,q67,hc,q00,q02,q05,q5z,q2I,Option.getD_some,q0n]
     rw [show ([0].map rI)=[0].map rI from rfl,show (0+1:Nat)=[(0:Int)].length from rfl,li82_2 n _ hlen _ _ _ _ _ _ _ _ _ _ _ _ _ _ _ [0] (by simp) (by simp)]
     simp only [q00,q9B,q02,q05,q0B,q0A,q0x,q21,q20,q01,hfs]
     rfl
  ·rw [if_pos (by simp [h2])]
   simp only [if_neg (fun h=>h2 h.2:¬ (e.a=who∧q1T e.f1 e.t2 d=true))]
   exact ⟨q,hq,rfl⟩
 ·rw [if_pos (by simp [h1])]
  simp only [if_neg (fun h=>h1 h.1:¬ (e.a=who∧q1T e.f1 e.t2 d=true))]
  exact ⟨q,hq,rfl⟩
end Go.VE
namespace Go.VE
open Go.RowKit Go.Proofs
theorem q1t {acc:List Int} (hu:Up acc) (h:∀ z∈acc,0≤z∧z≤99):acc.length≤100:=by
 have:=q9E acc 0 99 hu h
 omega
def en82 (d who:Int) (kin:D) (no yes:Bool) (s:Nat×Bool×List Int×Mr):Nat×List Yr:=match s.2.2.1 with
 | []=>(0,qhi d who kin no yes s.1 s.2.2.2)
 | y::r=>(if s.2.1=true then 1 else 2,qcD d who kin no yes s.1 (y::r) s.2.2.2)
theorem qco (d who:Int) (kin:D) (no yes:Bool) (m:Nat) (j:Bool) (q:Mr):en82 d who kin no yes (m,j,[],q)=(0,qhi d who kin no yes m q):=rfl
theorem q7U (d who:Int) (kin:D) (no yes:Bool) (m:Nat) (j:Bool) {acc:List Int} (q:Mr) (h:acc≠[]):en82 d who kin no yes (m,j,acc,q)=(if j=true then 1 else 2,qcD d who kin no yes m acc q):=by
 cases acc with
 | nil=>exact absurd rfl h
 | cons _ _=>rfl
def Q82 (d who:Int) (kin:D) (no yes:Bool) (T:List Int) (r:Out):Prop:=∃ (acc:List Int) (q:Mr),Up acc∧acc.length≤900 ∧
 ((acc≠[]∧∃ j:Nat,(((j=2∨j=4)∧acc=T)∨((j=3∨j=5)∧ins 0 acc=T))∧r=some (j,qcC d who kin no yes acc q))∨(r=some (0,tz82 d who kin no yes q)∧acc=[]∧ins 0 []=T))
theorem qd8 {L:Int→List Int} {yes no:Bool} (hyn:yes=false→no=true) {w:Int} (hw:¬ w=0) (hL:L w≠[]) (acc:List Int):q0J L yes no (some w) acc≠[]:=by
 unfold q0J
 have:¬ f0 (some w)=0:=hw
 cases yes with
 | false=>have:=hyn rfl;subst this;simp;exact q7G _ _
 | true=>simp only [this,false_or,Bool.true_eq_false,if_false];exact q3f _ hL
set_option maxRecDepth 20000 in
theorem l82 (n:Nat) (a b c:Option (List E9)) (o:Option (List E5)) (d who:Int) (no yes:Bool) (hyn:yes=false→no=true) (ha:qfL (a.getD [])) (hla:(a.getD []).length≤1000000) (hb:q62 (b.getD []))
  (hrec:∀ (w:Int) (q:Mr),1≤w→w≤99→q61 d (b.getD []) q→∃ q':Mr,q61 d (b.getD []) q'∧FN (n+4) 1000161 [q0Y a b c o,il d,.mp false q.1 q.2,il w,q0Y a b c o,il d]=some (0,[.d (dI (some (q0d d (b.getD []) w))),.d (q0Y a b c o),.d (il d),.d (.mp false q'.1 q'.2)])) :
  Q82 d who (q0Y a b c o) no yes (qaJ (q0d d (b.getD [])) yes no (q0Z d who (below (a.getD []) (a.getD []).length)) []) (q0u [L82_3 (RP (n+4)),L82_5 (RP (n+4)),L82_7 (RP (n+4))] M0 0 (qhi d who (q0Y a b c o) no yes (a.getD []).length ([],[]))):=by
 generalize hT:qaJ (q0d d (b.getD [])) yes no (q0Z d who (below (a.getD []) (a.getD []).length)) []=T
 refine q4x (σ:=Nat×Bool×List Int×Mr) [L82_3 (RP (n+4)),L82_5 (RP (n+4)),L82_7 (RP (n+4))] (en82 d who (q0Y a b c o) no yes) (fun s=>s.1)
  (fun s=>s.1≤(a.getD []).length∧Up s.2.2.1∧(∀ z∈s.2.2.1,0≤z∧z≤99)∧q61 d (b.getD []) s.2.2.2∧qaJ (q0d d (b.getD [])) yes no (q0Z d who (below (a.getD []) s.1)) s.2.2.1=T)
  (Q82 d who (q0Y a b c o) no yes T) ?_ M0 ((a.getD []).length,true,[],([],[])) ⟨Nat.le_refl _,by simp,by simp,qc3 _ _,hT⟩ (by unfold M0;simp only;omega)
 clear hT
 rintro ⟨m,j,acc,q⟩ k ⟨g1,g2,g3,g4,g5⟩ ih
 simp only at g1 g2 g3 g4 g5 ih
 have gl:=q1t g2 g3
 cases m with
 | zero =>
  rw [q3Z] at g5
  have g6:ins 0 acc=T:=by rw [←g5];simp [q0Z,qaJ,q0J,f0]
  cases acc with
  | nil =>
   refine ⟨L82_3 (RP (n+4)),rfl,[],q,g2,by simp,.inr ⟨?_,rfl,g6⟩⟩
   simp [qco,qhi,tz82,L82_3]
  | cons y r =>
   cases j with
   | true =>
    refine ⟨L82_5 (RP (n+4)),rfl,y::r,q,g2,by omega,.inl ⟨by simp,3,.inr ⟨.inl rfl,g6⟩,?_⟩⟩
    simp [en82,qcD,qcC,L82_5]
   | false =>
    refine ⟨L82_7 (RP (n+4)),rfl,y::r,q,g2,by omega,.inl ⟨by simp,5,.inr ⟨.inr rfl,g6⟩,?_⟩⟩
    simp [en82,qcD,qcC,L82_7]
 | succ m =>
  obtain ⟨e,he⟩:∃ e,(a.getD [])[m]?=some e:=⟨_,List.getElem?_eq_getElem (by omega)⟩
  rw [q39 he,q0Z] at g5
  have hw:IntKind.i64.wrap (((m:Nat):Int) - 1)=((m:Nat):Int) - 1:=q0f (by omega) (by omega)
  have hbe:=ha e (List.mem_of_getElem? he)
  have hb0:¬ e.b=0:=by omega
  have hne:q0d d (b.getD []) e.b≠[]:=fun h=>by
   obtain ⟨z,hz⟩:=q4A hb (d:=d) _ e.b (Nat.le_refl _) hbe.1
   rw [h] at hz;simp at hz
  have hlen:=q35 (d:=d) hb hbe.1
  have hcall:=fun q hq=>hrec e.b q hbe.1 hbe.2 hq
  have hfne:=qd8 (L:=q0d d (b.getD [])) hyn hb0 hne acc
  have hfu:=q8q (q0d d (b.getD [])) yes no (some e.b) g2
  have hfr:∀ z∈q0J (q0d d (b.getD [])) yes no (some e.b) acc,0≤z∧z≤99:=fun z hz=>by
   rcases (q7p _ _ _ _ _ _).1 hz with h | ⟨rfl,_⟩ | ⟨_,_,h⟩
   ·exact g3 z h
   ·omega
   ·have:=q17 hb _ e.b z (Nat.le_refl _) hbe.1 h;omega
  have hfl:=q1t hfu hfr
  cases acc with
  | nil =>
   obtain ⟨q',hq',hr⟩:=rd82_3 n a b c o d who no yes m e he hb0 hw hne (by omega) hcall hyn q g4 k
   refine ⟨L82_3 (RP (n+4)),rfl,?_⟩
   rw [qco]
   simp only
   rw [hr]
   by_cases hc:e.a=who∧q1T e.f1 e.t2 d=true
   ·rw [if_pos hc] at g5 ⊢
    rw [qaJ] at g5
    by_cases h3:q1z e.f2 e.t1 d=true
    ·rw [if_pos h3] at g5 ⊢
     refine ⟨q0J (q0d d (b.getD [])) yes no (some e.b) [],q',hfu,by omega,.inl ⟨hfne,_,.inl ⟨?_,g5⟩,rfl⟩⟩
     cases no<;>simp
    ·rw [if_neg h3] at g5 ⊢
     have:=ih (m,no,q0J (q0d d (b.getD [])) yes no (some e.b) [],q') ⟨by simp only;omega,hfu,hfr,hq',g5⟩ (by simp only;omega)
     rw [q7U _ _ _ _ _ _ _ _ hfne] at this
     exact this
   ·rw [if_neg hc] at g5 ⊢
    exact ih (m,true,[],q') ⟨by simp only;omega,g2,g3,hq',g5⟩ (by simp only;omega)
  | cons y r =>
   cases j with
   | true =>
    obtain ⟨q',hq',hr⟩:=rd82_5 n a b c o d who no yes m e he hb0 hw hne (by omega) hcall (y::r) q g2 (by omega) g4 k
    refine ⟨L82_5 (RP (n+4)),rfl,?_⟩
    rw [q7U _ _ _ _ _ _ _ _ (by simp)]
    simp only
    rw [hr]
    by_cases hc:e.a=who∧q1T e.f1 e.t2 d=true
    ·rw [if_pos hc] at g5 ⊢
     rw [qaJ] at g5
     by_cases h3:q1z e.f2 e.t1 d=true
     ·rw [if_pos h3] at g5 ⊢
      exact ⟨q0J (q0d d (b.getD [])) yes no (some e.b) (y::r),q',hfu,by omega,.inl ⟨hfne,_,.inl ⟨.inl rfl,g5⟩,rfl⟩⟩
     ·rw [if_neg h3] at g5 ⊢
      have:=ih (m,true,q0J (q0d d (b.getD [])) yes no (some e.b) (y::r),q') ⟨by simp only;omega,hfu,hfr,hq',g5⟩ (by simp only;omega)
      rw [q7U _ _ _ _ _ _ _ _ hfne] at this
      exact this
    ·rw [if_neg hc] at g5 ⊢
     exact ih (m,true,y::r,q') ⟨by simp only;omega,g2,g3,hq',g5⟩ (by simp only;omega)
   | false =>
    obtain ⟨q',hq',hr⟩:=rd82_7 n a b c o d who no yes m e he hb0 hw hne (by omega) hcall (y::r) q g2 (by omega) g4 k
    refine ⟨L82_7 (RP (n+4)),rfl,?_⟩
    rw [q7U _ _ _ _ _ _ _ _ (by simp)]
    simp only
    rw [hr]
    by_cases hc:e.a=who∧q1T e.f1 e.t2 d=true
    ·rw [if_pos hc] at g5 ⊢
     rw [qaJ] at g5
     by_cases h3:q1z e.f2 e.t1 d=true
     ·rw [if_pos h3] at g5 ⊢
      exact ⟨q0J (q0d d (b.getD [])) yes no (some e.b) (y::r),q',hfu,by omega,.inl ⟨hfne,_,.inl ⟨.inr rfl,g5⟩,rfl⟩⟩
     ·rw [if_neg h3] at g5 ⊢
      have:=ih (m,false,q0J (q0d d (b.getD [])) yes no (some e.b) (y::r),q') ⟨by simp only;omega,hfu,hfr,hq',g5⟩ (by simp only;omega)
      rw [q7U _ _ _ _ _ _ _ _ hfne] at this
      exact this
    ·rw [if_neg hc] at g5 ⊢
     exact ih (m,false,y::r,q') ⟨by simp only;omega,g2,g3,hq',g5⟩ (by simp only;omega)
set_option maxRecDepth 20000 in
theorem s82 (n:Nat) (a b c:Option (List E9)) (o:Option (List E5)) (d who:Int) (hd:0≤d∧d≤4166) (ha:qfL (a.getD [])) (hb:q62 (b.getD [])) (hla:(a.getD []).length≤1000000) (hlb:(b.getD []).length≤1000000) (hlc:(c.getD []).length≤1000000) (hlo:(o.getD []).length≤1000000) :
  FN (n+105) 82 [d9 a,d9 b,d9 c,d5 o,il who,il d]=some (0,[.d (dI (some (q1s (a.getD []) (b.getD []) (c.getD []) (o.getD []) d who)))]):=by
 rw [F82]
 have hloop:=l82 (n+100) a b c o d who (goP (a.getD []) (c.getD []) (o.getD []) d who).2 (goP (a.getD []) (c.getD []) (o.getD []) d who).1 (qeM _ _ _ _ _) ha hla hb
  (fun w q hw1 hw2 hq=>s161 a b c o d hb hlb 99 n w q hw1 (by omega) hw2 hq)
 rw [show n+100+4=n+104 from rfl] at hloop
 have hp:∀ k:List D→Out,(RP (n+104)).ptrW 4 (.dp [d9 a,d9 b,d9 c,d5 o] 0) k=k [d9 a,d9 b,d9 c,d5 o]:=fun k=>q2d _ 4 k rfl
 have w2:IntKind.i64.wrap (((a.getD []).length:Int) - 1)=((a.getD []).length:Int) - 1:=q0f (by omega) (by omega)
 simp only [G82,q07,s163 (n+97) a b c o d who hd hla hlc hlo,q00,q02,q05,q6I,q47,hp,q08,q5J,q03,q1k,w2,q0n,qim]
 simp only [qhi,tz82,q0Y] at hloop
 rw [show q1s (a.getD []) (b.getD []) (c.getD []) (o.getD []) d who=qaJ (q0d d (b.getD [])) (goP (a.getD []) (c.getD []) (o.getD []) d who).1 (goP (a.getD []) (c.getD []) (o.getD []) d who).2 (q0Z d who (below (a.getD []) (a.getD []).length)) [] from rfl]
 generalize qaJ (q0d d (b.getD [])) (goP (a.getD []) (c.getD []) (o.getD []) d who).1 (goP (a.getD []) (c.getD []) (o.getD []) d who).2 (q0Z d who (below (a.getD []) (a.getD []).length)) []=T at hloop ⊢
 obtain ⟨acc,q,hu,hl,⟨hne,j,hj,hr⟩ | ⟨hr,_,hT⟩⟩:=hloop
 ·rw [hr]
  have hput:=q1j (n+100) acc 0 (by omega) hu
  rw [show n+100+4=n+104 from rfl] at hput
  rcases hj with ⟨rfl | rfl,rfl⟩ | ⟨rfl | rfl,rfl⟩
  ·simp [qcC,q4I]
  ·simp [qcC,q4I]
  ·simp [qcC,hput,q4I]
  ·simp [qcC,hput,q4I]
 ·rw [hr,← hT]
  simp only [tz82,q00,q0K,decide_true,q01,if_true,q12,qgj,q02,q05,Bool.false_eq_true,if_false]
  rw [put0]
  simp [dI,dSl,ins,rI]
end Go.VE
