/- Family: whether a person goes (program). -/
import Derived.Test.YtobeabinccohlaaGreatMg2
namespace Go.VE
open Go.RowKit Go.Proofs
def goStep' (W:Int→Bool×Bool):Option Int→Bool×Bool
 | none=>(false,false)
 | some z=>goStep W (some z)
def Q163 (x0 x1:D) (W:Int→Bool×Bool) (s:Bool×Bool) (os:List (Option Int)):Out:=some (if os.any Option.isNone=true then 1 else 0,[.d (bl (s.1||os.any fun x=>(goStep' W x).2)),.d (bl (s.2||os.any fun x=>(goStep' W x).1)),.d x0,.d x1])
set_option maxRecDepth 20000 in
theorem l163 (n:Nat) (a b c:Option (List E9)) (o:Option (List E5)) (d who:Int) (hd:0≤d∧d≤4166) (ha:(a.getD []).length≤1000000) (hc:(c.getD []).length≤1000000) (ho:(o.getD []).length≤1000000) (s:Bool×Bool) :
  loopR [L163_0 (RP (n+6)) (d9 a) (d9 b) (d9 c) (d5 o) (il d)] M0 0 [.d (il d),.d (il (((c.getD []).length:Int) - 1)),.d (bl s.1),.d (bl s.2),.d (dKin a b c o),.d (il who)]=Q163 (dKin a b c o) (il who) (walkP (a.getD []) (c.getD []) (o.getD []) d) s (opts d who (below (c.getD []) (c.getD []).length)):=by
 have:=opt_loop (σ:=Bool×Bool) (c.getD []) hc d who [L163_0 (RP (n+6)) (d9 a) (d9 b) (d9 c) (d5 o) (il d)] (fun m s=>(0,[.d (il d),.d (il ((m:Int) - 1)),.d (bl s.1),.d (bl s.2),.d (dKin a b c o),.d (il who)])) (fun _ _=>True) (fun s w=>(s.1||(goStep (walkP (a.getD []) (c.getD []) (o.getD []) d) (some w)).2,s.2||(goStep (walkP (a.getD []) (c.getD []) (o.getD []) d) (some w)).1))
  (fun s=>some (0,[.d (bl s.1),.d (bl s.2),.d (dKin a b c o),.d (il who)])) (fun s=>some (1,[.d (bl s.1),.d (bl s.2),.d (dKin a b c o),.d (il who)])) ?_ ?_ s trivial
 ·refine Eq.trans this (optR_congr (Q163 (dKin a b c o) (il who) (walkP (a.getD []) (c.getD []) (o.getD []) d)) ?_ ?_ ?_ _ s (opts_last _ _ _))
  ·intro s;simp [Q163]
  ·intro s;simp [Q163,goStep']
  ·intro s w os;simp only [Q163,List.any_cons,goStep',Option.isNone_some,Bool.false_or,Bool.or_assoc]
 ·intro s k _
  exact ⟨_,rfl,by simp [L163_0]⟩
 ·intro m e s k he hm hw hm1 _
  refine ⟨trivial,fun _ _=>trivial,_,rfl,?_⟩
  have h195:=s195 (n+5) a b c o m e who he
  have h196:=s196 n a b c o d e.b hd ha hc ho
  have hnn:¬ ((m:Nat):Int) < 0:=by omega
  have hp:∀ k:List D→Out,(RP (n+6)).ptrW 4 (.dp [d9 a,d9 b,d9 c,d5 o] 0) k=k [d9 a,d9 b,d9 c,d5 o]:=fun k=>r_ptrW _ 4 k rfl
  simp only [hm1,L163_0,r_ld0,r_lds,r_liti,r_geq,r_cond]
  rw [if_pos (by simp)]
  simp only [r_call,h195,r_bnd0,r_ld0,r_lds,r_not,r_cond,r_sub,hw,s208,s209,r_litb,r_out,r_eql,r_lss,hnn,decide_false,Bool.false_eq_true,if_false,r_dpD,hp,r_cell0,r_cells,h196,goStep]
  obtain ⟨s1,s2⟩:=s
  by_cases h1:e.a=who
  ·by_cases h2:mayB e.f1 e.t2 d=true
   ·rw [if_pos (⟨h1,h2⟩:e.a=who∧mayB e.f1 e.t2 d=true)]
    by_cases h3:e.b=0
    ·cases s1<;>cases s2<;>cases hq:sureB e.f2 e.t1 d<;>simp [h1,h2,h3]
    ·cases s1<;>cases s2<;>cases hq:sureB e.f2 e.t1 d<;>simp [h1,h2,h3]
   ·rw [if_neg (fun h=>h2 h.2:¬ (e.a=who∧mayB e.f1 e.t2 d=true))]
    simp [h1,h2]
  ·rw [if_neg (fun h=>h1 h.1:¬ (e.a=who∧mayB e.f1 e.t2 d=true))]
   simp [h1]
theorem go1_any (W:Int→Bool×Bool) (os:List (Option Int)):(os.any fun x=>(goStep W x).1)=((os.any fun x=>(goStep' W x).1)||os.any Option.isNone):=by
 induction os with
 | nil=>rfl
 | cons x os ih =>
  rw [List.any_cons,ih,List.any_cons,List.any_cons]
  cases x with
  | none=>simp [goStep,goStep']
  | some w=>simp [goStep',Bool.or_assoc]
theorem go2_any (W:Int→Bool×Bool) (os:List (Option Int)):(os.any fun x=>(goStep W x).2)=os.any fun x=>(goStep' W x).2:=by
 congr 1;funext x;cases x<;>rfl
set_option maxRecDepth 20000 in
theorem s163 (n:Nat) (a b c:Option (List E9)) (o:Option (List E5)) (d who:Int) (hd:0≤d∧d≤4166) (ha:(a.getD []).length≤1000000) (hc:(c.getD []).length≤1000000) (ho:(o.getD []).length≤1000000) :
  FN (n+7) 163 [d9 a,d9 b,d9 c,d5 o,il who,il d]=some (0,[.d (bl (goP (a.getD []) (c.getD []) (o.getD []) d who).1),.d (bl (goP (a.getD []) (c.getD []) (o.getD []) d who).2)]):=by
 rw [F163]
 have h0:=l163 n a b c o d who hd ha hc ho (false,false)
 simp only [dKin] at h0
 have hp:∀ k:List D→Out,(RP (n+6)).ptrW 4 (.dp [d9 a,d9 b,d9 c,d5 o] 0) k=k [d9 a,d9 b,d9 c,d5 o]:=fun k=>r_ptrW _ 4 k rfl
 have w2:IntKind.i64.wrap (((c.getD []).length:Int) - 1)=((c.getD []).length:Int) - 1:=wrap_id (by omega) (by omega)
 simp only [G163,r_call,r_dpD,hp,r_cell0,r_cells,s214 (n+1) (d9 a) (d9 b) (d9 c) o d who hd (by omega),r_bnd0,r_ld0,r_cond,r_litb,r_out,r_isPtr]
 unfold goP
 cases barB d who (o.getD []) with
 | true=>simp
 | false =>
  simp only [Bool.false_eq_true,if_false,len9,r_liti,r_sub,w2,r_loop,h0,go1_any,go2_any,Q163,Bool.false_or]
  generalize opts d who (below (c.getD []) (c.getD []).length)=q
  cases hn:q.any Option.isNone with
  | true =>
   simp []
  | false =>
   simp
end Go.VE
namespace Go.VE
open Go.RowKit Go.Proofs
theorem ins_own (l:List Int) (hl:l.length≤1000000) (body:(Nat→List Yr→Out)→List Yr→Out) (st:Nat→List Int→List Yr) (ex:List Int→Out) (N:Nat)
  (h0:∀ acc k,body k (st l.length acc)=ex acc)
  (h1:∀ (i:Nat) c acc (k:Nat→List Yr→Out),l[i]?=some c→(i:Int) < (l.length:Int)→IntKind.i64.wrap ((i:Int)+1)=((i+1:Nat):Int)→Up acc→acc.length≤N+1000000→body k (st i acc)=k 0 (st (i+1) (ins c acc)))
  (acc:List Int) (hu:Up acc) (hN:acc.length≤N):loopR [body] M0 0 (st 0 acc)=ex (insAll acc l):=by
 refine range_loop l (by omega) body st (fun i acc=>Up acc∧acc.length≤N+i) (fun _ r acc=>ex (insAll acc r)) (fun b k _=>h0 b k) ?_ M0 acc ⟨hu,by omega⟩ (by unfold M0;omega)
 intro i c r acc k hi hd hlt hw hI ih
 obtain ⟨g1,g2⟩:=hI
 rw [h1 i c acc k hi (by omega) (by rw [hw];simp) g1 (by omega)]
 have:=ins_len c acc
 rw [ih (ins c acc) ⟨up_ins c g1,by omega⟩]
 rfl
def enI (z:Nat→List Yr) (st:Nat→List Int→List Yr) (s:Nat×List Int):Nat×List Yr:=match s.2 with
 | []=>(0,z s.1)
 | y::r=>(1,st s.1 (y::r))
theorem enI_ne (z:Nat→List Yr) (st:Nat→List Int→List Yr) {i:Nat} {acc:List Int} (h:acc≠[]):enI z st (i,acc)=(1,st i acc):=by
 cases acc with
 | nil=>exact absurd rfl h
 | cons _ _=>rfl
theorem ins_nil (l:List Int) (hl:l.length≤1000000) (hne:l≠[]) (b0 b1:(Nat→List Yr→Out)→List Yr→Out) (z:Nat→List Yr) (st:Nat→List Int→List Yr) (ex:List Int→Out)
  (h0:∀ acc k,b1 k (st l.length acc)=ex acc)
  (hz:∀ c (k:Nat→List Yr→Out),l[0]?=some c→(0:Int) < (l.length:Int)→b0 k (z 0)=k 1 (st 1 [c]))
  (h1:∀ (i:Nat) c acc (k:Nat→List Yr→Out),l[i]?=some c→(i:Int) < (l.length:Int)→IntKind.i64.wrap ((i:Int)+1)=((i+1:Nat):Int)→Up acc→acc.length≤1000000→b1 k (st i acc)=k 1 (st (i+1) (ins c acc))) :
  loopR [b0,b1] M0 0 (z 0)=ex (insAll [] l):=by
 refine loop_ms (σ:=Nat×List Int) [b0,b1] (enI z st) (fun s=>l.length - s.1) (fun s=>s.1≤l.length∧Up s.2∧s.2.length≤s.1∧(s.2=[]→s.1=0)) (fun s=>ex (insAll s.2 (l.drop s.1))) ?_ M0 (0,[]) ⟨by simp,by simp,by simp,fun _=>rfl⟩ (by unfold M0;simp only;omega)
 rintro ⟨i,acc⟩ k ⟨g1,g2,g3,g4⟩ ih
 simp only at g1 g2 g3 g4 ih ⊢
 by_cases h:i < l.length
 ·have hd:=List.drop_eq_getElem_cons h
  have hi:l[i]?=some l[i]:=List.getElem?_eq_getElem h
  have ih':=ih (i+1,ins l[i] acc) ⟨by simp only;omega,up_ins _ g2,by have:=ins_len l[i] acc;simp only;omega,fun h=>absurd h (ins_ne _ _)⟩ (by simp only;omega)
  rw [hd,insAll_cons]
  rw [enI_ne _ _ (ins_ne _ _)] at ih'
  by_cases ha:acc=[]
  ·subst ha
   have hi0:=g4 rfl
   subst hi0
   exact ⟨b0,rfl,by rw [show (enI z st (0,[])).2=z 0 from rfl,hz _ k hi (by omega)];exact ih'⟩
  ·rw [enI_ne _ _ ha]
   exact ⟨b1,rfl,by simp only;rw [h1 i _ acc k hi (by omega) (by rw [wrap_id (by omega) (by omega)];simp) g2 (by omega)];exact ih'⟩
 ·have hil:i=l.length:=by omega
  subst hil
  have ha:acc≠[]:=fun h=>hne (List.eq_nil_of_length_eq_zero (g4 h))
  rw [enI_ne _ _ ha]
  exact ⟨b1,rfl,by simp only [List.drop_length];exact h0 acc k⟩
section
variable {Fn:Nat→List D→Out} {FnD:D→List Sh→List D→Out} {m:Nat}
theorem r_asM (q:Mr) (k:Mr→Out):(real Fn FnD m).asM false (.mp false q.1 q.2) k=k q:=rfl
theorem r_mpD (q:Mr):(real Fn FnD m).mpD false q=.mp false q.1 q.2:=rfl
theorem r_updg (kd:Nat) (mm:Mr) (key:D) (ds:List D) (k:Mr→Out):(real Fn FnD m).upd kd mm key ds k=match updD kd mm key ds with
  | some p=>k p
  | none=>none:=rfl
end
def Memo (d:Int) (b:List E9) (q:Mr):Prop:=q.1.length=q.2.length∧∀ (j:Nat) v,q.1[j]?=some v→∃ f:Int,v=.int .i64 f∧q.2[j]?=some [dI (some (leadsL d b f))]
theorem memo_emp (d:Int) (b:List E9):Memo d b ([],[]):=⟨rfl,fun j v h=>by simp at h⟩
theorem find_ints (f:Int):∀ (keys:List Value) (i:Nat),(∀ v∈keys,∃ g:Int,v=.int .i64 g)→(mFind 0 (.int .i64 f) keys i=some none∨∃ j,mFind 0 (.int .i64 f) keys i=some (some (i+j))∧keys[j]?=some (.int .i64 f))
 | [],i,_=>.inl rfl
 | x::r,i,h=>by
  obtain ⟨g,rfl⟩:=h x (by simp)
  have ih:=find_ints f r (i+1) fun v hv=>h v (List.mem_cons_of_mem _ hv)
  have e:mFind 0 (.int .i64 f) (.int .i64 g::r) i=if f=g then some (some i) else mFind 0 (.int .i64 f) r (i+1):=by
   simp only [mFind,kEq,if_true]
   by_cases hfg:f=g
   ·subst hfg;simp
   ·have:(f==g)=false:=by simp [hfg]
    simp [this,hfg]
  rw [e]
  by_cases hfg:f=g
  ·subst hfg;exact .inr ⟨0,by simp⟩
  ·rw [if_neg hfg]
   rcases ih with ih | ⟨j,h1,h2⟩
   ·exact .inl ih
   ·exact .inr ⟨j+1,by rw [h1];congr 2;omega,by simpa using h2⟩
theorem memo_keys {d:Int} {b:List E9} {q:Mr} (h:Memo d b q):∀ v∈q.1,∃ g:Int,v=.int .i64 g:=fun v hv=>by
 obtain ⟨j,hj⟩:=List.getElem?_of_mem hv
 obtain ⟨f,hf,_⟩:=h.2 j v hj
 exact ⟨f,hf⟩
theorem memo_look {d:Int} {b:List E9} {q:Mr} (h:Memo d b q) (f:Int):lookD 0 [.slice none 0 0] q (il f)=some ([dI (some (leadsL d b f))],bl true)∨lookD 0 [.slice none 0 0] q (il f)=some ([.lit (.slice none 0 0)],bl false):=by
 rcases find_ints f q.1 0 (memo_keys h) with e | ⟨j,e,hj⟩
 ·right;simp only [lookD,litD,il,isKey,if_true,e];rfl
 ·left
  obtain ⟨g,hg,h2⟩:=h.2 j _ hj
  cases hg
  rw [Nat.zero_add] at e
  simp only [lookD,litD,il,isKey,if_true,e,h2];rfl
theorem memo_upd {d:Int} {b:List E9} {q:Mr} (h:Memo d b q) (f:Int):∃ q',updD 0 q (il f) [dI (some (leadsL d b f))]=some q'∧Memo d b q':=by
 rcases find_ints f q.1 0 (memo_keys h) with e | ⟨j,e,hj⟩
 ·refine ⟨(q.1++[.int .i64 f],q.2++[[dI (some (leadsL d b f))]]),by simp only [updD,litD,il,isKey,if_true,e],by simp [h.1],?_⟩
  intro j v hv
  simp only at hv ⊢
  by_cases hj:j < q.1.length
  ·rw [List.getElem?_append_left hj] at hv
   obtain ⟨g,h1,h2⟩:=h.2 j v hv
   exact ⟨g,h1,by rw [List.getElem?_append_left (by rw [←h.1];exact hj)];exact h2⟩
  ·have hj2:j=q.1.length:=by
    have:=List.getElem?_eq_some_iff.1 hv
    obtain ⟨h3,_⟩:=this
    simp at h3;omega
   subst hj2
   simp at hv
   exact ⟨f,hv.symm,by rw [h.1];simp⟩
 ·rw [Nat.zero_add] at e
  refine ⟨(q.1,q.2.set j [dI (some (leadsL d b f))]),by simp only [updD,litD,il,isKey,if_true,e],by simp [h.1],?_⟩
  intro i v hv
  simp only at hv ⊢
  obtain ⟨g,h1,h2⟩:=h.2 i v hv
  refine ⟨g,h1,?_⟩
  by_cases hij:j=i
  ·subst hij
   rw [hj] at hv
   cases hv
   have:f=g:=by cases h1;rfl
   subst this
   have hjl:j < q.2.length:=by
    obtain ⟨h3,_⟩:=List.getElem?_eq_some_iff.1 h2
    exact h3
   simp [hjl]
  ·rw [List.getElem?_set_ne hij];exact h2
end Go.VE
namespace Go.VE
open Go.RowKit Go.Proofs
attribute [local simp] r_asM r_mpD
theorem put0 {m:Nat} {Fn:Nat→List D→Out} {FnD:D→List Sh→List D→Out} (c:Int) (k:Rr→Out) (e:Out):((real Fn FnD m).eqN ((real Fn FnD m).natN 1) ((real Fn FnD m).len ((real Fn FnD m).rows [[il c]])) ((real Fn FnD m).isNil ((real Fn FnD m).seg ((real Fn FnD m).rows [[il c]]) none ((real Fn FnD m).natN 1)) e ((real Fn FnD m).fits 8 ((real Fn FnD m).len ((real Fn FnD m).seg ((real Fn FnD m).rows [[il c]]) none ((real Fn FnD m).natN 1))) ((real Fn FnD m).ins (il 0) ((real Fn FnD m).rows []) ((real Fn FnD m).seg ((real Fn FnD m).rows [[il c]]) none ((real Fn FnD m).natN 1)) k))))=k ([c].map rI):=by
 simp only [r_natN,r_rows,r_len,r_seg0,List.length_cons,List.length_nil,r_eqN,List.take_succ_cons,List.take_zero,r_isNil1,r_fitsg]
 rw [if_pos (by simp),if_pos (by simp []),r_ins0];rfl
theorem segmap (q:List Int):(q.map rI).take q.length=q.map rI:=List.take_of_length_le (by simp)
set_option maxRecDepth 20000 in
theorem li01 (n:Nat) (L:List Int) (hL:L.length≤1000000) (hne:L≠[]) (q:Mr) (x3 x4 x6 x7 x8 x9 x10 x11 x12 x13:D) :
  loopR [L1000161_0 (RP (n+4)),L1000161_1 (RP (n+4))] M0 0 [.d (dI (some L)),.d (il L.length),.d (il 0),.d x3,.d x4,.m q,.d x6,.d x7,.d x8,.d x9,.d x10,.d x11,.d x12,.d x13] =
   some (1,[.r ((insAll [] L).map rI),.d x3,.d x4,.m q,.d x6,.d x7,.n (insAll [] L).length,.n (insAll [] L).length,.d x8,.d x9,.d x10,.d x11,.d x12,.d x13]):=by
 refine ins_nil L hL hne _ _ (fun i=>[.d (dI (some L)),.d (il L.length),.d (il (i:Nat)),.d x3,.d x4,.m q,.d x6,.d x7,.d x8,.d x9,.d x10,.d x11,.d x12,.d x13])
  (fun i acc=>[.d (dI (some L)),.d (il L.length),.d (il (i:Nat)),.r (acc.map rI),.d x3,.d x4,.m q,.d x6,.d x7,.n acc.length,.n acc.length,.d x8,.d x9,.d x10,.d x11,.d x12,.d x13])
  (fun acc=>some (1,[.r (acc.map rI),.d x3,.d x4,.m q,.d x6,.d x7,.n acc.length,.n acc.length,.d x8,.d x9,.d x10,.d x11,.d x12,.d x13])) ?_ ?_ ?_
 ·intro acc k;simp [L1000161_1]
 ·intro c k hi hlt
  have h0:=rowI (Fn:=FN (n+4)) (FnD:=FnDof Tryz.prog (cf3 tb Tryz.prog) (FN (n+4))) (m:=M0) (o:=some L) (i:=0) (c:=c) hi
  simp only [L1000161_0,r_ld0,r_lds,r_lss,r_cond,Int.natCast_zero,hlt,decide_true,if_true]
  rw [show ((il 0):D)=il ((0:Nat):Int) from rfl,h0]
  simp only [rI,r_cell0,r_call,r_litNil,nilI,r_bnd0,r_ld0,r_lds,r_cond,Bool.false_eq_true,if_false]
  rw [put0]
  simp only [r_liti,r_add,r_natN,r_rows,r_len,r_seg0,List.length_cons,List.length_nil,List.take_succ_cons,List.take_zero,Int.natCast_zero]
  rw [show IntKind.i64.wrap (0+1)=((1:Nat):Int) from rfl]
  rfl
 ·intro i c acc k hi hlt hw hu hl
  have hi':((some L).getD [])[i]?=some c:=hi
  have hput:=s1000075 n acc c (by omega) hu
  simp only [L1000161_1,r_ld0,r_lds,r_ln0,r_lns,r_lr0,r_lrs,r_lss,r_cond,hlt,decide_true,if_true,rowI hi',rI,r_cell0,r_len,r_eqN,List.length_map,r_slD,r_call]
  simp only [hput,r_bnd0,r_ld0,r_rowsD,r_liti,r_add,hw,List.length_map,r_lms,r_lm0]
set_option maxRecDepth 20000 in
theorem li5 (n:Nat) (L:List Int) (hL:L.length≤1000000) (q:Mr) (x3 x4 x6 x7 x11 x12 x13 x14 x15 x16:D) (acc:List Int) (hu:Up acc) (ha:acc.length≤1000) :
  loopR [L1000161_5 (RP (n+4))] M0 0 [.d (dI (some L)),.d (il L.length),.d (il 0),.d x3,.d x4,.m q,.d x6,.d x7,.n acc.length,.n acc.length,.r (acc.map rI),.d x11,.d x12,.d x13,.d x14,.d x15,.d x16] =
   some (0,[.d x3,.d x4,.m q,.d x6,.d x7,.n (insAll acc L).length,.n (insAll acc L).length,.r ((insAll acc L).map rI),.d x11,.d x12,.d x13,.d x14,.d x15,.d x16]):=by
 refine ins_own L hL _ (fun i acc=>[.d (dI (some L)),.d (il L.length),.d (il (i:Nat)),.d x3,.d x4,.m q,.d x6,.d x7,.n acc.length,.n acc.length,.r (acc.map rI),.d x11,.d x12,.d x13,.d x14,.d x15,.d x16])
  (fun acc=>some (0,[.d x3,.d x4,.m q,.d x6,.d x7,.n acc.length,.n acc.length,.r (acc.map rI),.d x11,.d x12,.d x13,.d x14,.d x15,.d x16])) 1000 ?_ ?_ acc hu ha
 ·intro acc k;simp [L1000161_5]
 ·intro i c acc k hi hlt hw hu hl
  have hi':((some L).getD [])[i]?=some c:=hi
  have hput:=s1000075 n acc c (by omega) hu
  simp only [L1000161_5,r_ld0,r_lds,r_ln0,r_lns,r_lr0,r_lrs,r_lss,r_cond,hlt,decide_true,if_true,rowI hi',rI,r_cell0,r_len,r_eqN,List.length_map,r_slD,r_call]
  simp only [hput,r_bnd0,r_ld0,r_rowsD,r_liti,r_add,hw,List.length_map,r_lms,r_lm0]
def en161 (d f:Int) (kin:D) (s:Nat×List Int×Mr):Nat×List Yr:=match s.2.1 with
 | []=>(0,[.d (il d),.d (il ((s.1:Int) - 1)),.d kin,.d (il d),.m s.2.2,.d kin,.d (il f)])
 | y::r=>(2,[.d (il d),.d (il ((s.1:Int) - 1)),.r ((y::r).map rI),.n (y::r).length,.n (y::r).length,.d kin,.d (il d),.m s.2.2,.d kin,.d (il f)])
theorem en161_ne (d f:Int) (kin:D) (m:Nat) {acc:List Int} (q:Mr) (h:acc≠[]):en161 d f kin (m,acc,q)=(2,[.d (il d),.d (il ((m:Int) - 1)),.r (acc.map rI),.n acc.length,.n acc.length,.d kin,.d (il d),.m q,.d kin,.d (il f)]):=by
 cases acc with
 | nil=>exact absurd rfl h
 | cons _ _=>rfl
def Q161 (d f:Int) (b:List E9) (kin:D) (T:List Int) (r:Out):Prop:=∃ (acc:List Int) (q:Mr),Memo d b q∧Up acc∧acc.length≤1000 ∧
 ((acc≠[]∧((r=some (4,[.r (acc.map rI),.n acc.length,.n acc.length,.d kin,.d (il d),.m q,.d kin,.d (il f)])∧acc=T)∨(r=some (5,[.r (acc.map rI),.n acc.length,.n acc.length,.d kin,.d (il d),.m q,.d kin,.d (il f)])∧ins f acc=T))) ∨
  (r=some (2,[.d kin,.d (il d),.m q,.d kin,.d (il f)])∧ins f []=T))
theorem acc_len {acc:List Int} (hu:Up acc) (h:∀ z∈acc,1≤z∧z≤99):acc.length≤99:=by
 have:=up_len acc 1 99 hu h
 omega
theorem insAll_ne (acc:List Int) {l:List Int} (h:l≠[]):insAll acc l≠[]:=fun e=>by
 cases l with
 | nil=>exact h rfl
 | cons x r =>
  have:x∈insAll acc (x::r):=(mem_insAll x _ _).2 (.inr (by simp))
  rw [e] at this;simp at this
set_option maxRecDepth 20000 in
theorem l161 (n:Nat) (a b c:Option (List E9)) (o:Option (List E5)) (d f:Int) (hb:Less (b.getD [])) (hl:(b.getD []).length≤1000000) (hf:f≤99)
  (hrec:∀ (w:Int) (q:Mr),1≤w→w < f→Memo d (b.getD []) q→∃ q':Mr,Memo d (b.getD []) q'∧FN (n+4) 1000161 [dKin a b c o,il d,.mp false q.1 q.2,il w,dKin a b c o,il d]=some (0,[.d (dI (some (leadsL d (b.getD []) w))),.d (dKin a b c o),.d (il d),.d (.mp false q'.1 q'.2)]))
  (q:Mr) (hq:Memo d (b.getD []) q) :
  Q161 d f (b.getD []) (dKin a b c o) (leadB (leadsL d (b.getD [])) f (opts d f (below (b.getD []) (b.getD []).length)) []) (loopR [L1000161_2 (RP (n+4)) (il f),L1000161_4 (RP (n+4)) (il f),L1000161_6 (RP (n+4)) (il f)] M0 0 [.d (il d),.d (il (((b.getD []).length:Int) - 1)),.d (dKin a b c o),.d (il d),.m q,.d (dKin a b c o),.d (il f)]):=by
 generalize hT:leadB (leadsL d (b.getD [])) f (opts d f (below (b.getD []) (b.getD []).length)) []=T
 refine loop_pr (σ:=Nat×List Int×Mr) [L1000161_2 (RP (n+4)) (il f),L1000161_4 (RP (n+4)) (il f),L1000161_6 (RP (n+4)) (il f)] (en161 d f (dKin a b c o)) (fun s=>s.1)
  (fun s=>s.1≤(b.getD []).length∧Up s.2.1∧(∀ z∈s.2.1,1≤z∧z≤99)∧Memo d (b.getD []) s.2.2∧leadB (leadsL d (b.getD [])) f (opts d f (below (b.getD []) s.1)) s.2.1=T)
  (Q161 d f (b.getD []) (dKin a b c o) T) ?_ M0 ((b.getD []).length,[],q) ⟨Nat.le_refl _,by simp,by simp,hq,hT⟩ (by unfold M0;simp only;omega)
 clear hT hq q
 rintro ⟨m,acc,q⟩ k ⟨g1,g2,g3,g4,g5⟩ ih
 simp only at g1 g2 g3 g4 g5 ih
 have gl:=acc_len g2 g3
 cases m with
 | zero =>
  rw [below_zero] at g5
  cases acc with
  | nil =>
   refine ⟨L1000161_2 (RP (n+4)) (il f),rfl,[],q,g4,g2,by simp,.inr ⟨?_,g5⟩⟩
   simp [en161,L1000161_2]
  | cons y r =>
   refine ⟨L1000161_6 (RP (n+4)) (il f),rfl,y::r,q,g4,g2,by omega,.inl ⟨by simp,.inr ⟨?_,g5⟩⟩⟩
   simp [en161,L1000161_6]
 | succ m =>
  obtain ⟨e,he⟩:∃ e,(b.getD [])[m]?=some e:=⟨_,List.getElem?_eq_getElem (by omega)⟩
  rw [below_succ he,opts] at g5
  have hm:(((m+1:Nat):Int) - 1)=((m:Nat):Int):=by omega
  have hw:IntKind.i64.wrap (((m:Nat):Int) - 1)=((m:Nat):Int) - 1:=wrap_id (by omega) (by omega)
  have h194:=s194 (n+3) a b c o m e f he
  have hnn:¬ ((m:Nat):Int) < 0:=by omega
  have hmem:e∈b.getD []:=List.mem_of_getElem? he
  cases acc with
  | nil =>
   refine ⟨L1000161_2 (RP (n+4)) (il f),rfl,?_⟩
   simp only [en161,hm,L1000161_2,r_ld0,r_lds,r_liti,r_geq,r_cond]
   rw [if_pos (by simp)]
   simp only [r_call,h194,r_bnd0,r_ld0,r_lds,r_not,r_cond,r_sub,hw,r_lm0,r_lms]
   by_cases h1:e.a=f
   ·rw [if_neg (by simp [h1])]
    simp only [s208,r_bnd0,r_ld0,r_not,r_cond]
    by_cases h2:mayB e.f1 e.t2 d=true
    ·rw [if_neg (by simp [h2])]
     rw [if_pos ⟨h1,h2⟩] at g5
     have hbe:=hb e hmem
     obtain ⟨q',hq',hcall⟩:=hrec e.b q hbe.1 (by omega) g4
     have hne:leadsL d (b.getD []) e.b≠[]:=fun h=>by
      obtain ⟨z,hz⟩:=leadsL_ne hb (d:=d) _ e.b (Nat.le_refl _) hbe.1
      rw [h] at hz;simp at hz
     have hlen:=len_leadsL (d:=d) hb hbe.1
     simp only [r_lss,hnn,decide_false,r_cond,Bool.false_eq_true,if_false,r_mpD,hcall,r_bnd0,r_ld0,r_lds,r_asM,lenI,Option.getD_some,r_loop]
     rw [li01 n _ (by omega) hne]
     have hin:=insAll_ne [] hne
     have hiu:=up_insAll (leadsL d (b.getD []) e.b) (acc:=[]) (by simp)
     have hir:∀ z∈insAll [] (leadsL d (b.getD []) e.b),1≤z∧z≤99:=fun z hz=>by
      rw [mem_insAll] at hz
      rcases hz with hz | hz
      ·simp at hz
      ·have:=leadsL_range hb _ e.b z (Nat.le_refl _) hbe.1 hz;omega
     have hil:=acc_len hiu hir
     simp only [r_bndg,r_bnd0,s209,r_ld0,r_lds,r_lm0,r_lms,r_lr0,r_ln0,r_lns,r_cond,r_out]
     rw [leadB] at g5
     by_cases h3:sureB e.f2 e.t1 d=true
     ·rw [if_pos h3] at g5 ⊢
      exact ⟨insAll [] (leadsL d (b.getD []) e.b),q',hq',hiu,by omega,.inl ⟨hin,.inl ⟨rfl,g5⟩⟩⟩
     ·rw [if_neg h3] at g5 ⊢
      have:=ih (m,insAll [] (leadsL d (b.getD []) e.b),q') ⟨by simp only;omega,hiu,hir,hq',g5⟩ (by simp only;omega)
      rw [en161_ne _ _ _ _ _ hin] at this
      exact this
    ·rw [if_pos (by simp [h2])]
     rw [if_neg fun h=>h2 h.2] at g5
     exact ih (m,[],q) ⟨by simp only;omega,g2,g3,g4,g5⟩ (by simp only;omega)
   ·rw [if_pos (by simp [h1])]
    rw [if_neg fun h=>h1 h.1] at g5
    exact ih (m,[],q) ⟨by simp only;omega,g2,g3,g4,g5⟩ (by simp only;omega)
  | cons y r =>
   refine ⟨L1000161_6 (RP (n+4)) (il f),rfl,?_⟩
   simp only [en161,hm,L1000161_6,r_ld0,r_lds,r_liti,r_geq,r_cond]
   rw [if_pos (by simp)]
   simp only [r_call,h194,r_bnd0,r_ld0,r_lds,r_not,r_cond,r_sub,hw,r_lm0,r_lms,r_lr0,r_lrs,r_ln0,r_lns]
   by_cases h1:e.a=f
   ·rw [if_neg (by simp [h1])]
    simp only [s208,r_bnd0,r_ld0,r_not,r_cond]
    by_cases h2:mayB e.f1 e.t2 d=true
    ·rw [if_neg (by simp [h2])]
     rw [if_pos ⟨h1,h2⟩] at g5
     have hbe:=hb e hmem
     obtain ⟨q',hq',hcall⟩:=hrec e.b q hbe.1 (by omega) g4
     have hne:leadsL d (b.getD []) e.b≠[]:=fun h=>by
      obtain ⟨z,hz⟩:=leadsL_ne hb (d:=d) _ e.b (Nat.le_refl _) hbe.1
      rw [h] at hz;simp at hz
     have hlen:=len_leadsL (d:=d) hb hbe.1
     simp only [r_lss,hnn,decide_false,r_cond,Bool.false_eq_true,if_false,r_mpD,hcall,r_bnd0,r_ld0,r_lds,r_asM,lenI,Option.getD_some,r_loop]
     rw [li5 n _ (by omega) _ _ _ _ _ _ _ _ _ _ _ (y::r) g2 (by omega)]
     have hin:=insAll_ne (y::r) hne
     have hiu:=up_insAll (leadsL d (b.getD []) e.b) g2
     have hir:∀ z∈insAll (y::r) (leadsL d (b.getD []) e.b),1≤z∧z≤99:=fun z hz=>by
      rw [mem_insAll] at hz
      rcases hz with hz | hz
      ·exact g3 z hz
      ·have:=leadsL_range hb _ e.b z (Nat.le_refl _) hbe.1 hz;omega
     have hil:=acc_len hiu hir
     simp only [r_bnd0,s209,r_ld0,r_lds,r_lm0,r_lms,r_lr0,r_lrs,r_ln0,r_lns,r_cond,r_out]
     rw [leadB] at g5
     by_cases h3:sureB e.f2 e.t1 d=true
     ·rw [if_pos h3] at g5 ⊢
      exact ⟨insAll (y::r) (leadsL d (b.getD []) e.b),q',hq',hiu,by omega,.inl ⟨hin,.inl ⟨rfl,g5⟩⟩⟩
     ·rw [if_neg h3] at g5 ⊢
      have:=ih (m,insAll (y::r) (leadsL d (b.getD []) e.b),q') ⟨by simp only;omega,hiu,hir,hq',g5⟩ (by simp only;omega)
      rw [en161_ne _ _ _ _ _ hin] at this
      exact this
    ·rw [if_pos (by simp [h2])]
     rw [if_neg fun h=>h2 h.2] at g5
     exact ih (m,y::r,q) ⟨by simp only;omega,g2,g3,g4,g5⟩ (by simp only;omega)
   ·rw [if_pos (by simp [h1])]
    rw [if_neg fun h=>h1 h.1] at g5
    exact ih (m,y::r,q) ⟨by simp only;omega,g2,g3,g4,g5⟩ (by simp only;omega)
end Go.VE
namespace Go.VE
open Go.RowKit Go.Proofs
attribute [local simp] r_asM r_mpD
theorem dI_take (q:List Int):(.sl 1 ((q.map rI).take q.length):D)=dI (some q):=by rw [segmap];rfl
set_option maxRecDepth 20000 in
theorem s161 (a b c:Option (List E9)) (o:Option (List E5)) (d:Int) (hb:Less (b.getD [])) (hl:(b.getD []).length≤1000000):∀ (N n:Nat) (f:Int) (q:Mr),1≤f→f.toNat≤N→f≤99→Memo d (b.getD []) q →
  ∃ q':Mr,Memo d (b.getD []) q'∧FN (n+5+N) 1000161 [dKin a b c o,il d,.mp false q.1 q.2,il f,dKin a b c o,il d]=some (0,[.d (dI (some (leadsL d (b.getD []) f))),.d (dKin a b c o),.d (il d),.d (.mp false q'.1 q'.2)]):=by
 intro N
 induction N with
 | zero=>intro n f q h1 h2;omega
 | succ N ih =>
  intro n f q h1 h2 h3 hq
  have hrec:∀ (w:Int) (q:Mr),1≤w→w < f→Memo d (b.getD []) q→∃ q':Mr,Memo d (b.getD []) q'∧FN (n+1+N+4) 1000161 [dKin a b c o,il d,.mp false q.1 q.2,il w,dKin a b c o,il d]=some (0,[.d (dI (some (leadsL d (b.getD []) w))),.d (dKin a b c o),.d (il d),.d (.mp false q'.1 q'.2)]):=fun w q hw1 hw2 hq=>by
   have:=ih n w q hw1 (by omega) (by omega) hq
   rw [show n+1+N+4=n+5+N by omega]
   exact this
  have hloop:=l161 (n+1+N) a b c o d f hb hl h3 hrec q hq
  rw [show n+5+(N+1)=(n+1+N+4)+1 by omega,F1000161]
  rw [←leadsL_eq hb h1] at hloop
  generalize n+1+N=n at hloop ⊢
  simp only [G1000161,r_asM,r_lookg]
  rcases memo_look hq f with e | e
  ·rw [e]
   refine ⟨q,hq,?_⟩
   simp
  ·rw [e]
   have hp:∀ k:List D→Out,(RP (n+4)).ptrW 4 (dKin a b c o) k=k [d9 a,d9 b,d9 c,d5 o]:=fun k=>r_ptrW _ 4 k rfl
   have w1:IntKind.i64.wrap (((b.getD []).length:Int) - 1)=((b.getD []).length:Int) - 1:=wrap_id (by omega) (by omega)
   have hip:∀ k:Out,(RP (n+4)).isPtr (dKin a b c o) k=k:=fun k=>rfl
   simp only [r_cond,Bool.false_eq_true,if_false,hip,hp,r_cell0,r_cells,len9,r_liti,r_sub,w1,r_loop]
   obtain ⟨acc,q1,hq1,hu,hlen,hr⟩:=hloop
   obtain ⟨q2,hq2,hm2⟩:=memo_upd hq1 f
   have hd:∀ x,x=leadsL d (b.getD []) f→(.sl 1 ((x.map rI).take x.length):D)=dI (some (leadsL d (b.getD []) f)):=fun x hx=>by rw [dI_take,hx]
   refine ⟨q2,hm2,?_⟩
   rcases hr with ⟨hne,⟨hr,hT⟩ | ⟨hr,hT⟩⟩ | ⟨hr,hT⟩
   ·rw [hr]
    simp only [r_bndg,r_bnd0,r_lr0,r_ln0,r_lns,r_ld0,r_lds,r_lm0,r_lms,r_len,List.length_map,r_eqN,if_true,r_seg0,r_slD,r_out,r_updg]
    rw [hd acc hT,hq2]
    simp
   ·rw [hr]
    have hput:=s1000075 n acc f (by omega) hu
    simp only [r_bndg,r_bnd0,r_lr0,r_ln0,r_lns,r_ld0,r_lds,r_lm0,r_lms,r_len,List.length_map,r_eqN,if_true,r_seg0,r_slD,r_out,r_updg,r_lss,r_cond,r_call,hput,r_rowsD]
    rw [if_pos (by simp)]
    simp only [r_bnd0,r_ld0,r_lds,r_lm0,r_lms]
    rw [show (List.map rI (ins f acc)).take (ins f acc).length=(List.map rI (ins f acc)).take (ins f acc).length from rfl,hd (ins f acc) hT,hq2]
    simp
   ·rw [hr]
    simp only [r_bndg,r_bnd0,r_ld0,r_lds,r_lm0,r_lms,r_lss,r_cond,r_call,r_litNil,nilI]
    rw [if_pos (by simp)]
    simp only [Bool.false_eq_true,if_false]
    have hx:[f]=leadsL d (b.getD []) f:=hT
    rw [←hx] at hq2 ⊢
    simp only [r_natN,r_rows,r_len,r_seg0,List.length_cons,List.length_nil,r_eqN,List.take_succ_cons,List.take_zero,r_isNil1,r_fitsg]
    rw [if_pos (by simp),if_pos (by simp []),r_ins0]
    simp only [List.length_cons,List.length_nil,if_true,r_out,r_bnd0,r_slD,List.take_succ_cons,List.take_zero,r_ld0,r_lds,r_lm0,r_lms,r_updg]
    rw [show (.sl 1 [[il f]]:D)=dI (some [f]) from rfl,hq2]
    simp
end Go.VE
namespace Go.VE
open Go.RowKit Go.Proofs
def foldS {σ:Type} (step:σ→Int→σ):σ→List (Option Int)→σ
 | s,[]=>s
 | s,none::r=>foldS step s r
 | s,some w::r=>foldS step (step s w) r
theorem optR_fold {σ:Type} (step:σ→Int→σ) (stopO noneO:σ→Out):∀ (os:List (Option Int)) (s:σ),LastN os→optR step stopO noneO s os=if none∈os then noneO (foldS step s os) else stopO (foldS step s os)
 | [],s,_=>by simp [optR,foldS]
 | none::r,s,h=>by have:r=[]:=h;subst this;simp [optR,foldS]
 | some w::os,s,h=>by rw [optR,optR_fold step stopO noneO os _ h,foldS];simp
theorem leadB_fold (L:Int→List Int) (f:Int):∀ (os:List (Option Int)) (s:List Int),LastN os→leadB L f os s=if none∈os then ins f (foldS (fun s w=>insAll s (L w)) s os) else foldS (fun s w=>insAll s (L w)) s os
 | [],s,_=>by simp [leadB,foldS]
 | none::r,s,h=>by have:r=[]:=h;subst this;simp [leadB,foldS]
 | some w::os,s,h=>by rw [leadB,leadB_fold L f os _ h,foldS];simp
theorem opts_none (d who:Int):∀ {l:List E9},(∀ e∈l,e.a≠who)→opts d who l=[none]
 | [],_=>rfl
 | e::r,h=>by
  rw [opts,if_neg fun hh=>h e (by simp) hh.1]
  exact opts_none d who fun e he=>h e (List.mem_cons_of_mem _ he)
def tab (d:Int) (b:List E9) (t:Nat):Rr:=(List.range t).map fun (i:Nat)=>[dI (some (leadsL d b ((i:Int)+1)))]
theorem tab_len (d:Int) (b:List E9) (t:Nat):(tab d b t).length=t:=by simp [tab]
theorem tab_at (d:Int) (b:List E9) {t i:Nat} (h:i < t):(tab d b t)[i]?=some [dI (some (leadsL d b ((i:Int)+1)))]:=by simp [tab,h]
theorem tab_succ (d:Int) (b:List E9) (t:Nat):tab d b (t+1)=tab d b t++[[dI (some (leadsL d b ((t:Int)+1)))]]:=by simp [tab,List.range_succ]
set_option maxRecDepth 20000 in
theorem l81_0 (n:Nat) (b:Option (List E9)) (x2 x4 x5:D) (d:Int) (hb:Less (b.getD [])) (hl:(b.getD []).length≤1000000) :
  loopR [L81_0 (RP n)] M0 0 [.d (il 1),.d (il d),.d x2,.d (d9 b),.d x4,.d x5,.d (il (((b.getD []).length:Int) - 1))]=some (1,[.d (il 1)]):=by
 have:=opt_loop (σ:=Unit) (b.getD []) hl d 1 [L81_0 (RP n)] (fun m _=>(0,[.d (il 1),.d (il d),.d x2,.d (d9 b),.d x4,.d x5,.d (il ((m:Int) - 1))])) (fun _ _=>True) (fun _ _=>()) (fun _=>some (1,[.d (il 1)])) (fun _=>some (1,[.d (il 1)])) ?_ ?_ () trivial
 ·refine Eq.trans this ?_
  rw [opts_none _ _ fun e he=>?_]
  ·rfl
  ·have:=hb e (mem_below he);omega
 ·intro s k _
  exact ⟨_,rfl,by simp [L81_0]⟩
 ·intro m e s k he hm hw hm1 _
  have hne:¬ e.a=1:=by have:=hb e (List.mem_of_getElem? he);omega
  refine ⟨trivial,fun _ _=>trivial,_,rfl,?_⟩
  simp only [hm1,L81_0,r_ld0,r_lds,r_liti,r_geq,r_cond]
  rw [if_pos (by simp),if_neg (fun h=>hne h.1)]
  simp only [row9 he,r9,r_cell0,r_cells,r_neq,r_cond,r_sub,hw]
  rw [if_pos (by simp [hne])]
set_option maxRecDepth 20000 in
theorem li81_23 (n:Nat) (L:List Int) (hL:L.length≤1000000) (hne:L≠[]) (T:Rr) (n2 n3:Nat) (x0 x1 x4 x5 x6 x7 x8 x9:D) :
  loopR [L81_2 (RP (n+1)),L81_3 (RP (n+1))] M0 0 [.d x0,.d x1,.n n2,.n n3,.d x4,.d x5,.d x6,.d x7,.d x8,.d x9,.d (dI (some L)),.d (il L.length),.d (il 0),.r T] =
   some (1,[.d x0,.d x1,.n n2,.n n3,.d x4,.d x5,.d x6,.d x7,.d (dI (some (insAll [] L))),.d x8,.d x9,.r T]):=by
 refine ins_nil L hL hne _ _ (fun i=>[.d x0,.d x1,.n n2,.n n3,.d x4,.d x5,.d x6,.d x7,.d x8,.d x9,.d (dI (some L)),.d (il L.length),.d (il (i:Nat)),.r T])
  (fun i acc=>[.d x0,.d x1,.n n2,.n n3,.d x4,.d x5,.d x6,.d x7,.d (dI (some acc)),.d x8,.d x9,.d (dI (some L)),.d (il L.length),.d (il (i:Nat)),.r T])
  (fun acc=>some (1,[.d x0,.d x1,.n n2,.n n3,.d x4,.d x5,.d x6,.d x7,.d (dI (some acc)),.d x8,.d x9,.r T])) ?_ ?_ ?_
 ·intro acc k;simp [L81_3]
 ·intro c k hi hlt
  have h0:=rowI (Fn:=FN (n+1)) (FnD:=FnDof Tryz.prog (cf3 tb Tryz.prog) (FN (n+1))) (m:=M0) (o:=some L) (i:=0) (c:=c) hi
  simp only [L81_2,r_ld0,r_lds,r_lss,r_cond,Int.natCast_zero,hlt,decide_true,if_true]
  rw [show ((il 0):D)=il ((0:Nat):Int) from rfl,h0]
  simp only [rI,r_cell0,r_call,r_litNil,nil92,r_bnd0,r_ld0,r_liti,r_add,Int.natCast_zero,r_ln0,r_lns,r_lr0,r_lrs]
  rw [show IntKind.i64.wrap (0+1)=((1:Nat):Int) from rfl]
 ·intro i c acc k hi hlt hw hu hl
  have hi':((some L).getD [])[i]?=some c:=hi
  have hput:=s92 n (some acc) c (by simp only [Option.getD_some];omega) hu
  simp only [Option.getD_some] at hput
  simp only [L81_3,r_ld0,r_lds,r_ln0,r_lns,r_lr0,r_lrs,r_lss,r_cond,hlt,decide_true,if_true,rowI hi',rI,r_cell0,r_call,hput,r_bnd0,r_liti,r_add,hw]
set_option maxRecDepth 20000 in
theorem li81_5 (n:Nat) (L:List Int) (hL:L.length≤1000000) (T:Rr) (n2 n3:Nat) (x0 x1 x4 x5 x6 x7 x8 x9:D) (acc:List Int) (hu:Up acc) (ha:acc.length≤1000) :
  loopR [L81_5 (RP (n+1))] M0 0 [.d x0,.d x1,.n n2,.n n3,.d x4,.d x5,.d x6,.d x7,.d (dI (some acc)),.d x8,.d x9,.d (dI (some L)),.d (il L.length),.d (il 0),.r T] =
   some (0,[.d x0,.d x1,.n n2,.n n3,.d x4,.d x5,.d x6,.d x7,.d (dI (some (insAll acc L))),.d x8,.d x9,.r T]):=by
 refine ins_own L hL _ (fun i acc=>[.d x0,.d x1,.n n2,.n n3,.d x4,.d x5,.d x6,.d x7,.d (dI (some acc)),.d x8,.d x9,.d (dI (some L)),.d (il L.length),.d (il (i:Nat)),.r T])
  (fun acc=>some (0,[.d x0,.d x1,.n n2,.n n3,.d x4,.d x5,.d x6,.d x7,.d (dI (some acc)),.d x8,.d x9,.r T])) 1000 ?_ ?_ acc hu ha
 ·intro acc k;simp [L81_5]
 ·intro i c acc k hi hlt hw hu hl
  have hi':((some L).getD [])[i]?=some c:=hi
  have hput:=s92 n (some acc) c (by simp only [Option.getD_some];omega) hu
  simp only [Option.getD_some] at hput
  simp only [L81_5,r_ld0,r_lds,r_ln0,r_lns,r_lr0,r_lrs,r_lss,r_cond,hlt,decide_true,if_true,rowI hi',rI,r_cell0,r_call,hput,r_bnd0,r_liti,r_add,hw]
def en81 (d f:Int) (t:Nat) (T:Rr) (x4 x5 x6 x7:D) (m:Nat) (acc:List Int):Nat×List Yr:=match acc with
 | []=>(0,[.d (il f),.d (il d),.n t,.n t,.d x4,.d x5,.d x6,.d x7,.d (il ((m:Int) - 1)),.r T])
 | y::r=>(1,[.d (il f),.d (il d),.n t,.n t,.d x4,.d x5,.d x6,.d x7,.d (dI (some (y::r))),.d (il ((m:Int) - 1)),.r T])
theorem en81_nil (d f:Int) (t:Nat) (T:Rr) (x4 x5 x6 x7:D) (m:Nat):en81 d f t T x4 x5 x6 x7 m []=(0,[.d (il f),.d (il d),.n t,.n t,.d x4,.d x5,.d x6,.d x7,.d (il ((m:Int) - 1)),.r T]):=rfl
theorem en81_cons (d f:Int) (t:Nat) (T:Rr) (x4 x5 x6 x7:D) (m:Nat) (y:Int) (r:List Int):en81 d f t T x4 x5 x6 x7 m (y::r)=(1,[.d (il f),.d (il d),.n t,.n t,.d x4,.d x5,.d x6,.d x7,.d (dI (some (y::r))),.d (il ((m:Int) - 1)),.r T]):=rfl
theorem en81_ne (d f:Int) (t:Nat) (T:Rr) (x4 x5 x6 x7:D) (m:Nat) {acc:List Int} (h:acc≠[]):en81 d f t T x4 x5 x6 x7 m acc=(1,[.d (il f),.d (il d),.n t,.n t,.d x4,.d x5,.d x6,.d x7,.d (dI (some acc)),.d (il ((m:Int) - 1)),.r T]):=by
 cases acc with
 | nil=>exact absurd rfl h
 | cons _ _=>rfl
def st81 (T:Rr) (acc:List Int):Out:=some (2,[.d (dI (some acc)),.r T])
def no81 (f:Int) (T:Rr) (acc:List Int):Out:=match acc with
 | []=>some (1,[.d (il f),.r T])
 | y::r=>some (3,[.d (il f),.d (dI (some (y::r))),.r T])
set_option maxRecDepth 20000 in
theorem l81_4 (n:Nat) (b:Option (List E9)) (x4 x6 x7:D) (d:Int) (t:Nat) (hb:Less (b.getD [])) (hl:(b.getD []).length≤1000000) (ht:t≤99) :
  loopR [L81_4 (RP (n+1)),L81_6 (RP (n+1))] M0 0 [.d (il ((t:Int)+1)),.d (il d),.n t,.n t,.d x4,.d (d9 b),.d x6,.d x7,.d (il (((b.getD []).length:Int) - 1)),.r (tab d (b.getD []) t)] =
   optR (fun s w=>insAll s (leadsL d (b.getD []) w)) (st81 (tab d (b.getD []) t)) (no81 ((t:Int)+1) (tab d (b.getD []) t)) [] (opts d ((t:Int)+1) (below (b.getD []) (b.getD []).length)):=by
 refine opt_loop (σ:=List Int) (b.getD []) hl d ((t:Int)+1) [L81_4 (RP (n+1)),L81_6 (RP (n+1))] (fun m s=>en81 d ((t:Int)+1) t (tab d (b.getD []) t) x4 (d9 b) x6 x7 m s) (fun _ s=>Up s∧∀ z∈s,1≤z∧z≤99) (fun s w=>insAll s (leadsL d (b.getD []) w)) _ _ ?_ ?_ [] ⟨by simp,by simp⟩
 ·intro s k _
  cases s with
  | nil=>exact ⟨_,rfl,by simp [L81_4,en81,no81]⟩
  | cons y r=>exact ⟨_,rfl,by simp [L81_6,en81,no81]⟩
 ·intro m e s k he hm hw hm1 hI
  obtain ⟨g2,g3⟩:=hI
  have hbe:=hb e (List.mem_of_getElem? he)
  have gl:=acc_len g2 g3
  refine ⟨⟨g2,g3⟩,fun _ _=>⟨up_insAll _ g2,fun z hz=>?_⟩,?_⟩
  ·rw [mem_insAll] at hz
   rcases hz with hz | hz
   ·exact g3 z hz
   ·have:=leadsL_range hb _ e.b z (Nat.le_refl _) hbe.1 hz;omega
  ·have hne:leadsL d (b.getD []) e.b≠[]:=fun h=>by
    obtain ⟨z,hz⟩:=leadsL_ne hb (d:=d) _ e.b (Nat.le_refl _) hbe.1
    rw [h] at hz;simp at hz
   have hlen:=len_leadsL (d:=d) hb hbe.1
   have hws:IntKind.i64.wrap (e.b - 1)=e.b - 1:=wrap_id (by omega) (by omega)
   cases s with
   | nil =>
    refine ⟨_,rfl,?_⟩
    simp only [en81_nil,hm1,L81_4,r_ld0,r_lds,r_liti,r_geq,r_cond]
    rw [if_pos (by simp)]
    simp only [row9 he,r9,r_cell0,r_cells,r_neq,r_cond,r_sub,hw,hws,decide_eq_true_eq,r_lr0,r_lrs,r_ln0,r_lns]
    by_cases h1:e.a=(t:Int)+1
    ·rw [if_neg (by simp [h1])]
     simp only [r_call,s160,r_bnd0,r_ld0,r_neq,r_cond,r_eql,decide_eq_true_eq]
     by_cases h2:mayB e.f1 e.t2 d=true
     ·rw [if_pos ((hasB_ne _ _ _ _ _).2 h2),if_pos (⟨h1,h2⟩:e.a=(t:Int)+1∧mayB e.f1 e.t2 d=true)]
      have hnat:(e.b - 1).toNat < t:=by omega
      have hbb:(((e.b - 1).toNat:Nat):Int)+1=e.b:=by omega
      have hrow:∀ k:List D→Out,(RP (n+1)).rowAt 1 (tab d (b.getD []) t) (e.b - 1).toNat k=k [dI (some (leadsL d (b.getD []) e.b))]:=fun k=>by
       rw [r_rowAtg,tab_at _ _ hnat,hbb];rfl
      simp only [r_len,tab_len,r_eqN,if_true,r_inxg]
      rw [if_pos (by omega),hrow]
      simp only [r_cell0,lenI,Option.getD_some,r_loop]
      rw [li81_23 n _ (by omega) hne]
      simp only [r_bndg,r_bnd0,r_ld0,r_lds,r_lr0,r_lrs,r_ln0,r_lns,r_eql,r_cond,r_sub,hw,r_out,decide_eq_true_eq]
      have hin:=insAll_ne [] hne
      by_cases h3:sureB e.f2 e.t1 d=true
      ·rw [if_pos h3,if_pos ((hasB_one _ _ _ _ _ h2).2 h3)];rfl
      ·rw [if_neg h3,if_neg fun h=>h3 ((hasB_one _ _ _ _ _ h2).1 h),en81_ne _ _ _ _ _ _ _ _ _ hin]
     ·rw [hasB_no _ _ _ _ _ h2,if_neg (by simp),if_neg (by simp),if_neg (fun h=>h2 h.2)]
    ·rw [if_pos (by simp [h1]),if_neg (fun h=>h1 h.1)]
   | cons y r =>
    refine ⟨_,rfl,?_⟩
    simp only [en81_cons,hm1,L81_6,r_ld0,r_lds,r_liti,r_geq,r_cond]
    rw [if_pos (by simp)]
    simp only [row9 he,r9,r_cell0,r_cells,r_neq,r_cond,r_sub,hw,hws,decide_eq_true_eq,r_lr0,r_lrs,r_ln0,r_lns]
    by_cases h1:e.a=(t:Int)+1
    ·rw [if_neg (by simp [h1])]
     simp only [r_call,s160,r_bnd0,r_ld0,r_neq,r_cond,r_eql,decide_eq_true_eq]
     by_cases h2:mayB e.f1 e.t2 d=true
     ·rw [if_pos ((hasB_ne _ _ _ _ _).2 h2),if_pos (⟨h1,h2⟩:e.a=(t:Int)+1∧mayB e.f1 e.t2 d=true)]
      have hnat:(e.b - 1).toNat < t:=by omega
      have hbb:(((e.b - 1).toNat:Nat):Int)+1=e.b:=by omega
      have hrow:∀ k:List D→Out,(RP (n+1)).rowAt 1 (tab d (b.getD []) t) (e.b - 1).toNat k=k [dI (some (leadsL d (b.getD []) e.b))]:=fun k=>by
       rw [r_rowAtg,tab_at _ _ hnat,hbb];rfl
      simp only [r_len,tab_len,r_eqN,if_true,r_inxg]
      rw [if_pos (by omega),hrow]
      simp only [r_cell0,lenI,Option.getD_some,r_loop]
      rw [li81_5 n _ (by omega) _ _ _ _ _ _ _ _ _ _ _ (y::r) g2 (by omega)]
      simp only [r_bnd0,r_ld0,r_lds,r_lr0,r_lrs,r_ln0,r_lns,r_eql,r_cond,r_sub,hw,r_out,decide_eq_true_eq]
      have hin:=insAll_ne (y::r) hne
      by_cases h3:sureB e.f2 e.t1 d=true
      ·rw [if_pos h3,if_pos ((hasB_one _ _ _ _ _ h2).2 h3)];rfl
      ·rw [if_neg h3,if_neg fun h=>h3 ((hasB_one _ _ _ _ _ h2).1 h),en81_ne _ _ _ _ _ _ _ _ _ hin]
     ·rw [hasB_no _ _ _ _ _ h2,if_neg (by simp),if_neg (by simp),if_neg (fun h=>h2 h.2)]
    ·rw [if_pos (by simp [h1]),if_neg (fun h=>h1 h.1)]
end Go.VE
namespace Go.VE
open Go.RowKit Go.Proofs
theorem foldS_ind {σ:Type} (step:σ→Int→σ) (P:σ→Prop):∀ (os:List (Option Int)) (s:σ),(∀ s w,some w∈os→P s→P (step s w))→P s→P (foldS step s os)
 | [],_,_,h=>h
 | none::r,s,hs,h=>foldS_ind step P r s (fun s w hw=>hs s w (List.mem_cons_of_mem _ hw)) h
 | some w::r,s,hs,h=>foldS_ind step P r _ (fun s w hw=>hs s w (List.mem_cons_of_mem _ hw)) (hs s w (by simp) h)
def en81b (f d:Int) (x0 x1 x2 x3:D) (b:List E9) (t:Nat):Nat×List Yr:=match t with
 | 0=>(0,[.d (il f),.d (il d),.d x0,.d x1,.d x2,.d x3,.d (il 1)])
 | t+1=>(1,[.d (il f),.d (il d),.d x0,.d x1,.d x2,.d x3,.n (t+1),.n (t+1),.d (il ((t:Int)+1+1)),.r (tab d b (t+1))])
theorem leadsL_one {d:Int} {b:List E9} (hb:Less b):leadsL d b 1=[1]:=by
 rw [leadsL_eq hb (by decide),opts_none _ _ fun e he=>?_]
 ·rfl
 ·have:=hb e (mem_below he);omega
set_option maxRecDepth 20000 in
theorem l81 (n:Nat) (b:Option (List E9)) (x0 x2 x3:D) (f d:Int) (h1:1≤f) (h2:f≤99) (hb:Less (b.getD [])) (hl:(b.getD []).length≤1000000) :
  loopR [L81_1 (RP (n+1)),L81_7 (RP (n+1))] M0 0 [.d (il f),.d (il d),.d x0,.d (d9 b),.d x2,.d x3,.d (il 1)]=some (1,[.d (il f),.n f.toNat,.n f.toNat,.r (tab d (b.getD []) f.toNat)]):=by
 refine loop_ms (σ:=Nat) [L81_1 (RP (n+1)),L81_7 (RP (n+1))] (en81b f d x0 (d9 b) x2 x3 (b.getD [])) (fun t=>100 - t) (fun t=>(t:Int)≤f) (fun _=>some (1,[.d (il f),.n f.toNat,.n f.toNat,.r (tab d (b.getD []) f.toNat)])) ?_ M0 0 (by omega) (by unfold M0;omega)
 intro t k ht ih
 have w1:IntKind.i64.wrap (((b.getD []).length:Int) - 1)=((b.getD []).length:Int) - 1:=wrap_id (by omega) (by omega)
 cases t with
 | zero =>
  refine ⟨L81_1 (RP (n+1)),rfl,?_⟩
  have ih':=ih 1 (by omega) (by omega)
  have ht1:tab d (b.getD []) (0+1)=[[dI (some [1])]]:=by
   have:=leadsL_one (d:=d) hb
   simp [tab,this]
  simp only [en81b,ht1] at ih'
  simp only [en81b,L81_1,r_ld0,r_lds,r_leq,r_cond]
  rw [if_pos (by simpa using h1)]
  simp only [len9,r_liti,r_sub,w1,r_loop,l81_0 (n+1) b x0 x2 x3 d hb hl,r_bndg,r_bnd0,r_ld0,r_call,r_litNil,nil92,r_natN,r_rows,r_len,r_seg0,List.length_cons,List.length_nil,r_eqN,List.take_succ_cons,List.take_zero,r_isNil1,r_fitsg,r_add]
  rw [if_pos (by simp),if_pos (by simp [])]
  exact ih'
 | succ t =>
  refine ⟨L81_7 (RP (n+1)),rfl,?_⟩
  have hcast:(t:Int)+1=((t+1:Nat):Int):=by omega
  simp only [en81b,L81_7,r_ld0,r_lds,r_leq,r_cond,r_lr0,r_lrs,r_ln0,r_lns,decide_eq_true_eq]
  by_cases hlt:(t:Int)+1+1≤f
  ·rw [if_pos hlt]
   have ih':=ih (t+1+1) (by omega) (by omega)
   simp only [en81b] at ih'
   rw [hcast]
   have hloop:=l81_4 n b x0 x2 x3 d (t+1) hb hl (by omega)
   simp only [len9,r_liti,r_sub,w1,r_loop,hloop]
   have hos:=opts_last d (((t+1:Nat):Int)+1) (below (b.getD []) (b.getD []).length)
   have hL:=leadsL_eq (d:=d) hb (f:=((t+1:Nat):Int)+1) (by omega)
   have hless:∀ w,some w∈opts d (((t+1:Nat):Int)+1) (below (b.getD []) (b.getD []).length)→1≤w∧w < ((t+1:Nat):Int)+1:=fun w hw=>by have:=opts_less hb hw;omega
   rw [leadB_fold _ _ _ _ hos] at hL
   rw [optR_fold _ _ _ _ _ hos]
   generalize opts d (((t+1:Nat):Int)+1) (below (b.getD []) (b.getD []).length)=os at hos hL hless ⊢
   have hP:=foldS_ind (fun s w=>insAll s (leadsL d (b.getD []) w)) (fun s=>Up s∧∀ z∈s,1≤z∧z≤99) os [] (fun s w hw hs=>⟨up_insAll _ hs.1,fun z hz=>by
    rw [mem_insAll] at hz
    rcases hz with hz | hz
    ·exact hs.2 z hz
    ·have h3:=hless w hw
     have:=leadsL_range hb _ w z (Nat.le_refl _) h3.1 hz;omega⟩) ⟨by simp,by simp⟩
   have hwr:IntKind.i64.wrap (((t+1:Nat):Int)+1+1)=((t+1:Nat):Int)+1+1:=wrap_id (by omega) (by omega)
   rw [tab_succ d (b.getD []) (t+1),hL] at ih'
   generalize foldS (fun s w=>insAll s (leadsL d (b.getD []) w)) [] os=s at hP hL ih' ⊢
   have hlen:=acc_len hP.1 hP.2
   by_cases hn:none∈os
   ·rw [if_pos hn] at hL ih' ⊢
    cases s with
    | nil =>
     simp only [no81,r_bndg,r_bnd0,r_ld0,r_lr0,r_lrs,r_call,r_litNil,nil92,r_natN,r_rows,r_len,r_seg0,List.length_cons,List.length_nil,r_eqN,List.take_succ_cons,List.take_zero,r_fitsg,r_add,r_addN,tab_len,r_app,hwr]
     rw [if_pos (by simp),if_pos (by simp),if_pos (by simp),if_pos (by omega)]
     exact ih'
    | cons y r =>
     have hput:=s92 n (some (y::r)) (((t+1:Nat):Int)+1) (by simp only [Option.getD_some];omega) hP.1
     simp only [Option.getD_some] at hput
     simp only [no81,r_bndg,r_bnd0,r_ld0,r_lds,r_lr0,r_lrs,r_call,hput,r_natN,r_rows,r_len,r_seg0,List.length_cons,List.length_nil,r_eqN,List.take_succ_cons,List.take_zero,r_fitsg,r_add,r_addN,tab_len,r_app,hwr]
     rw [if_pos (by simp),if_pos (by simp),if_pos (by simp),if_pos (by omega)]
     exact ih'
   ·rw [if_neg hn] at hL ih' ⊢
    simp only [st81,r_bndg,r_bnd0,r_ld0,r_lr0,r_lrs,r_natN,r_rows,r_len,r_seg0,List.length_cons,List.length_nil,r_eqN,List.take_succ_cons,List.take_zero,r_fitsg,r_add,r_addN,tab_len,r_app,hwr]
    rw [if_pos (by simp),if_pos (by simp),if_pos (by simp),if_pos (by omega)]
    exact ih'
  ·rw [if_neg hlt]
   have hft:f.toNat=t+1:=by omega
   rw [hft]
   simp
set_option maxRecDepth 20000 in
theorem s81 (n:Nat) (b:Option (List E9)) (x0 x2 x3:D) (f d:Int) (h1:1≤f) (h2:f≤99) (hb:Less (b.getD [])) (hl:(b.getD []).length≤1000000) :
  FN (n+2) 81 [x0,d9 b,x2,x3,il f,il d]=some (0,[.d (dI (some (leadsL d (b.getD []) f)))]):=by
 rw [F81]
 have hw:IntKind.i64.wrap (f - 1)=f - 1:=wrap_id (by omega) (by omega)
 have hft:(f - 1).toNat < f.toNat:=by omega
 have hrow:∀ k:List D→Out,(RP (n+1)).rowAt 1 (tab d (b.getD []) f.toNat) (f - 1).toNat k=k [dI (some (leadsL d (b.getD []) f))]:=fun k=>by
  rw [r_rowAtg,tab_at _ _ hft,show (((f - 1).toNat:Nat):Int)+1=f by omega];rfl
 simp only [G81,r_liti,r_loop,l81 n b x0 x2 x3 f d h1 h2 hb hl,r_bndg,r_bnd0,r_ld0,r_ln0,r_lns,r_lr0,r_lrs,r_sub,hw,r_len,tab_len,r_eqN,if_true,r_inxg]
 rw [if_pos (by omega),hrow]
 simp
theorem okL_mem {α:Type} {p:α→Bool} {src:α→Int}:∀ {l:List α} {o:Option Int},okL p src o l=true→∀ e∈l,p e=true
 | [],_,_,e,he=>by simp at he
 | x::r,o,h,e,he=>by
  unfold okL at h
  simp only [Bool.and_eq_true] at h
  rcases List.mem_cons.1 he with rfl | he
  ·exact h.1.1
  ·exact okL_mem h.2 e he
end Go.VE
namespace Go.VE
open Go.RowKit Go.Proofs
attribute [local simp] r_asM r_mpD
set_option maxRecDepth 20000 in
theorem li82_01 (n:Nat) (L:List Int) (hL:L.length≤1000000) (hne:L≠[]) (q:Mr) (x3 x4 x5 x6 x8 x9 x10 x11 x12 x13 x14 x15 x16 x17:D) :
  loopR [L82_0 (RP (n+4)),L82_1 (RP (n+4))] M0 0 [.d (dI (some L)),.d (il L.length),.d (il 0),.d x3,.d x4,.d x5,.d x6,.m q,.d x8,.d x9,.d x10,.d x11,.d x12,.d x13,.d x14,.d x15,.d x16,.d x17] =
   some (1,[.r ((insAll [] L).map rI),.d x3,.d x4,.d x5,.d x6,.m q,.d x8,.d x9,.d x10,.d x11,.n (insAll [] L).length,.n (insAll [] L).length,.d x12,.d x13,.d x14,.d x15,.d x16,.d x17]):=by
 refine ins_nil L hL hne _ _ (fun i=>[.d (dI (some L)),.d (il L.length),.d (il (i:Nat)),.d x3,.d x4,.d x5,.d x6,.m q,.d x8,.d x9,.d x10,.d x11,.d x12,.d x13,.d x14,.d x15,.d x16,.d x17])
  (fun i acc=>[.d (dI (some L)),.d (il L.length),.d (il (i:Nat)),.r (acc.map rI),.d x3,.d x4,.d x5,.d x6,.m q,.d x8,.d x9,.d x10,.d x11,.n acc.length,.n acc.length,.d x12,.d x13,.d x14,.d x15,.d x16,.d x17])
  (fun acc=>some (1,[.r (acc.map rI),.d x3,.d x4,.d x5,.d x6,.m q,.d x8,.d x9,.d x10,.d x11,.n acc.length,.n acc.length,.d x12,.d x13,.d x14,.d x15,.d x16,.d x17])) ?_ ?_ ?_
 ·intro acc k;simp [L82_1]
 ·intro c k hi hlt
  have h0:=rowI (Fn:=FN (n+4)) (FnD:=FnDof Tryz.prog (cf3 tb Tryz.prog) (FN (n+4))) (m:=M0) (o:=some L) (i:=0) (c:=c) hi
  simp only [L82_0,r_ld0,r_lds,r_lss,r_cond,Int.natCast_zero,hlt,decide_true,if_true]
  rw [show ((il 0):D)=il ((0:Nat):Int) from rfl,h0]
  simp only [rI,r_cell0,r_call,r_litNil,nilI,r_bnd0,r_ld0,r_lds,r_cond,Bool.false_eq_true,if_false]
  rw [put0]
  simp only [r_liti,r_add,r_natN,r_rows,r_len,r_seg0,List.length_cons,List.length_nil,List.take_succ_cons,List.take_zero,Int.natCast_zero]
  rw [show IntKind.i64.wrap (0+1)=((1:Nat):Int) from rfl]
  rfl
 ·intro i c acc k hi hlt hw hu hl
  have hi':((some L).getD [])[i]?=some c:=hi
  have hput:=s1000075 n acc c (by omega) hu
  simp only [L82_1,r_ld0,r_lds,r_ln0,r_lns,r_lr0,r_lrs,r_lss,r_cond,hlt,decide_true,if_true,rowI hi',rI,r_cell0,r_len,r_eqN,List.length_map,r_slD,r_call]
  simp only [hput,r_bnd0,r_ld0,r_rowsD,r_liti,r_add,hw,List.length_map,r_lms,r_lm0]
set_option maxRecDepth 20000 in
theorem li82_2 (n:Nat) (L:List Int) (hL:L.length≤1000000) (q:Mr) (x4 x5 x6 x7 x9 x10 x11 x12 x15 x16 x17 x18 x19 x20:D) (acc:List Int) (hu:Up acc) (ha:acc.length≤1000) :
  loopR [L82_2 (RP (n+4))] M0 0 [.d (dI (some L)),.d (il L.length),.d (il 0),.r (acc.map rI),.d x4,.d x5,.d x6,.d x7,.m q,.d x9,.d x10,.d x11,.d x12,.n acc.length,.n acc.length,.d x15,.d x16,.d x17,.d x18,.d x19,.d x20] =
   some (0,[.r ((insAll acc L).map rI),.d x4,.d x5,.d x6,.d x7,.m q,.d x9,.d x10,.d x11,.d x12,.n (insAll acc L).length,.n (insAll acc L).length,.d x15,.d x16,.d x17,.d x18,.d x19,.d x20]):=by
 refine ins_own L hL _ (fun i acc=>[.d (dI (some L)),.d (il L.length),.d (il (i:Nat)),.r (acc.map rI),.d x4,.d x5,.d x6,.d x7,.m q,.d x9,.d x10,.d x11,.d x12,.n acc.length,.n acc.length,.d x15,.d x16,.d x17,.d x18,.d x19,.d x20])
  (fun acc=>some (0,[.r (acc.map rI),.d x4,.d x5,.d x6,.d x7,.m q,.d x9,.d x10,.d x11,.d x12,.n acc.length,.n acc.length,.d x15,.d x16,.d x17,.d x18,.d x19,.d x20])) 1000 ?_ ?_ acc hu ha
 ·intro acc k;simp [L82_2]
 ·intro i c acc k hi hlt hw hu hl
  have hi':((some L).getD [])[i]?=some c:=hi
  have hput:=s1000075 n acc c (by omega) hu
  simp only [L82_2,r_ld0,r_lds,r_ln0,r_lns,r_lr0,r_lrs,r_lss,r_cond,hlt,decide_true,if_true,rowI hi',rI,r_cell0,r_len,r_eqN,List.length_map,r_slD,r_call]
  simp only [hput,r_bnd0,r_ld0,r_rowsD,r_liti,r_add,hw,List.length_map,r_lms,r_lm0]
set_option maxRecDepth 20000 in
theorem li82_4 (n:Nat) (L:List Int) (hL:L.length≤1000000) (q:Mr) (x4 x5 x6 x7 x9 x10 x11 x12 x15 x16 x17 x18 x19 x20:D) (acc:List Int) (hu:Up acc) (ha:acc.length≤1000) :
  loopR [L82_4 (RP (n+4))] M0 0 [.d (dI (some L)),.d (il L.length),.d (il 0),.r (acc.map rI),.d x4,.d x5,.d x6,.d x7,.m q,.d x9,.d x10,.d x11,.d x12,.n acc.length,.n acc.length,.d x15,.d x16,.d x17,.d x18,.d x19,.d x20] =
   some (0,[.r ((insAll acc L).map rI),.d x4,.d x5,.d x6,.d x7,.m q,.d x9,.d x10,.d x11,.d x12,.n (insAll acc L).length,.n (insAll acc L).length,.d x15,.d x16,.d x17,.d x18,.d x19,.d x20]):=by
 refine ins_own L hL _ (fun i acc=>[.d (dI (some L)),.d (il L.length),.d (il (i:Nat)),.r (acc.map rI),.d x4,.d x5,.d x6,.d x7,.m q,.d x9,.d x10,.d x11,.d x12,.n acc.length,.n acc.length,.d x15,.d x16,.d x17,.d x18,.d x19,.d x20])
  (fun acc=>some (0,[.r (acc.map rI),.d x4,.d x5,.d x6,.d x7,.m q,.d x9,.d x10,.d x11,.d x12,.n acc.length,.n acc.length,.d x15,.d x16,.d x17,.d x18,.d x19,.d x20])) 1000 ?_ ?_ acc hu ha
 ·intro acc k;simp [L82_4]
 ·intro i c acc k hi hlt hw hu hl
  have hi':((some L).getD [])[i]?=some c:=hi
  have hput:=s1000075 n acc c (by omega) hu
  simp only [L82_4,r_ld0,r_lds,r_ln0,r_lns,r_lr0,r_lrs,r_lss,r_cond,hlt,decide_true,if_true,rowI hi',rI,r_cell0,r_len,r_eqN,List.length_map,r_slD,r_call]
  simp only [hput,r_bnd0,r_ld0,r_rowsD,r_liti,r_add,hw,List.length_map,r_lms,r_lm0]
set_option maxRecDepth 20000 in
theorem li82_6 (n:Nat) (L:List Int) (hL:L.length≤1000000) (q:Mr) (x3 x4 x5 x6 x8 x9 x10 x11 x15 x16 x17 x18 x19 x20:D) (acc:List Int) (hu:Up acc) (ha:acc.length≤1000) :
  loopR [L82_6 (RP (n+4))] M0 0 [.d (dI (some L)),.d (il L.length),.d (il 0),.d x3,.d x4,.d x5,.d x6,.m q,.d x8,.d x9,.d x10,.d x11,.n acc.length,.n acc.length,.r (acc.map rI),.d x15,.d x16,.d x17,.d x18,.d x19,.d x20] =
   some (0,[.d x3,.d x4,.d x5,.d x6,.m q,.d x8,.d x9,.d x10,.d x11,.n (insAll acc L).length,.n (insAll acc L).length,.r ((insAll acc L).map rI),.d x15,.d x16,.d x17,.d x18,.d x19,.d x20]):=by
 refine ins_own L hL _ (fun i acc=>[.d (dI (some L)),.d (il L.length),.d (il (i:Nat)),.d x3,.d x4,.d x5,.d x6,.m q,.d x8,.d x9,.d x10,.d x11,.n acc.length,.n acc.length,.r (acc.map rI),.d x15,.d x16,.d x17,.d x18,.d x19,.d x20])
  (fun acc=>some (0,[.d x3,.d x4,.d x5,.d x6,.m q,.d x8,.d x9,.d x10,.d x11,.n acc.length,.n acc.length,.r (acc.map rI),.d x15,.d x16,.d x17,.d x18,.d x19,.d x20])) 1000 ?_ ?_ acc hu ha
 ·intro acc k;simp [L82_6]
 ·intro i c acc k hi hlt hw hu hl
  have hi':((some L).getD [])[i]?=some c:=hi
  have hput:=s1000075 n acc c (by omega) hu
  simp only [L82_6,r_ld0,r_lds,r_ln0,r_lns,r_lr0,r_lrs,r_lss,r_cond,hlt,decide_true,if_true,rowI hi',rI,r_cell0,r_len,r_eqN,List.length_map,r_slD,r_call]
  simp only [hput,r_bnd0,r_ld0,r_rowsD,r_liti,r_add,hw,List.length_map,r_lms,r_lm0]
def ts82 (d who:Int) (kin:D) (no yes:Bool) (acc:List Int) (q:Mr):List Yr:=[.r (acc.map rI),.n acc.length,.n acc.length,.d (bl no),.d (bl yes),.d kin,.d (il d),.m q,.d kin,.d (il d),.d kin,.d (il who)]
def st82 (d who:Int) (kin:D) (no yes:Bool) (m:Nat) (acc:List Int) (q:Mr):List Yr:=.d (il d)::.d (il ((m:Int) - 1))::ts82 d who kin no yes acc q
def tz82 (d who:Int) (kin:D) (no yes:Bool) (q:Mr):List Yr:=[.d (bl no),.d (bl yes),.d kin,.d (il d),.m q,.d kin,.d (il d),.d kin,.d (il who)]
def sz82 (d who:Int) (kin:D) (no yes:Bool) (m:Nat) (q:Mr):List Yr:=.d (il d)::.d (il ((m:Int) - 1))::tz82 d who kin no yes q
set_option maxRecDepth 20000 in
theorem rd82_5 (n:Nat) (a b c:Option (List E9)) (o:Option (List E5)) (d who:Int) (no yes:Bool) (m:Nat) (e:E9) (he:(a.getD [])[m]?=some e) (hb0:¬ e.b=0) (hw:IntKind.i64.wrap (((m:Nat):Int) - 1)=((m:Nat):Int) - 1)
  (_:leadsL d (b.getD []) e.b≠[]) (hlen:(leadsL d (b.getD []) e.b).length≤1000000)
  (hcall:∀ q:Mr,Memo d (b.getD []) q→∃ q':Mr,Memo d (b.getD []) q'∧FN (n+4) 1000161 [dKin a b c o,il d,.mp false q.1 q.2,il e.b,dKin a b c o,il d]=some (0,[.d (dI (some (leadsL d (b.getD []) e.b))),.d (dKin a b c o),.d (il d),.d (.mp false q'.1 q'.2)]))
  (acc:List Int) (q:Mr) (hu:Up acc) (ha:acc.length≤900) (hq:Memo d (b.getD []) q) (k:Nat→List Yr→Out):∃ q':Mr,Memo d (b.getD []) q'∧L82_5 (RP (n+4)) k (st82 d who (dKin a b c o) no yes (m+1) acc q) =
   if e.a=who∧mayB e.f1 e.t2 d=true then (if sureB e.f2 e.t1 d=true then some (2,ts82 d who (dKin a b c o) no yes (famStep (leadsL d (b.getD [])) yes no (some e.b) acc) q') else k 1 (st82 d who (dKin a b c o) no yes m (famStep (leadsL d (b.getD [])) yes no (some e.b) acc) q')) else k 1 (st82 d who (dKin a b c o) no yes m acc q'):=by
 have hm:(((m+1:Nat):Int) - 1)=((m:Nat):Int):=by omega
 have h157:=s157 (n+3) a b c o m e who he
 have hput:=s1000075 n acc 0 (by omega) hu
 simp only [st82,ts82,hm,L82_5,r_ld0,r_lds,r_ln0,r_lns,r_lr0,r_lrs,r_lm0,r_lms,r_liti,r_geq,r_cond]
 rw [if_pos (by simp)]
 simp only [r_call,h157,r_bnd0,r_ld0,r_lds,r_not,r_cond,r_sub,hw]
 by_cases h1:e.a=who
 ·rw [if_neg (by simp [h1])]
  simp only [s208,r_bnd0,r_ld0,r_not,r_cond]
  by_cases h2:mayB e.f1 e.t2 d=true
  ·rw [if_neg (by simp [h2])]
   simp only [if_pos (⟨h1,h2⟩:e.a=who∧mayB e.f1 e.t2 d=true)]
   simp only [r_eql,hb0,decide_false,r_cond,Bool.false_eq_true,if_false]
   cases no with
   | false =>
    have hfs:famStep (leadsL d (b.getD [])) yes false (some e.b) acc=if yes=true then insAll acc (leadsL d (b.getD []) e.b) else acc:=by cases yes<;>simp [famStep,f0,hb0]
    simp only [Bool.false_eq_true,if_false,r_bnd0,r_ld0,r_lds,r_ln0,r_lns,r_lr0,r_lrs,r_lm0,r_lms,r_eql,hb0,decide_false,r_cond,r_out]
    cases yes with
    | false =>
     refine ⟨q,hq,?_⟩
     simp only [r_not,Bool.not_false,r_cond,if_true,s209,r_bnd0,r_ld0,hfs]
     rfl
    | true =>
     obtain ⟨q',hq',hc⟩:=hcall q hq
     refine ⟨q',hq',?_⟩
     simp only [r_not,Bool.not_true,r_cond,Bool.false_eq_true,if_false,r_mpD,hc,r_bnd0,r_ld0,r_lds,r_asM,lenI,Option.getD_some,r_loop]
     rw [li82_4 n _ hlen _ _ _ _ _ _ _ _ _ _ _ _ _ _ _ acc hu (by omega)]
     simp only [r_bnd0,s209,r_ld0,r_lds,r_ln0,r_lns,r_lr0,r_lm0,r_lms,r_cond,hfs]
     rfl
   | true =>
    have hu0:=up_ins 0 hu
    have hl0:=ins_len 0 acc
    have hfs:famStep (leadsL d (b.getD [])) yes true (some e.b) acc=if yes=true then insAll (ins 0 acc) (leadsL d (b.getD []) e.b) else ins 0 acc:=by cases yes<;>simp [famStep,f0,hb0]
    simp only [if_true,r_len,List.length_map,r_eqN,r_slD,hput,r_rowsD,r_bnd0,r_ld0,r_lds,r_ln0,r_lns,r_lr0,r_lrs,r_lm0,r_lms,r_eql,hb0,decide_false,r_cond,Bool.false_eq_true,if_false,r_out]
    cases yes with
    | false =>
     refine ⟨q,hq,?_⟩
     simp only [r_not,Bool.not_false,r_cond,if_true,s209,r_bnd0,r_ld0,hfs]
     rfl
    | true =>
     obtain ⟨q',hq',hc⟩:=hcall q hq
     refine ⟨q',hq',?_⟩
     simp only [r_not,Bool.not_true,r_cond,Bool.false_eq_true,if_false,r_mpD,hc,r_bnd0,r_ld0,r_lds,r_asM,lenI,Option.getD_some,r_loop]
     rw [li82_4 n _ hlen _ _ _ _ _ _ _ _ _ _ _ _ _ _ _ (ins 0 acc) hu0 (by omega)]
     simp only [r_bnd0,s209,r_ld0,r_lds,r_ln0,r_lns,r_lr0,r_lm0,r_lms,r_cond,hfs]
     rfl
  ·rw [if_pos (by simp [h2])]
   simp only [if_neg (fun h=>h2 h.2:¬ (e.a=who∧mayB e.f1 e.t2 d=true))]
   exact ⟨q,hq,rfl⟩
 ·rw [if_pos (by simp [h1])]
  simp only [if_neg (fun h=>h1 h.1:¬ (e.a=who∧mayB e.f1 e.t2 d=true))]
  exact ⟨q,hq,rfl⟩
set_option maxRecDepth 20000 in
theorem rd82_7 (n:Nat) (a b c:Option (List E9)) (o:Option (List E5)) (d who:Int) (no yes:Bool) (m:Nat) (e:E9) (he:(a.getD [])[m]?=some e) (hb0:¬ e.b=0) (hw:IntKind.i64.wrap (((m:Nat):Int) - 1)=((m:Nat):Int) - 1)
  (_:leadsL d (b.getD []) e.b≠[]) (hlen:(leadsL d (b.getD []) e.b).length≤1000000)
  (hcall:∀ q:Mr,Memo d (b.getD []) q→∃ q':Mr,Memo d (b.getD []) q'∧FN (n+4) 1000161 [dKin a b c o,il d,.mp false q.1 q.2,il e.b,dKin a b c o,il d]=some (0,[.d (dI (some (leadsL d (b.getD []) e.b))),.d (dKin a b c o),.d (il d),.d (.mp false q'.1 q'.2)]))
  (acc:List Int) (q:Mr) (hu:Up acc) (ha:acc.length≤900) (hq:Memo d (b.getD []) q) (k:Nat→List Yr→Out):∃ q':Mr,Memo d (b.getD []) q'∧L82_7 (RP (n+4)) k (st82 d who (dKin a b c o) no yes (m+1) acc q) =
   if e.a=who∧mayB e.f1 e.t2 d=true then (if sureB e.f2 e.t1 d=true then some (4,ts82 d who (dKin a b c o) no yes (famStep (leadsL d (b.getD [])) yes no (some e.b) acc) q') else k 2 (st82 d who (dKin a b c o) no yes m (famStep (leadsL d (b.getD [])) yes no (some e.b) acc) q')) else k 2 (st82 d who (dKin a b c o) no yes m acc q'):=by
 have hm:(((m+1:Nat):Int) - 1)=((m:Nat):Int):=by omega
 have h157:=s157 (n+3) a b c o m e who he
 have hput:=s1000075 n acc 0 (by omega) hu
 simp only [st82,ts82,hm,L82_7,r_ld0,r_lds,r_ln0,r_lns,r_lr0,r_lrs,r_lm0,r_lms,r_liti,r_geq,r_cond]
 rw [if_pos (by simp)]
 simp only [r_call,h157,r_bnd0,r_ld0,r_lds,r_not,r_cond,r_sub,hw]
 by_cases h1:e.a=who
 ·rw [if_neg (by simp [h1])]
  simp only [s208,r_bnd0,r_ld0,r_not,r_cond]
  by_cases h2:mayB e.f1 e.t2 d=true
  ·rw [if_neg (by simp [h2])]
   simp only [if_pos (⟨h1,h2⟩:e.a=who∧mayB e.f1 e.t2 d=true)]
   simp only [r_eql,hb0,decide_false,r_cond,Bool.false_eq_true,if_false]
   cases no with
   | false =>
    have hfs:famStep (leadsL d (b.getD [])) yes false (some e.b) acc=if yes=true then insAll acc (leadsL d (b.getD []) e.b) else acc:=by cases yes<;>simp [famStep,f0,hb0]
    simp only [Bool.false_eq_true,if_false,r_bnd0,r_ld0,r_lds,r_ln0,r_lns,r_lr0,r_lrs,r_lm0,r_lms,r_eql,hb0,decide_false,r_cond,r_out]
    cases yes with
    | false =>
     refine ⟨q,hq,?_⟩
     simp only [r_not,Bool.not_false,r_cond,if_true,s209,r_bnd0,r_ld0,hfs]
     rfl
    | true =>
     obtain ⟨q',hq',hc⟩:=hcall q hq
     refine ⟨q',hq',?_⟩
     simp only [r_not,Bool.not_true,r_cond,Bool.false_eq_true,if_false,r_mpD,hc,r_bnd0,r_ld0,r_lds,r_asM,lenI,Option.getD_some,r_loop]
     rw [li82_6 n _ hlen _ _ _ _ _ _ _ _ _ _ _ _ _ _ _ acc hu (by omega)]
     simp only [r_bnd0,s209,r_ld0,r_lds,r_ln0,r_lns,r_lr0,r_lrs,r_lm0,r_lms,r_cond,hfs]
     rfl
   | true =>
    have hu0:=up_ins 0 hu
    have hl0:=ins_len 0 acc
    have hfs:famStep (leadsL d (b.getD [])) yes true (some e.b) acc=if yes=true then insAll (ins 0 acc) (leadsL d (b.getD []) e.b) else ins 0 acc:=by cases yes<;>simp [famStep,f0,hb0]
    simp only [if_true,r_len,List.length_map,r_eqN,r_slD,hput,r_rowsD,r_bnd0,r_ld0,r_lds,r_ln0,r_lns,r_lr0,r_lrs,r_lm0,r_lms,r_eql,hb0,decide_false,r_cond,Bool.false_eq_true,if_false,r_out]
    cases yes with
    | false =>
     refine ⟨q,hq,?_⟩
     simp only [r_not,Bool.not_false,r_cond,if_true,s209,r_bnd0,r_ld0,hfs]
     rfl
    | true =>
     obtain ⟨q',hq',hc⟩:=hcall q hq
     refine ⟨q',hq',?_⟩
     simp only [r_not,Bool.not_true,r_cond,Bool.false_eq_true,if_false,r_mpD,hc,r_bnd0,r_ld0,r_lds,r_asM,lenI,Option.getD_some,r_loop]
     rw [li82_6 n _ hlen _ _ _ _ _ _ _ _ _ _ _ _ _ _ _ (ins 0 acc) hu0 (by omega)]
     simp only [r_bnd0,s209,r_ld0,r_lds,r_ln0,r_lns,r_lr0,r_lrs,r_lm0,r_lms,r_cond,hfs]
     rfl
  ·rw [if_pos (by simp [h2])]
   simp only [if_neg (fun h=>h2 h.2:¬ (e.a=who∧mayB e.f1 e.t2 d=true))]
   exact ⟨q,hq,rfl⟩
 ·rw [if_pos (by simp [h1])]
  simp only [if_neg (fun h=>h1 h.1:¬ (e.a=who∧mayB e.f1 e.t2 d=true))]
  exact ⟨q,hq,rfl⟩
set_option maxRecDepth 20000 in
theorem rd82_3 (n:Nat) (a b c:Option (List E9)) (o:Option (List E5)) (d who:Int) (no yes:Bool) (m:Nat) (e:E9) (he:(a.getD [])[m]?=some e) (hb0:¬ e.b=0) (hw:IntKind.i64.wrap (((m:Nat):Int) - 1)=((m:Nat):Int) - 1)
  (hne:leadsL d (b.getD []) e.b≠[]) (hlen:(leadsL d (b.getD []) e.b).length≤1000000)
  (hcall:∀ q:Mr,Memo d (b.getD []) q→∃ q':Mr,Memo d (b.getD []) q'∧FN (n+4) 1000161 [dKin a b c o,il d,.mp false q.1 q.2,il e.b,dKin a b c o,il d]=some (0,[.d (dI (some (leadsL d (b.getD []) e.b))),.d (dKin a b c o),.d (il d),.d (.mp false q'.1 q'.2)]))
  (hyn:yes=false→no=true) (q:Mr) (hq:Memo d (b.getD []) q) (k:Nat→List Yr→Out):∃ q':Mr,Memo d (b.getD []) q'∧L82_3 (RP (n+4)) k (sz82 d who (dKin a b c o) no yes (m+1) q) =
   if e.a=who∧mayB e.f1 e.t2 d=true then (if sureB e.f2 e.t1 d=true then some (if no=true then 2 else 4,ts82 d who (dKin a b c o) no yes (famStep (leadsL d (b.getD [])) yes no (some e.b) []) q') else k (if no=true then 1 else 2) (st82 d who (dKin a b c o) no yes m (famStep (leadsL d (b.getD [])) yes no (some e.b) []) q')) else k 0 (sz82 d who (dKin a b c o) no yes m q'):=by
 have hm:(((m+1:Nat):Int) - 1)=((m:Nat):Int):=by omega
 have h157:=s157 (n+3) a b c o m e who he
 simp only [sz82,tz82,hm,L82_3,r_ld0,r_lds,r_lm0,r_lms,r_liti,r_geq,r_cond]
 rw [if_pos (by simp)]
 simp only [r_call,h157,r_bnd0,r_ld0,r_lds,r_not,r_cond,r_sub,hw]
 by_cases h1:e.a=who
 ·rw [if_neg (by simp [h1])]
  simp only [s208,r_bnd0,r_ld0,r_not,r_cond]
  by_cases h2:mayB e.f1 e.t2 d=true
  ·rw [if_neg (by simp [h2])]
   simp only [if_pos (⟨h1,h2⟩:e.a=who∧mayB e.f1 e.t2 d=true)]
   simp only [r_eql,hb0,decide_false,r_cond,Bool.false_eq_true,if_false]
   cases no with
   | false =>
    cases yes with
    | false=>exact absurd (hyn rfl) (by simp)
    | true =>
     have hfs:famStep (leadsL d (b.getD [])) true false (some e.b) []=insAll [] (leadsL d (b.getD []) e.b):=by simp [famStep,f0,hb0]
     obtain ⟨q',hq',hc⟩:=hcall q hq
     refine ⟨q',hq',?_⟩
     simp only [Bool.false_eq_true,if_false,r_bnd0,r_ld0,r_lds,r_lm0,r_lms,r_eql,hb0,decide_false,r_cond,r_out,r_not,Bool.not_true,r_mpD,hc,r_asM,lenI,Option.getD_some,r_loop]
     rw [li82_01 n _ hlen hne]
     simp only [r_bndg,r_bnd0,s209,r_ld0,r_lds,r_ln0,r_lns,r_lr0,r_lm0,r_lms,r_cond,hfs]
     rfl
   | true =>
    have hfs:famStep (leadsL d (b.getD [])) yes true (some e.b) []=if yes=true then insAll [0] (leadsL d (b.getD []) e.b) else [0]:=by cases yes<;>simp [famStep,f0,hb0,ins]
    simp only [if_true,r_litNil,nilI,r_bnd0,r_ld0,r_lds,r_cond,Bool.false_eq_true,if_false]
    rw [put0]
    simp only [r_natN,r_rows,r_len,r_seg0,List.length_cons,List.length_nil,List.take_succ_cons,List.take_zero,r_out,r_bndg,r_bnd0,r_ld0,r_lds,r_ln0,r_lns,r_lr0,r_lm0,r_lms,r_eql,hb0,decide_false,r_cond,Bool.false_eq_true,if_false]
    cases yes with
    | false =>
     refine ⟨q,hq,?_⟩
     simp only [r_not,Bool.not_false,r_cond,if_true,s209,r_bnd0,r_ld0,hfs]
     rfl
    | true =>
     obtain ⟨q',hq',hc⟩:=hcall q hq
     refine ⟨q',hq',?_⟩
     simp only [r_not,Bool.not_true,r_cond,Bool.false_eq_true,if_false,r_mpD,hc,r_bnd0,r_ld0,r_lds,r_asM,lenI,Option.getD_some,r_loop]
     rw [show ([0].map rI)=[0].map rI from rfl,show (0+1:Nat)=[(0:Int)].length from rfl,li82_2 n _ hlen _ _ _ _ _ _ _ _ _ _ _ _ _ _ _ [0] (by simp) (by simp)]
     simp only [r_bnd0,s209,r_ld0,r_lds,r_ln0,r_lns,r_lr0,r_lm0,r_lms,r_cond,hfs]
     rfl
  ·rw [if_pos (by simp [h2])]
   simp only [if_neg (fun h=>h2 h.2:¬ (e.a=who∧mayB e.f1 e.t2 d=true))]
   exact ⟨q,hq,rfl⟩
 ·rw [if_pos (by simp [h1])]
  simp only [if_neg (fun h=>h1 h.1:¬ (e.a=who∧mayB e.f1 e.t2 d=true))]
  exact ⟨q,hq,rfl⟩
end Go.VE
namespace Go.VE
open Go.RowKit Go.Proofs
theorem acc_len0 {acc:List Int} (hu:Up acc) (h:∀ z∈acc,0≤z∧z≤99):acc.length≤100:=by
 have:=up_len acc 0 99 hu h
 omega
def en82 (d who:Int) (kin:D) (no yes:Bool) (s:Nat×Bool×List Int×Mr):Nat×List Yr:=match s.2.2.1 with
 | []=>(0,sz82 d who kin no yes s.1 s.2.2.2)
 | y::r=>(if s.2.1=true then 1 else 2,st82 d who kin no yes s.1 (y::r) s.2.2.2)
theorem en82_nil (d who:Int) (kin:D) (no yes:Bool) (m:Nat) (j:Bool) (q:Mr):en82 d who kin no yes (m,j,[],q)=(0,sz82 d who kin no yes m q):=rfl
theorem en82_ne (d who:Int) (kin:D) (no yes:Bool) (m:Nat) (j:Bool) {acc:List Int} (q:Mr) (h:acc≠[]):en82 d who kin no yes (m,j,acc,q)=(if j=true then 1 else 2,st82 d who kin no yes m acc q):=by
 cases acc with
 | nil=>exact absurd rfl h
 | cons _ _=>rfl
def Q82 (d who:Int) (kin:D) (no yes:Bool) (T:List Int) (r:Out):Prop:=∃ (acc:List Int) (q:Mr),Up acc∧acc.length≤900 ∧
 ((acc≠[]∧∃ j:Nat,(((j=2∨j=4)∧acc=T)∨((j=3∨j=5)∧ins 0 acc=T))∧r=some (j,ts82 d who kin no yes acc q))∨(r=some (0,tz82 d who kin no yes q)∧acc=[]∧ins 0 []=T))
theorem famStep_ne {L:Int→List Int} {yes no:Bool} (hyn:yes=false→no=true) {w:Int} (hw:¬ w=0) (hL:L w≠[]) (acc:List Int):famStep L yes no (some w) acc≠[]:=by
 unfold famStep
 have:¬ f0 (some w)=0:=hw
 cases yes with
 | false=>have:=hyn rfl;subst this;simp;exact ins_ne _ _
 | true=>simp only [this,false_or,Bool.true_eq_false,if_false];exact insAll_ne _ hL
set_option maxRecDepth 20000 in
theorem l82 (n:Nat) (a b c:Option (List E9)) (o:Option (List E5)) (d who:Int) (no yes:Bool) (hyn:yes=false→no=true) (ha:Fam1 (a.getD [])) (hla:(a.getD []).length≤1000000) (hb:Less (b.getD []))
  (hrec:∀ (w:Int) (q:Mr),1≤w→w≤99→Memo d (b.getD []) q→∃ q':Mr,Memo d (b.getD []) q'∧FN (n+4) 1000161 [dKin a b c o,il d,.mp false q.1 q.2,il w,dKin a b c o,il d]=some (0,[.d (dI (some (leadsL d (b.getD []) w))),.d (dKin a b c o),.d (il d),.d (.mp false q'.1 q'.2)])) :
  Q82 d who (dKin a b c o) no yes (famB (leadsL d (b.getD [])) yes no (opts d who (below (a.getD []) (a.getD []).length)) []) (loopR [L82_3 (RP (n+4)),L82_5 (RP (n+4)),L82_7 (RP (n+4))] M0 0 (sz82 d who (dKin a b c o) no yes (a.getD []).length ([],[]))):=by
 generalize hT:famB (leadsL d (b.getD [])) yes no (opts d who (below (a.getD []) (a.getD []).length)) []=T
 refine loop_pr (σ:=Nat×Bool×List Int×Mr) [L82_3 (RP (n+4)),L82_5 (RP (n+4)),L82_7 (RP (n+4))] (en82 d who (dKin a b c o) no yes) (fun s=>s.1)
  (fun s=>s.1≤(a.getD []).length∧Up s.2.2.1∧(∀ z∈s.2.2.1,0≤z∧z≤99)∧Memo d (b.getD []) s.2.2.2∧famB (leadsL d (b.getD [])) yes no (opts d who (below (a.getD []) s.1)) s.2.2.1=T)
  (Q82 d who (dKin a b c o) no yes T) ?_ M0 ((a.getD []).length,true,[],([],[])) ⟨Nat.le_refl _,by simp,by simp,memo_emp _ _,hT⟩ (by unfold M0;simp only;omega)
 clear hT
 rintro ⟨m,j,acc,q⟩ k ⟨g1,g2,g3,g4,g5⟩ ih
 simp only at g1 g2 g3 g4 g5 ih
 have gl:=acc_len0 g2 g3
 cases m with
 | zero =>
  rw [below_zero] at g5
  have g6:ins 0 acc=T:=by rw [←g5];simp [opts,famB,famStep,f0]
  cases acc with
  | nil =>
   refine ⟨L82_3 (RP (n+4)),rfl,[],q,g2,by simp,.inr ⟨?_,rfl,g6⟩⟩
   simp [en82_nil,sz82,tz82,L82_3]
  | cons y r =>
   cases j with
   | true =>
    refine ⟨L82_5 (RP (n+4)),rfl,y::r,q,g2,by omega,.inl ⟨by simp,3,.inr ⟨.inl rfl,g6⟩,?_⟩⟩
    simp [en82,st82,ts82,L82_5]
   | false =>
    refine ⟨L82_7 (RP (n+4)),rfl,y::r,q,g2,by omega,.inl ⟨by simp,5,.inr ⟨.inr rfl,g6⟩,?_⟩⟩
    simp [en82,st82,ts82,L82_7]
 | succ m =>
  obtain ⟨e,he⟩:∃ e,(a.getD [])[m]?=some e:=⟨_,List.getElem?_eq_getElem (by omega)⟩
  rw [below_succ he,opts] at g5
  have hw:IntKind.i64.wrap (((m:Nat):Int) - 1)=((m:Nat):Int) - 1:=wrap_id (by omega) (by omega)
  have hbe:=ha e (List.mem_of_getElem? he)
  have hb0:¬ e.b=0:=by omega
  have hne:leadsL d (b.getD []) e.b≠[]:=fun h=>by
   obtain ⟨z,hz⟩:=leadsL_ne hb (d:=d) _ e.b (Nat.le_refl _) hbe.1
   rw [h] at hz;simp at hz
  have hlen:=len_leadsL (d:=d) hb hbe.1
  have hcall:=fun q hq=>hrec e.b q hbe.1 hbe.2 hq
  have hfne:=famStep_ne (L:=leadsL d (b.getD [])) hyn hb0 hne acc
  have hfu:=up_famStep (leadsL d (b.getD [])) yes no (some e.b) g2
  have hfr:∀ z∈famStep (leadsL d (b.getD [])) yes no (some e.b) acc,0≤z∧z≤99:=fun z hz=>by
   rcases (mem_famStep _ _ _ _ _ _).1 hz with h | ⟨rfl,_⟩ | ⟨_,_,h⟩
   ·exact g3 z h
   ·omega
   ·have:=leadsL_range hb _ e.b z (Nat.le_refl _) hbe.1 h;omega
  have hfl:=acc_len0 hfu hfr
  cases acc with
  | nil =>
   obtain ⟨q',hq',hr⟩:=rd82_3 n a b c o d who no yes m e he hb0 hw hne (by omega) hcall hyn q g4 k
   refine ⟨L82_3 (RP (n+4)),rfl,?_⟩
   rw [en82_nil]
   simp only
   rw [hr]
   by_cases hc:e.a=who∧mayB e.f1 e.t2 d=true
   ·rw [if_pos hc] at g5 ⊢
    rw [famB] at g5
    by_cases h3:sureB e.f2 e.t1 d=true
    ·rw [if_pos h3] at g5 ⊢
     refine ⟨famStep (leadsL d (b.getD [])) yes no (some e.b) [],q',hfu,by omega,.inl ⟨hfne,_,.inl ⟨?_,g5⟩,rfl⟩⟩
     cases no<;>simp
    ·rw [if_neg h3] at g5 ⊢
     have:=ih (m,no,famStep (leadsL d (b.getD [])) yes no (some e.b) [],q') ⟨by simp only;omega,hfu,hfr,hq',g5⟩ (by simp only;omega)
     rw [en82_ne _ _ _ _ _ _ _ _ hfne] at this
     exact this
   ·rw [if_neg hc] at g5 ⊢
    exact ih (m,true,[],q') ⟨by simp only;omega,g2,g3,hq',g5⟩ (by simp only;omega)
  | cons y r =>
   cases j with
   | true =>
    obtain ⟨q',hq',hr⟩:=rd82_5 n a b c o d who no yes m e he hb0 hw hne (by omega) hcall (y::r) q g2 (by omega) g4 k
    refine ⟨L82_5 (RP (n+4)),rfl,?_⟩
    rw [en82_ne _ _ _ _ _ _ _ _ (by simp)]
    simp only
    rw [hr]
    by_cases hc:e.a=who∧mayB e.f1 e.t2 d=true
    ·rw [if_pos hc] at g5 ⊢
     rw [famB] at g5
     by_cases h3:sureB e.f2 e.t1 d=true
     ·rw [if_pos h3] at g5 ⊢
      exact ⟨famStep (leadsL d (b.getD [])) yes no (some e.b) (y::r),q',hfu,by omega,.inl ⟨hfne,_,.inl ⟨.inl rfl,g5⟩,rfl⟩⟩
     ·rw [if_neg h3] at g5 ⊢
      have:=ih (m,true,famStep (leadsL d (b.getD [])) yes no (some e.b) (y::r),q') ⟨by simp only;omega,hfu,hfr,hq',g5⟩ (by simp only;omega)
      rw [en82_ne _ _ _ _ _ _ _ _ hfne] at this
      exact this
    ·rw [if_neg hc] at g5 ⊢
     exact ih (m,true,y::r,q') ⟨by simp only;omega,g2,g3,hq',g5⟩ (by simp only;omega)
   | false =>
    obtain ⟨q',hq',hr⟩:=rd82_7 n a b c o d who no yes m e he hb0 hw hne (by omega) hcall (y::r) q g2 (by omega) g4 k
    refine ⟨L82_7 (RP (n+4)),rfl,?_⟩
    rw [en82_ne _ _ _ _ _ _ _ _ (by simp)]
    simp only
    rw [hr]
    by_cases hc:e.a=who∧mayB e.f1 e.t2 d=true
    ·rw [if_pos hc] at g5 ⊢
     rw [famB] at g5
     by_cases h3:sureB e.f2 e.t1 d=true
     ·rw [if_pos h3] at g5 ⊢
      exact ⟨famStep (leadsL d (b.getD [])) yes no (some e.b) (y::r),q',hfu,by omega,.inl ⟨hfne,_,.inl ⟨.inr rfl,g5⟩,rfl⟩⟩
     ·rw [if_neg h3] at g5 ⊢
      have:=ih (m,false,famStep (leadsL d (b.getD [])) yes no (some e.b) (y::r),q') ⟨by simp only;omega,hfu,hfr,hq',g5⟩ (by simp only;omega)
      rw [en82_ne _ _ _ _ _ _ _ _ hfne] at this
      exact this
    ·rw [if_neg hc] at g5 ⊢
     exact ih (m,false,y::r,q') ⟨by simp only;omega,g2,g3,hq',g5⟩ (by simp only;omega)
set_option maxRecDepth 20000 in
theorem s82 (n:Nat) (a b c:Option (List E9)) (o:Option (List E5)) (d who:Int) (hd:0≤d∧d≤4166) (ha:Fam1 (a.getD [])) (hb:Less (b.getD [])) (hla:(a.getD []).length≤1000000) (hlb:(b.getD []).length≤1000000) (hlc:(c.getD []).length≤1000000) (hlo:(o.getD []).length≤1000000) :
  FN (n+105) 82 [d9 a,d9 b,d9 c,d5 o,il who,il d]=some (0,[.d (dI (some (famP (a.getD []) (b.getD []) (c.getD []) (o.getD []) d who)))]):=by
 rw [F82]
 have hloop:=l82 (n+100) a b c o d who (goP (a.getD []) (c.getD []) (o.getD []) d who).2 (goP (a.getD []) (c.getD []) (o.getD []) d who).1 (goP_no _ _ _ _ _) ha hla hb
  (fun w q hw1 hw2 hq=>s161 a b c o d hb hlb 99 n w q hw1 (by omega) hw2 hq)
 rw [show n+100+4=n+104 from rfl] at hloop
 have hp:∀ k:List D→Out,(RP (n+104)).ptrW 4 (.dp [d9 a,d9 b,d9 c,d5 o] 0) k=k [d9 a,d9 b,d9 c,d5 o]:=fun k=>r_ptrW _ 4 k rfl
 have w2:IntKind.i64.wrap (((a.getD []).length:Int) - 1)=((a.getD []).length:Int) - 1:=wrap_id (by omega) (by omega)
 simp only [G82,r_call,s163 (n+97) a b c o d who hd hla hlc hlo,r_bnd0,r_ld0,r_lds,r_dpD,r_isPtr,hp,r_cell0,len9,r_liti,r_sub,w2,r_loop,r_emp]
 simp only [sz82,tz82,dKin] at hloop
 rw [show famP (a.getD []) (b.getD []) (c.getD []) (o.getD []) d who=famB (leadsL d (b.getD [])) (goP (a.getD []) (c.getD []) (o.getD []) d who).1 (goP (a.getD []) (c.getD []) (o.getD []) d who).2 (opts d who (below (a.getD []) (a.getD []).length)) [] from rfl]
 generalize famB (leadsL d (b.getD [])) (goP (a.getD []) (c.getD []) (o.getD []) d who).1 (goP (a.getD []) (c.getD []) (o.getD []) d who).2 (opts d who (below (a.getD []) (a.getD []).length)) []=T at hloop ⊢
 obtain ⟨acc,q,hu,hl,⟨hne,j,hj,hr⟩ | ⟨hr,_,hT⟩⟩:=hloop
 ·rw [hr]
  have hput:=s1000075 (n+100) acc 0 (by omega) hu
  rw [show n+100+4=n+104 from rfl] at hput
  rcases hj with ⟨rfl | rfl,rfl⟩ | ⟨rfl | rfl,rfl⟩
  ·simp [ts82,dI_take]
  ·simp [ts82,dI_take]
  ·simp [ts82,hput,dI_take]
  ·simp [ts82,hput,dI_take]
 ·rw [hr,← hT]
  simp only [tz82,r_bnd0,r_eql,decide_true,r_cond,if_true,r_litNil,nilI,r_ld0,r_lds,Bool.false_eq_true,if_false]
  rw [put0]
  simp [dI,dSl,ins,rI]
end Go.VE
