/- Bell: what a line says, by the reference. -/
import Derived.Test.YtaagapoglhndjaaGreatDoorMg1
import Derived.Test.YtaagapoglhndjaaGreatDoorMg0
import Derived.Test.YtaagapoglhndjaaGreatDoorMt
import Derived.KernelRfl
import Derived.WalkLawsBesides
namespace Go.VE
open Go.RowKit Go.Proofs
set_option maxRecDepth 100000
def hit (w:List UInt8) (zs:Option (List Nat)) (k:Nat):Option Stk:=if w=nameOf k then
  (match zs with
  | some [a,b,c]=>if two2 k=true then some (k,a,b,c) else none
  | some [a,c]=>if two2 k=true then none else some (k,a,0,c)
  | _=>none) else none
def sfrom (w:List UInt8) (zs:Option (List Nat)):Nat→Nat→Option Stk
 | 0,_=>none
 | f+1,k=>match hit w zs k with
  | some s=>some s
  | none=>sfrom w zs f (k+1)
def strokeW:List (List UInt8)→Option Stk
 | []=>none
 | w::r=>sfrom w (numsW r) 4 1
def sdR (o:Option Stk):Out:=match o with
 | none=>some (0,[.d (il 0),.d (il 0),.d (il 0),.d (il 0)])
 | some s=>some (1,[.d (bl true),.d (il s.1),.d (il s.2.1),.d (il s.2.2.1),.d (il s.2.2.2)])
section
variable {Fn:Nat→List D→Out} {FnD:D→List Sh→List D→Out} {m:Nat}
theorem cN (z:Nat):(real Fn FnD m).cell (rN z) 0=il z:=rfl
theorem rowN0 (a:Nat) (t:List Nat) (k:List D→Out):(real Fn FnD m).rowD 1 (dL 1 rN (opL (a::t))) (il 0) k=k (rN a):=rowL (n:=1) (f:=rN) (i:=0) (o:=opL (a::t)) (c:=a) rfl rfl k
theorem rowN1 (a b:Nat) (t:List Nat) (k:List D→Out):(real Fn FnD m).rowD 1 (dL 1 rN (opL (a::b::t))) (il 1) k=k (rN b):=rowL (n:=1) (f:=rN) (i:=1) (o:=opL (a::b::t)) (c:=b) rfl rfl k
theorem rowN2 (a b c:Nat) (t:List Nat) (k:List D→Out):(real Fn FnD m).rowD 1 (dL 1 rN (opL (a::b::c::t))) (il 2) k=k (rN c):=rowL (n:=1) (f:=rN) (i:=2) (o:=opL (a::b::c::t)) (c:=c) rfl rfl k
theorem rowW0 (w:List UInt8) (r:List (List UInt8)) (k:List D→Out):(real Fn FnD m).rowD 1 (dL 1 rSd (some (w::r))) (il 0) k=k (rSd w):=rowL (n:=1) (f:=rSd) (i:=0) (o:=some (w::r)) (c:=w) rfl rfl k
theorem cutW (w:List UInt8) (r:List (List UInt8)) (k:D→Out):(real Fn FnD m).cutD 1 (dL 1 rSd (some (w::r))) (some (il 1)) none k=k (dL 1 rSd (some r)):=by
 have:=r_cutD_lo (Fn:=Fn) (FnD:=FnD) (m:=m) 1 ((w::r).map rSd) 1 k (by simp;omega)
 exact this
end
theorem cst3:((3:Nat):Int)=3:=rfl
theorem cst2:((2:Nat):Int)=2:=rfl
theorem rnd68 (n:Nat) (w:List UInt8) (r:List (List UInt8)) (hl:r.length≤1000000) (hne:∀ x∈r,x≠[]) (kd:Nat) (h1:1≤kd) (h4:kd≤4) (k:Nat→List Yr→Out) :
  L68_0 (RP (n+1)) k [.d (dL 1 rSd (some (w::r))),.d (il kd),.d (il 0),.d (il 0),.d (il 0),.d (il 0)]=match hit w (numsW r) kd with
   | some s=>sdR (some s)
   | none=>k 0 [.d (dL 1 rSd (some (w::r))),.d (il ((kd+1:Nat):Int)),.d (il 0),.d (il 0),.d (il 0),.d (il 0)]:=by
 have hle:(kd:Int)≤4:=by omega
 obtain ⟨e1,e2,e3⟩:=nm_sel (k:=kd) (by omega)
 have hw:IntKind.i64.wrap ((kd:Int)+1)=((kd+1:Nat):Int):=by rw [wrap_id (by omega) (by omega)];omega
 have hcast:((kd:Int)).toNat=kd:=by omega
 rw [hcast] at e1
 have e97:=s97' n r hl hne
 by_cases hn:w=nameOf kd
 ·cases hz:numsW r with
  | none =>
   rw [hz] at e97
   simp only [hit,hn,if_true]
   simp only [L68_0,r_ld0,r_lds,r_liti,r_leq,hle,decide_true,r_cond,if_true,cutW,r_call,e97,r_bnd0,rowW0,s58,r_natN,r_inx _ 5 _ ⟨e2,e3⟩,hcast,r_selD,e1,cW,r_neqSs,hn,Bool.not_true,Bool.false_eq_true,if_false,r_not,Bool.not_false,r_add,hw]
  | some zs =>
   rw [hz] at e97
   have hlen:∀ k,(RP (n+1)).lenD (dL 1 rN (opL zs)) k=k (il zs.length):=fun k=>by rw [lenL,opL_get]
   have q3:((zs.length:Int)=3)=(zs.length=3):=by rw [eq_iff_iff];omega
   have q2:((zs.length:Int)=2)=(zs.length=2):=by rw [eq_iff_iff];omega
   by_cases ht:two2 kd=true
   ·by_cases hl3:zs.length=3
    ·obtain ⟨a,b,c,rfl⟩:∃ a b c,zs=[a,b,c]:=by
      match zs,hl3 with
      | [a,b,c],_=>exact ⟨a,b,c,rfl⟩
     simp only [hit,hn,if_true,ht]
     simp only [L68_0,r_ld0,r_lds,r_liti,r_leq,hle,decide_true,r_cond,if_true,cutW,r_call,e97,r_bnd0,rowW0,s58,r_natN,r_inx _ 5 _ ⟨e2,e3⟩,hcast,r_selD,e1,cW,r_neqSs,hn,Bool.not_true,Bool.false_eq_true,if_false,r_not,s60,ht,hlen,r_eql,q3,hl3,cst3,decide_true,rowN0,rowN1,rowN2,cN,r_litb,r_out,sdR]
    ·have hh:hit w (some zs) kd=none:=by
      simp only [hit,hn,if_true]
      match zs,hl3 with
      | [],_=>rfl
      | [_],_=>rfl
      | [_,_],_=>simp only [ht,if_true]
      | _::_::_::_::_,_=>rfl
     rw [hh]
     simp only [L68_0,r_ld0,r_lds,r_liti,r_leq,hle,decide_true,r_cond,if_true,cutW,r_call,e97,r_bnd0,rowW0,s58,r_natN,r_inx _ 5 _ ⟨e2,e3⟩,hcast,r_selD,e1,cW,r_neqSs,hn,Bool.not_true,Bool.false_eq_true,if_false,r_not,s60,ht,hlen,r_eql,q3,hl3,decide_false,r_add,hw]
   ·have ht':two2 kd=false:=by simpa using ht
    by_cases hl2:zs.length=2
    ·obtain ⟨a,c,rfl⟩:∃ a c,zs=[a,c]:=by
      match zs,hl2 with
      | [a,c],_=>exact ⟨a,c,rfl⟩
     simp only [hit,hn,if_true,ht',Bool.false_eq_true,if_false]
     simp only [L68_0,r_ld0,r_lds,r_liti,r_leq,hle,decide_true,r_cond,if_true,cutW,r_call,e97,r_bnd0,rowW0,s58,r_natN,r_inx _ 5 _ ⟨e2,e3⟩,hcast,r_selD,e1,cW,r_neqSs,hn,Bool.not_true,Bool.false_eq_true,if_false,r_not,Bool.not_false,s60,ht',hlen,r_eql,q2,hl2,cst2,decide_true,rowN0,rowN1,cN,r_litb,r_out,sdR]
    ·have hh:hit w (some zs) kd=none:=by
      simp only [hit,hn,if_true]
      match zs,hl2 with
      | [],_=>rfl
      | [_],_=>rfl
      | [_,_,_],_=>simp only [ht',Bool.false_eq_true,if_false]
      | _::_::_::_::_,_=>rfl
     rw [hh]
     simp only [L68_0,r_ld0,r_lds,r_liti,r_leq,hle,decide_true,r_cond,if_true,cutW,r_call,e97,r_bnd0,rowW0,s58,r_natN,r_inx _ 5 _ ⟨e2,e3⟩,hcast,r_selD,e1,cW,r_neqSs,hn,Bool.not_true,Bool.false_eq_true,if_false,r_not,Bool.not_false,s60,ht',hlen,r_eql,q2,hl2,decide_false,r_add,hw]
 ·simp only [hit,hn,if_false]
  obtain ⟨y,hy⟩:∃ y,FN (n+1) 97 [dL 1 rSd (some r)]=some (0,y):=by
   rw [e97];cases numsW r<;>exact ⟨_,rfl⟩
  simp only [L68_0,r_ld0,r_lds,r_liti,r_leq,hle,decide_true,r_cond,if_true,cutW,r_call,hy,r_bnd0,rowW0,s58,r_natN,r_inx _ 5 _ ⟨e2,e3⟩,hcast,r_selD,e1,cW,r_neqSs,hn,decide_false,Bool.not_false,r_add,hw]
theorem s68' (n:Nat) (w:List UInt8) (r:List (List UInt8)) (hl:r.length≤1000000) (hne:∀ x∈r,x≠[]):FN (n+2) 68 [dL 1 rSd (some (w::r))] =
  match strokeW (w::r) with
  | none=>some (0,[.d (il 0),.d (il 0),.d (il 0),.d (il 0),.d (bl false)])
  | some s=>some (0,[.d (il s.1),.d (il s.2.1),.d (il s.2.2.1),.d (il s.2.2.2),.d (bl true)]):=by
 have hloop:loopR [L68_0 (RP (n+1))] M0 0 [.d (dL 1 rSd (some (w::r))),.d (il 1),.d (il 0),.d (il 0),.d (il 0),.d (il 0)]=sdR (strokeW (w::r)):=by
  refine loop_ms (σ:=Nat) [L68_0 (RP (n+1))] (fun f=>(0,[.d (dL 1 rSd (some (w::r))),.d (il ((5 - f:Nat):Int)),.d (il 0),.d (il 0),.d (il 0),.d (il 0)])) (fun f=>f) (fun f=>f≤4) (fun f=>sdR (sfrom w (numsW r) f (5 - f))) ?_ M0 4 (Nat.le_refl _) (by simp only [M0];omega)
  intro f k hf ih
  refine ⟨_,rfl,?_⟩
  cases f with
  | zero =>
   have:¬ ((5 - 0:Nat):Int)≤4:=by omega
   simp only [L68_0,r_ld0,r_lds,r_liti,r_leq,this,decide_false,r_cond,Bool.false_eq_true,if_false,r_out,sfrom,sdR]
  | succ f =>
   simp only at ih ⊢
   rw [rnd68 n w r hl hne (5 - (f+1)) (by omega) (by omega) k,sfrom]
   cases hit w (numsW r) (5 - (f+1)) with
   | some s=>rfl
   | none =>
    have:=ih f (by omega) (by omega)
    rw [show 5 - f=5 - (f+1)+1 by omega] at this
    exact this
 rw [F68]
 simp only [G68,r_liti,r_loop,hloop]
 cases strokeW (w::r) with
 | none=>simp only [sdR,r_bnd0,r_litb,r_out]
 | some s=>simp only [sdR,r_bnd1,r_ld0,r_lds,r_out]
end Go.VE
namespace Go.VE
open Go.RowKit Go.Proofs
set_option maxRecDepth 100000
theorem lns_len:∀ (l cur:List UInt8),(lns cur l).length≤l.length+1
 | [],cur=>by unfold lns;split<;>simp
 | b::r,cur=>by
  unfold lns
  split
  ·have:=lns_len r [];simp only [List.length_cons];omega
  ·have:=lns_len r (cur++[b]);simp only [List.length_cons];omega
theorem lns_mem:∀ (l cur x:List UInt8),x∈lns cur l→x.length≤cur.length+l.length
 | [],cur,x,h=>by
  unfold lns at h
  split at h
  ·simp at h
  ·simp only [List.mem_singleton] at h;subst h;simp
 | b::r,cur,x,h=>by
  unfold lns at h
  split at h
  ·rcases List.mem_cons.1 h with rfl | h
   ·simp only [List.length_cons];omega
   ·have:=lns_mem r [] x h;simp only [List.length_cons,List.length_nil] at this ⊢;omega
  ·have:=lns_mem r (cur++[b]) x h
   simp only [List.length_append,List.length_cons,List.length_nil] at this ⊢;omega
theorem wds_len:∀ (l cur:List UInt8),(wds cur l).length≤l.length+1
 | [],cur=>by unfold wds;split<;>simp
 | b::r,cur=>by
  unfold wds
  split
  ·split
   ·have:=wds_len r [];simp only [List.length_cons];omega
   ·have:=wds_len r [];simp only [List.length_cons];omega
  ·have:=wds_len r (cur++[b]);simp only [List.length_cons];omega
theorem wds_mem:∀ (l cur x:List UInt8),x∈wds cur l→x≠[]
 | [],cur,x,h=>by
  unfold wds at h
  split at h
  ·simp at h
  ·simp only [List.mem_singleton] at h;subst h;assumption
 | b::r,cur,x,h=>by
  unfold wds at h
  split at h
  ·split at h
   ·exact wds_mem r [] x h
   ·rcases List.mem_cons.1 h with rfl | h
    ·assumption
    ·exact wds_mem r [] x h
  ·exact wds_mem r _ x h
theorem wordsOf_mem {l x:List UInt8} (h:x∈wordsOf l):x≠[]:=by
 unfold wordsOf at h
 split at h
 ·simp at h
 ·exact wds_mem _ _ _ h
theorem wordsOf_len (l:List UInt8):(wordsOf l).length≤l.length+1:=by
 unfold wordsOf
 split
 ·simp
 ·exact wds_len _ _
def parL:Nat→List (List UInt8)→Nat ⊕ List Stk
 | _,[]=>.inr []
 | i,l::r=>match wordsOf l with
  | []=>parL (i+1) r
  | w::ws=>match strokeW (w::ws) with
   | none=>.inl (i+1)
   | some s=>match parL (i+1) r with
    | .inl a=>.inl a
    | .inr t=>.inr (s::t)
def parR (acc:List Stk):Nat ⊕ List Stk→Out
 | .inl a=>some (0,[.d (il a),.d (il 5)])
 | .inr l=>some (1,[.n (acc++l).length,.d (bl ((acc++l).all okS)),.r ((acc++l).map rS)])
def prs (l:List UInt8):Option (List Stk)×Nat×Nat :=
 if 8000 < l.length then (none,0,2) else match parL 0 (lns [] l) with
  | .inl a=>(none,a,5)
  | .inr t=>if t.all okS=true∧t.length≤120 then (opL t,0,0) else (none,0,91)
theorem l26' (n:Nat) (l:List UInt8) (hl:l.length≤8000):loopR [L26_0 (RP (n+3))] M0 0 [.d (dL 1 rSd (opL (lns [] l))),.n 0,.d (bl true),.d (il 0),.r []]=parR [] (parL 0 (lns [] l)):=by
 have hll:=lns_len l []
 have hmem:∀ x∈lns [] l,x.length≤8000:=fun x hx=>by have:=lns_mem l [] x hx;simp only [List.length_nil] at this;omega
 generalize lns [] l=LS at hll hmem
 have:=range_loop (β:=List Stk) LS (by omega) (L26_0 (RP (n+3))) (fun i acc=>[.d (dL 1 rSd (opL LS)),.n acc.length,.d (bl (acc.all okS)),.d (il i),.r (acc.map rS)]) (fun i acc=>acc.length≤i)
  (fun i r acc=>parR acc (parL i r)) ?_ ?_ M0 [] (by simp) (M0_big (by omega))
 ·exact this
 ·intro acc k _
  simp only [L26_0,r_ld0,r_lds,lenL,opL_get,r_lss,Int.lt_irrefl,decide_false,r_cond,Bool.false_eq_true,if_false,r_out,r_ln0,r_lns,r_lr0,r_lrs,parL,parR,List.append_nil]
 ·intro i ln r acc k hi hd hlt hw hI ih
  have hlt':(i:Int) < (LS.length:Int):=by omega
  have hln:=hmem ln (List.mem_of_getElem? hi)
  have hrow:=fun k=>rowL (Fn:=FN (n+3)) (FnD:=FnDof Tryz.prog (cf3 tb Tryz.prog) (FN (n+3))) (m:=M0) (f:=rSd) (o:=opL LS) (i:=i) (c:=ln) (by rw [opL_get];exact hi) (n:=1) rfl k
  have h67:=s67' (n+2) ln (by omega)
  have hwl:=wordsOf_len ln
  have hlen:∀ (ws:List (List UInt8)) k,(RP (n+3)).lenD (dL 1 rSd (opL ws)) k=k (il ws.length):=fun ws k=>by rw [lenL,opL_get]
  cases hws:wordsOf ln with
  | nil =>
   have ih':=ih acc (by omega)
   rw [cast1] at ih'
   rw [hws] at h67
   simp only [parL,hws]
   rw [←ih']
   simp only [L26_0,r_ld0,r_lds,hlen,r_lss,hlt',decide_true,r_cond,if_true,hrow,cW,r_call,h67,r_bnd0,List.length_nil,Int.natCast_zero,r_liti,r_eql,r_add,hw,r_ln0,r_lns,r_lr0,r_lrs]
  | cons w ws =>
   have hmw:∀ x∈ws,x≠[]:=fun x hx=>wordsOf_mem (l:=ln) (by rw [hws];exact List.mem_cons_of_mem _ hx)
   rw [hws] at h67 hwl
   simp only [List.length_cons] at hwl
   have h68:=s68' (n+1) w ws (by omega) hmw
   have hne:¬ (((w::ws).length:Nat):Int)=0:=by simp only [List.length_cons];omega
   have hop:opL (w::ws)=some (w::ws):=rfl
   have hne2:¬ ((ws.length+1:Nat):Int)=0:=by omega
   have hlen2:∀ k,(RP (n+3)).lenD (dL 1 rSd (some (w::ws))) k=k (il (w::ws).length):=fun k=>by rw [lenL,Option.getD_some]
   simp only [parL,hws]
   cases hs:strokeW (w::ws) with
   | none =>
    rw [hs] at h68
    simp only [L26_0,r_ld0,r_lds,hlen,r_lss,hlt',decide_true,r_cond,if_true,hrow,cW,r_call,h67,r_bnd0,hlen2,hne,hne2,r_liti,r_eql,decide_false,Bool.false_eq_true,if_false,hop,h68,r_not,Bool.not_false,r_add,hw,r_out,parR,cast1]
   | some s =>
    rw [hs] at h68
    have ih':=ih (acc++[s]) (by simp only [List.length_append,List.length_cons,List.length_nil];omega)
    have e:parR acc (match parL (i+1) r with
      | .inl a=>.inl a
      | .inr t=>.inr (s::t))=parR (acc++[s]) (parL (i+1) r):=by
     cases parL (i+1) r with
     | inl a=>rfl
     | inr t=>simp only [parR,List.append_assoc,List.cons_append,List.nil_append]
    rw [cast1] at ih'
    simp only
    rw [e,← ih']
    have hf:(acc.length+1)*32≤140737488355328∧acc.length+1≤9223372036854775807:=by omega
    have hall:(acc++[s]).all okS=(acc.all okS&&okS s):=by simp
    cases ha:acc.all okS with
    | true =>
     simp only [L26_0,r_ld0,r_lds,hlen,r_lss,hlt',decide_true,r_cond,if_true,hrow,cW,r_call,h67,r_bnd0,hlen2,hne,hne2,r_liti,r_eql,decide_false,Bool.false_eq_true,if_false,hop,h68,r_not,Bool.not_true,s73,r_out,r_natN,r_rows,r_len,List.length_cons,List.length_nil,Nat.zero_add,r_eqN,r_ln0,r_lns,r_lr0,r_lrs,List.length_map,r_seg0,List.take_succ_cons,List.take_zero,r_addN,r_fitsg,hf,and_self,r_add,hw,r_app,List.length_append,List.map_append,List.map_cons,List.map_nil,rS,hall,ha,Bool.true_and]
    | false =>
     simp only [L26_0,r_ld0,r_lds,hlen,r_lss,hlt',decide_true,r_cond,if_true,hrow,cW,r_call,h67,r_bnd0,hlen2,hne,hne2,r_liti,r_litb,r_eql,decide_false,Bool.false_eq_true,if_false,hop,h68,r_not,Bool.not_true,r_out,r_natN,r_rows,r_len,List.length_cons,List.length_nil,Nat.zero_add,r_eqN,r_ln0,r_lns,r_lr0,r_lrs,List.length_map,r_seg0,List.take_succ_cons,List.take_zero,r_addN,r_fitsg,hf,and_self,r_add,hw,r_app,List.length_append,List.map_append,List.map_cons,List.map_nil,rS,hall,ha,Bool.false_and]
theorem s26' (n:Nat) (l:List UInt8) (hl:l.length≤140737488351232):FN (n+4) 26 [sd l]=some (0,[.d (dS (prs l).1),.d (il (prs l).2.1),.d (il (prs l).2.2)]):=by
 rw [F26]
 by_cases h8:8000 < l.length
 ·have:(8000:Int) < (l.length:Int):=by omega
  simp only [G26,r_lenSs,r_liti,r_gtr,this,decide_true,r_cond,if_true,r_litNil,r_out,prs,h8]
  rfl
 ·have h8':¬ (8000:Int) < (l.length:Int):=by omega
  have h66:=s66' (n+2) l (by omega)
  simp only [G26,r_lenSs,r_liti,r_litb,r_gtr,h8',decide_false,Bool.false_eq_true,if_false,r_cond,r_call,h66,r_bnd0,r_ld0,r_natN,r_rows,r_loop,l26' n l (by omega),prs,h8]
  cases parL 0 (lns [] l) with
  | inl a=>simp only [parR,r_bnd0,r_ld0,r_lds,r_litNil,r_out];rfl
  | inr t =>
   have e120:((120:Int) < (t.length:Int))=(120 < t.length):=by rw [eq_iff_iff];omega
   simp only [parR,List.nil_append,r_bnd1,r_ld0,r_lds,r_ln0,r_lns,r_lr0,r_lrs,r_not,r_natD,r_gtr,e120,r_litNil,r_out,r_len,List.length_map,r_eqN,if_true,r_slNm]
   by_cases ha:t.all okS=true
   ·by_cases hl:120 < t.length
    ·have:¬ t.length≤120:=by omega
     simp only [ha,Bool.not_true,r_cond,Bool.false_eq_true,if_false,hl,decide_true,if_true,this,and_false]
     rfl
    ·have:t.length≤120:=by omega
     simp only [ha,Bool.not_true,r_cond,Bool.false_eq_true,if_false,hl,decide_false,this,and_self,if_true]
     rfl
   ·have ha':t.all okS=false:=by simpa using ha
    simp only [ha',Bool.not_false,r_cond,if_true,Bool.false_eq_true,false_and,if_false]
    rfl
end Go.VE
namespace Go.VE
open Go.RowKit Go.Proofs Go.Shelf
set_option maxRecDepth 100000
set_option maxHeartbeats 4000000
theorem print2 (w:World) (a:Nat) (o c:Nat) (_:2≤c) (h0:w.cell? ⟨a,o,none⟩=some (.int .i64 2)) (h1:w.cell? ⟨a,o+1,none⟩=some (.int .i64 7)) (h2:w.cell? ⟨a,o+2,none⟩=some (.int .i64 0)) (h3:w.cell? ⟨a,o+3,none⟩=some (.int .i64 1))
  (h4:w.cell? ⟨a,o+4,none⟩=some (.int .i64 1)) (h5:w.cell? ⟨a,o+5,none⟩=some (.int .i64 7)) (h6:w.cell? ⟨a,o+6,none⟩=some (.int .i64 0)) (h7:w.cell? ⟨a,o+7,none⟩=some (.int .i64 1))
  (hf:Calls Tryz.prog 51 #[.slice (some ⟨a,o,none⟩) 2 c,(.func (.func 52) #[] #[])] w fun e w'=>e=.returned (.bool false)∧Below w.heap.size w w') :
  Calls Tryz.prog 23 #[.slice (some ⟨a,o,none⟩) 2 c] w fun e w'=>e=.returned (.tuple #[.string ⟨#[119,97,110,116,115,32,55,32,49,10,116,97,108,108,121,32,55,32,48,32,49,10]⟩,.int .i64 0])∧Below w.heap.size w w':=by
 have ha:a < w.heap.size:=by
  unfold World.cell? at h0
  simp only at h0
  rcases Nat.lt_or_ge a w.heap.size with h | h
  ·exact h
  ·rw [Array.getElem?_eq_none h] at h0;cases h0
 go_enter Tryz.func23,Tryz.ntmps23
 go_wp2_with (go_at_call 51;refine hf.mono ?_)
 rintro e w1 ⟨rfl,b1⟩
 have ha1:a < w1.heap.size:=Nat.lt_of_lt_of_le ha b1.size
 have g0:=(b1.cell (p:=⟨a,o,none⟩) ha).trans h0
 have g1:=(b1.cell (p:=⟨a,o+1,none⟩) ha).trans h1
 have g2:=(b1.cell (p:=⟨a,o+2,none⟩) ha).trans h2
 have g3:=(b1.cell (p:=⟨a,o+3,none⟩) ha).trans h3
 have g4:=(b1.cell (p:=⟨a,o+4,none⟩) ha).trans h4
 have g5:=(b1.cell (p:=⟨a,o+5,none⟩) ha).trans h5
 have g6:=(b1.cell (p:=⟨a,o+6,none⟩) ha).trans h6
 have g7:=(b1.cell (p:=⟨a,o+7,none⟩) ha).trans h7
 clear h0 h1 h2 h3 h4 h5 h6 h7 hf
 go_wp2
 refine wp_loop_rounds 3 ?_
 rw [rounds_succ]
 go_wp2_with (go_at_call 55;refine (row2 _ _ (by simp [go_sem]) (by simp [go_sem])).mono ?_)
 rintro e w2 ⟨rfl,rfl⟩
 have k0:Lib.IsBuilderF 112 5 w1.heap.size w1.heap.size [] (w1.alloc (.cells #[.pointer none,.slice none 0 0] 112)):=Lib.IsBuilderF.of (Lib.fresh_isBuilder 112 5 w1)
 have c0:Below w1.heap.size w1 (w1.alloc (.cells #[.pointer none,.slice none 0 0] 112)):=(Below.refl _ w1).alloc (Nat.le_refl _) _
 go_wp2_with (go_at_call 54;refine (wS w1.heap.size w1.heap.size [] _ _ ((k0.imp (·.alloc _) (·.alloc _)).imp (·.alloc _) (·.alloc _)) (by decide) (((c0.alloc c0.size _).alloc (c0.alloc c0.size _).size _).size)).mono ?_)
 rintro e w3 ⟨rfl,k3,d3⟩
 have c3:=((c0.alloc c0.size _).alloc (c0.alloc c0.size _).size _).trans d3
 clear d3 k0 c0
 have ha3:a < w3.heap.size:=Nat.lt_of_lt_of_le ha1 c3.size
 have f4:=(c3.cell (p:=⟨a,o+4,none⟩) ha1).trans g4
 have f5:=(c3.cell (p:=⟨a,o+5,none⟩) ha1).trans g5
 have f6:=(c3.cell (p:=⟨a,o+6,none⟩) ha1).trans g6
 have f7:=(c3.cell (p:=⟨a,o+7,none⟩) ha1).trans g7
 clear g0 g1 g2 g3 g4 g5 g6 g7
 go_wp2
 rw [rounds_succ]
 go_wp2_with (go_at_call 55;refine (row3 _ _ (by simp [go_sem]) (by simp [go_sem]) (by simp [go_sem])).mono ?_)
 rintro e w4 ⟨rfl,rfl⟩
 have c4:=(c3.alloc c3.size (.cells #[.int .i64 1,.int .i64 7,.int .i64 0,.int .i64 1] 84)).alloc ((c3.alloc c3.size (.cells #[.int .i64 1,.int .i64 7,.int .i64 0,.int .i64 1] 84)).size) (.cells #[.int .i64 7,.int .i64 0,.int .i64 1] 3)
 go_wp2_with (go_at_call 54;refine (wS w1.heap.size w1.heap.size _ _ _ (.inr ((k3.alloc _).alloc _)) (by decide) c4.size).mono ?_)
 rintro e w5 ⟨rfl,k5,d5⟩
 have c5:=c4.trans d5
 clear d5 c4 k3 f4 f5 f6 f7
 go_wp2
 rw [rounds_succ]
 have k6:Lib.IsBuilderF 112 5 w1.heap.size w1.heap.size (Lib.byteCells [119,97,110,116,115,32,55,32,49,10,116,97,108,108,121,32,55,32,48,32,49,10]) w5:=.inr k5
 go_wp2_with (go_at_call 56;refine (wStr w1.heap.size w1.heap.size _ _ k6 c5.size).mono ?_)
 rintro e w6 ⟨rfl,_,d6⟩
 go_wp2
 go_ret2
 refine ⟨rfl,?_⟩
 have c6:=c5.trans d6
 exact b1.trans ⟨c6.os,c6.tape,c6.output,c6.size,fun k hk=>c6.block k (Nat.lt_of_lt_of_le hk b1.size)⟩
end Go.VE
namespace Go.VE
open Go.RowKit Go.Proofs
set_option maxRecDepth 100000
set_option maxHeartbeats 0
def ySt (p:Int) (bs:D) (l:D) (h e:Int):Out:=some (0,[.d (il p),.d bs,.d l,.d (il h),.d (il e)])
def eBs:D:=.sl 2 [[il 7,il 11]]
def eRow (a b c d:Int):List D:=[il a,il b,il c,il d]
def eSt (p:Int) (l:D) (h:Int):List D:=[il p,eBs,l,il h]
def eNo:D:=.lit (.slice none 0 0)
theorem e9_0:FN 14 41 [il 0,eBs]=ySt 0 eBs eNo 0 0:=by kernel_rfl
theorem e9_1:FN 14 41 [il 1,eBs]=ySt 1 eBs eNo 0 0:=by kernel_rfl
theorem e9_3:FN 14 41 [il 3,eBs]=ySt 3 eBs eNo 0 0:=by kernel_rfl
theorem e41:FN 14 16 (eSt 3 eNo 0++[il 7])=some (0,[.d (.sl 1 [[il 0],[il 1]]),.d (il 0)]):=by kernel_rfl
theorem e19:FN 14 42 (eSt 1 eNo 0++[il 7])=ySt 1 eBs (.sl 4 [eRow 2 7 0 1]) 0 0:=by kernel_rfl
theorem e43_0:FN 14 11 (eSt 1 (.sl 4 [eRow 2 7 0 1]) 0++[il 0])=some (0,[.d (il 1),.d (il 0),.d (.sl 3 [[il 7,il 0,il 0]]),.d (il 0)]):=by kernel_rfl
theorem e49_1:FN 14 8 (eSt 1 (.sl 4 [eRow 2 7 0 1]) 0)=ySt 1 eBs (.sl 4 [eRow 2 7 0 1]) 1 0:=by kernel_rfl
theorem e43_1:FN 14 11 (eSt 1 (.sl 4 [eRow 2 7 0 1]) 1++[il 0])=some (0,[.d (il 1),.d (il 0),.d (.sl 3 [[il 7,il 0,il 1]]),.d (il 0)]):=by kernel_rfl
theorem e27_0:FN 14 21 (eSt 0 eNo 0++[il 1,il 0,.sl 3 [[il 7,il 0,il 1]]])=ySt 0 eBs (.sl 4 [eRow 3 7 1 1]) 0 0:=by kernel_rfl
theorem e25:FN 14 43 (eSt 0 (.sl 4 [eRow 3 7 1 1]) 0)=ySt 0 eBs (.sl 4 [eRow 3 7 1 1,eRow 1 7 1 1]) 0 0:=by kernel_rfl
theorem e29:FN 14 19 (eSt 0 (.sl 4 [eRow 3 7 1 1,eRow 1 7 1 1]) 0++[il 7,il 1])=some (0,[.d (il 1),.d (il 0)]):=by kernel_rfl
theorem e49_2:FN 14 8 (eSt 0 (.sl 4 [eRow 3 7 1 1,eRow 1 7 1 1]) 0)=ySt 0 eBs (.sl 4 [eRow 3 7 1 1,eRow 1 7 1 1]) 2 0:=by kernel_rfl
theorem e43_2:FN 14 11 (eSt 0 (.sl 4 [eRow 3 7 1 1,eRow 1 7 1 1]) 2++[il 1])=some (0,[.d (il 0),.d (il 1),.d (.sl 3 [[il 7,il 1,il 0]]),.d (il 0)]):=by kernel_rfl
theorem e27_1:FN 14 21 (eSt 1 (.sl 4 [eRow 2 7 0 1]) 1++[il 0,il 1,.sl 3 [[il 7,il 1,il 0]]])=ySt 1 eBs (.sl 4 [eRow 2 7 0 1,eRow 1 7 0 1]) 1 0:=by kernel_rfl
theorem e33:FN 14 18 (eSt 1 (.sl 4 [eRow 2 7 0 1,eRow 1 7 0 1]) 1++[il 7,il 0])=some (0,[.d (bl true),.d (il 0)]):=by kernel_rfl
theorem e21:FN 14 44 (eSt 1 (.sl 4 [eRow 2 7 0 1,eRow 1 7 0 1]) 1++[il 7])=ySt 1 eBs (.sl 4 [eRow 2 7 0 1,eRow 1 7 0 1,eRow 4 7 0 1,eRow 2 7 0 2]) 1 0:=by kernel_rfl
theorem e47:FN 14 45 [.sl 4 [eSt 0 (.sl 4 [eRow 3 7 1 1,eRow 1 7 1 1]) 2,eSt 1 (.sl 4 [eRow 2 7 0 1,eRow 1 7 0 1,eRow 4 7 0 1,eRow 2 7 0 2]) 1,eSt 3 eNo 0],il 7]=some (0,[.d (.sl 1 [[il 1]]),.d (il 0)]):=by kernel_rfl
end Go.VE
namespace Go.VE
open Go.RowKit Go.Proofs
set_option maxRecDepth 100000
set_option maxHeartbeats 0
theorem mixP:Tryz.prog.follows .mixedOrders=true:=by kernel_rfl
theorem spOK:SpOK Tryz.prog (cf3 tb Tryz.prog):=fun f p h=>by
 have:(cf3 tb Tryz.prog).sp f=none:=rfl
 rw [this] at h;cases h
def two:List (List D):=[eRow 2 7 0 1,eRow 1 7 0 1]
def twoS:D:=.lit (.string ⟨#[119,97,110,116,115,32,55,32,49,10,116,97,108,108,121,32,55,32,48,32,49,10]⟩)
theorem e105:FN 8 51 [.sl 4 two,.fn 52 []]=some (0,[.d (bl false)]):=by kernel_rfl
theorem sc105:SC Tryz.prog 51 [.one (.sl 4 two),.one (.fn 52 [])] (.one (.d (bl false))) :=
 FnT_ok (P:=Tryz.prog) (T:=tb) mixP spOK 8 51 [.one,.one] [.sl 4 two,.fn 52 []] _ 0 [.d (bl false)] [(false,[.d])] rfl rfl e105 rfl
theorem print_sc:SC Tryz.prog 23 [.one (.sl 4 two)] (.tup [.one (.d twoS),.one (.d (il 0))]):=by
 refine ⟨fun xs w=>enters_of Tryz.func23 (by kernel_rfl) rfl xs w,?_⟩
 intro w U vs hU hv
 obtain ⟨vs⟩:=vs
 simp only [VDF,VDR,DR] at hv
 obtain ⟨v,_,rfl,⟨a,c,rfl,hc,hm,hb⟩,rfl⟩:=hv
 obtain ⟨b,o,rfl,hb1,hr⟩:=hb (by decide)
 have hr':=hr
 simp only [two,eRow,RR,CR,DR,il,Nat.add_assoc,Nat.reduceAdd] at hr
 obtain ⟨_,⟨⟨_,h0,rfl,_⟩,⟨_,h1,rfl,_⟩,⟨_,h2,rfl,_⟩,⟨_,h3,rfl,_⟩,_⟩,_,⟨⟨_,h4,rfl,_⟩,⟨_,h5,rfl,_⟩,⟨_,h6,rfl,_⟩,⟨_,h7,rfl,_⟩,_⟩,_⟩:=hr
 refine (print2 w b o c hc h0 h1 h2 h3 h4 h5 h6 h7 ?_).mono ?_
 ·refine (sc105.2 w U _ hU ?_).mono ?_
  ·simp only [VDF,VDR,DR]
   exact ⟨_,_,rfl,⟨⟨b,o,none⟩,c,rfl,hc,hm,fun _=>⟨b,o,rfl,hb1,hr'⟩⟩,_,_,rfl,⟨#[],rfl,by simp [FR]⟩,rfl⟩
  ·rintro e w' ⟨v,U',bs,rfl,hbe,_,_,_,_,hrv⟩
   simp only [RvR,RcR,DR,bl] at hrv
   obtain ⟨_,rfl,_⟩:=hrv
   exact ⟨rfl,hbe⟩
 ·rintro e w' ⟨rfl,hbe⟩
  refine ⟨_,U,[],rfl,hbe,fun _ h=>h,fun x hx=>⟨Nat.lt_of_lt_of_le (hU x hx) hbe.size,.inl hx⟩,List.nodup_nil,by simp,?_⟩
  simp only [RvR,RvF,RcR,DR,twoS,il]
  exact ⟨_,rfl,_,_,[],[],rfl,rfl,⟨rfl,rfl,rfl⟩,_,_,[],[],rfl,rfl,⟨rfl,rfl,rfl⟩,rfl,rfl⟩
end Go.VE
namespace Go.VE
open Go.RowKit Go.Proofs
set_option maxRecDepth 100000
theorem s52 (n:Nat) (s:Stk):FN (n+4) 52 [il s.1,il s.2.1,il s.2.2.1,il s.2.2.2]=some (0,[.d (bl (!okS s))]):=by
 rw [F52]
 simp only [G52,r_call,s107,r_bnd0,r_ld0,r_not,r_out]
theorem d52 (n:Nat) (s:Stk):FD (n+4) (.fn 52 []) [.agg 4] [il s.1,il s.2.1,il s.2.2.1,il s.2.2.2]=some (0,[.d (bl (!okS s))]) :=
 FD_fn [.agg 4] [.agg [il s.1,il s.2.1,il s.2.2.1,il s.2.2.2]] (by decide) rfl (by kernel_rfl) rfl (by kernel_rfl) (s52 n s)
theorem s51 (n:Nat) (o:Option (List Stk)) (hl:(o.getD []).length≤4611686018427387904):FN (n+6) 51 [dS o,.fn 52 []]=some (0,[.d (bl (!(o.getD []).all okS))]):=by
 have h89:∃ z:Int,FN (n+5) 89 [dS o,.fn 52 []]=some (0,[.d (il z)])∧decide (0≤z)=!(o.getD []).all okS:=by
  rw [F89]
  simp only [G89,lenL,r_liti,r_loop]
  have:=range_loop (β:=Unit) (o.getD []) hl (L89_0 (RP (n+4))) (fun i _=>[.d (dS o),.d (.fn 52 []),.d (il (o.getD []).length),.d (il i)]) (fun _ _=>True)
   (fun i r _=>if r.all okS=true then some (1,[]) else some (0,[.d (il ((i+(r.takeWhile okS).length:Nat):Int))])) ?_ ?_ M0 () trivial (M0_big hl)
  ·simp only [Int.natCast_zero,Nat.zero_add] at this
   rw [this]
   by_cases ha:(o.getD []).all okS=true
   ·exact ⟨-1,by simp only [ha,if_true,r_bnd1,r_out],by rw [ha];rfl⟩
   ·exact ⟨((o.getD []).takeWhile okS).length,by simp only [ha,Bool.false_eq_true,if_false,r_bnd0,r_ld0,r_out],by simp [ha]⟩
  ·intro _ k _
   simp only [L89_0,r_ld0,r_lds,r_lss,Int.lt_irrefl,decide_false,r_cond,Bool.false_eq_true,if_false,r_out,List.all_nil,if_true]
  ·intro i s r _ k hi hd hlt hw _ ih
   have ih':=ih () trivial
   rw [cast1] at ih'
   have hlt':(i:Int) < ((o.getD []).length:Int):=by omega
   by_cases hok:okS s=true
   ·simp only [List.all_cons,hok,Bool.true_and,List.takeWhile_cons,if_true,List.length_cons]
    rw [show i+((r.takeWhile okS).length+1)=i+1+(r.takeWhile okS).length by omega,← ih']
    simp only [L89_0,r_ld0,r_lds,r_lss,hlt',decide_true,r_cond,if_true,rowS hi,cS0,cS1,cS2,cS3,r_callD,d52,hok,Bool.not_true,Bool.false_eq_true,if_false,r_bnd0,r_liti,r_add,hw]
   ·have hok':okS s=false:=by simpa using hok
    simp only [List.all_cons,hok',Bool.false_and,List.takeWhile_cons,Bool.false_eq_true,if_false,List.length_nil,Nat.add_zero]
    simp only [L89_0,r_ld0,r_lds,r_lss,hlt',decide_true,r_cond,if_true,rowS hi,cS0,cS1,cS2,cS3,r_callD,d52,hok',Bool.not_false,r_bnd0,r_out]
 obtain ⟨z,h1,h2⟩:=h89
 rw [F51]
 simp only [G51,r_call,h1,r_bnd0,r_ld0,r_liti,r_geq,h2,r_out]
theorem sc51 (o:Option (List Stk)) (hl:(o.getD []).length≤4611686018427387904):SC Tryz.prog 51 [.one (dS o),.one (.fn 52 [])] (.one (.d (bl (!(o.getD []).all okS)))) :=
 FnT_ok (P:=Tryz.prog) (T:=tb) mixP spOK 6 51 [.one,.one] [dS o,.fn 52 []] _ 0 [.d (bl (!(o.getD []).all okS))] [(false,[.d])] rfl rfl (s51 0 o hl) rfl
def prA (l:List Stk):List UInt8×Nat:=if l.length≤120∧l.all okS=true then (prt l,0) else ([],91)
theorem s24A (o:Option (List Stk)):FN 4 24 [dS o]=some (0,[.d (sd (prA (o.getD [])).1),.d (il (prA (o.getD [])).2)]):=by
 rw [s24 0 o];unfold prA;split<;>rfl
theorem sc24 (o:Option (List Stk)):SC Tryz.prog 24 [.one (dS o)] (.tup [.one (.d (sd (prA (o.getD [])).1)),.one (.d (il (prA (o.getD [])).2))]) :=
 FnT_ok (P:=Tryz.prog) (T:=tb) mixP spOK 4 24 [.one] [dS o] _ 0 [.d (sd (prA (o.getD [])).1),.d (il (prA (o.getD [])).2)] [(false,[.d]),(false,[.d])] rfl rfl (s24A o) rfl
theorem sc27 (o q:Option (List Stk)) (hl:(o.getD []).length≤4611686018427387904):SC Tryz.prog 27 [.one (dS o),.one (dS q)] (.one (.d (bl (decide (o.getD []=q.getD []))))) :=
 FnT_ok (P:=Tryz.prog) (T:=tb) mixP spOK 1 27 [.one,.one] [dS o,dS q] _ 0 [.d (bl (decide (o.getD []=q.getD [])))] [(false,[.d])] rfl rfl (s66 0 o q hl) rfl
end Go.VE
namespace Go.VE
open Go.RowKit Go.Proofs Go.Shelf
set_option maxRecDepth 100000
set_option maxHeartbeats 4000000
theorem cf_c (o:Option (List Stk)) (hl:(o.getD []).length≤4611686018427387904) (v:Value) (w:World) (U:Nat→Prop) (hU:∀ b,U b→b < w.heap.size) (hv:DR w U (dS o) v) :
  Calls Tryz.prog 51 #[v,.func (.func 52) #[] #[]] w fun e w'=>e=.returned (.bool (!(o.getD []).all okS))∧Below w.heap.size w w':=by
 refine ((sc51 o hl).2 w U _ hU ?_).mono ?_
 ·simp only [VDF,VDR]
  exact ⟨_,_,rfl,hv,_,_,rfl,⟨#[],rfl,by simp [FR]⟩,rfl⟩
 ·rintro e w' ⟨v,U',bs,rfl,hbe,_,_,_,_,hrv⟩
  simp only [RvR,RcR,DR,bl] at hrv
  obtain ⟨_,rfl,_⟩:=hrv
  exact ⟨rfl,hbe⟩
theorem RR_at {w:World} {U:Nat→Prop} {b:Nat}:∀ {l:List Stk} {o:Nat},RR w U b o 4 (l.map rS)→∀ (i:Nat) (s:Stk),l[i]?=some s →
  w.cell? ⟨b,o+i*4,none⟩=some (.int .i64 s.1)∧w.cell? ⟨b,o+i*4+1,none⟩=some (.int .i64 s.2.1)∧w.cell? ⟨b,o+i*4+2,none⟩=some (.int .i64 s.2.2.1)∧w.cell? ⟨b,o+i*4+3,none⟩=some (.int .i64 s.2.2.2)
 | [],_,_,i,s,h=>by simp at h
 | e::r,o,hr,0,s,h=>by
  simp only [List.getElem?_cons_zero,Option.some.injEq] at h
  subst h
  simp only [List.map_cons,RR,rS,CR,DR,il] at hr
  obtain ⟨_,⟨⟨_,h0,rfl,_⟩,⟨_,h1,rfl,_⟩,⟨_,h2,rfl,_⟩,⟨_,h3,rfl,_⟩,_⟩,_⟩:=hr
  simp only [Nat.zero_mul,Nat.add_zero]
  exact ⟨h0,h1,h2,h3⟩
 | e::r,o,hr,i+1,s,h=>by
  simp only [List.map_cons,RR] at hr
  have:=RR_at hr.2.2 i s (by simpa using h)
  rw [show o+(i+1)*4=o+4+i*4 by omega]
  exact this
theorem strC_app (a:List UInt8) (b:List UInt8):Lib.byteCells a++Lib.strCells ⟨b.toArray⟩=Lib.byteCells (a++b):=by
 simp [Lib.byteCells,Lib.strCells]
theorem line1 (f p n:Nat):lineOf (1,f,p,n)=rowLn tallyW [f,p,n]:=by simp [lineOf,nameOf,two2,rowLn,rowNs,dcN]
theorem line2 (f n:Nat) (p:Int):lineOf (2,f,p,n)=rowLn wantsW [f,n]:=by simp [lineOf,nameOf,two2,rowLn,rowNs,dcN]
theorem line3 (f p n:Nat):lineOf (3,f,p,n)=rowLn askedW [f,p,n]:=by simp [lineOf,nameOf,two2,rowLn,rowNs,dcN]
theorem line4 (f n:Nat) (p:Int):lineOf (4,f,p,n)=rowLn bellW [f,n]:=by simp [lineOf,nameOf,two2,rowLn,rowNs,dcN]
theorem prt_snoc (a:List Stk) (s:Stk):prt (a++[s])=prt a++lineOf s:=by simp [prt]
theorem prt_len:∀ {l:List Stk},l.all okS=true→(prt l).length≤24*l.length
 | [],_=>by simp [prt]
 | s::r,h=>by
  simp only [List.all_cons,Bool.and_eq_true] at h
  have h1:=lineOf_len h.1
  have h2:=prt_len h.2
  simp only [prt,List.flatMap_cons,List.length_append,List.length_cons] at h2 ⊢
  omega
theorem wr_len {a b:List UInt8} (ha:a.length≤2880) (hb:b.length≤24):(Lib.byteCells a).length+(⟨b.toArray⟩:ByteArray).size≤140737488355328:=by
 rw [bs_size];simp only [Lib.byteCells,List.length_map];omega
theorem below_a2 {w w2:World} {x y:Obj} (d:Below ((w.alloc x).alloc y).heap.size ((w.alloc x).alloc y) w2):Below w.heap.size w w2 :=
 (below_alloc2 w x y).trans (d.mono (below_alloc2 w x y).size)
theorem print_c (l:List Stk) (h120:l.length≤120) (hok:l.all okS=true) (hne:0 < l.length) (b o c:Nat) (w:World) (hL:Laid w) (hc:l.length≤c)
  (hcell:∀ (i:Nat) (s:Stk),l[i]?=some s→w.cell? ⟨b,o+i*4,none⟩=some (.int .i64 s.1)∧w.cell? ⟨b,o+i*4+1,none⟩=some (.int .i64 s.2.1)∧w.cell? ⟨b,o+i*4+2,none⟩=some (.int .i64 s.2.2.1)∧w.cell? ⟨b,o+i*4+3,none⟩=some (.int .i64 s.2.2.2))
  (hf:Calls Tryz.prog 51 #[.slice (some ⟨b,o,none⟩) l.length c,.func (.func 52) #[] #[]] w fun e w'=>e=.returned (.bool false)∧Below w.heap.size w w') :
  Calls Tryz.prog 23 #[.slice (some ⟨b,o,none⟩) l.length c] w fun e w'=>e=.returned (.tuple #[.string ⟨(prt l).toArray⟩,.int .i64 0])∧Below w.heap.size w w':=by
 have hgt:¬ (120:Int) < (l.length:Int):=by omega
 go_enter Tryz.func23,Tryz.ntmps23
 go_wp2_with (go_at_call 51;refine hf.mono ?_;rintro e w1 ⟨rfl,b1⟩)
 clear hf
 have k0:Lib.IsBuilderF 112 5 w1.heap.size w1.heap.size (Lib.byteCells []) (w1.alloc (.cells #[.pointer none,.slice none 0 0] 112)):=Lib.IsBuilderF.of (Lib.fresh_isBuilder 112 5 w1)
 have c0:Below w1.heap.size w1 (w1.alloc (.cells #[.pointer none,.slice none 0 0] 112)):=(Below.refl _ w1).alloc (Nat.le_refl _) _
 go_loopg [16] l.length (fun g z16 wr=>∃ i:Nat,z16=.int .i64 i∧i+g=l.length∧Lib.IsBuilderF 112 5 w1.heap.size w1.heap.size (Lib.byteCells (prt (l.take i))) wr∧Below w1.heap.size w1 wr)
 case atStart=>exact ⟨0,rfl,by omega,by simpa [prt] using k0,c0⟩
 case round =>
  obtain ⟨i,rfl,hg,hk,hb⟩:=hrel
  clear k0 c0
  by_cases hi:i < l.length
  ·have hb':Below w.heap.size w wr:=b1.trans (hb.mono b1.size)
   have hLr:Laid wr:=hL.below hb'
   obtain ⟨q0,q1,q2,q3⟩:=hcell i l[i] (List.getElem?_eq_getElem hi)
   replace q0:=(hb'.cell (cellLt q0)).trans q0
   replace q1:=(hb'.cell (cellLt q1)).trans q1
   replace q2:=(hb'.cell (cellLt q2)).trans q2
   replace q3:=(hb'.cell (cellLt q3)).trans q3
   have hoki:okS l[i]=true:=List.all_eq_true.1 hok _ (List.getElem_mem hi)
   have htk:l.take (i+1)=l.take i++[l[i]]:=by rw [List.take_add_one,List.getElem?_eq_getElem hi];rfl
   have hpi:(prt (l.take i)).length≤2880:=by
    have:=prt_len (l:=l.take i) (List.all_eq_true.2 fun x hx=>List.all_eq_true.1 hok x (List.mem_of_mem_take hx))
    have h2:(l.take i).length≤120:=by rw [List.length_take];omega
    omega
   obtain ⟨⟨k,f,p,n⟩,hs⟩:∃ s,l[i]=s:=⟨_,rfl⟩
   rw [hs] at q0 q1 q2 q3 hoki htk
   obtain ⟨h1,h2,h3,h4,_⟩:=okS_cases hoki
   simp only at q0 q1 q2 q3 h1 h2 h3 h4
   obtain ⟨f,rfl⟩:=Int.eq_ofNat_of_zero_le (show 0≤f by omega)
   obtain ⟨p,rfl⟩:=Int.eq_ofNat_of_zero_le (show 0≤p by omega)
   obtain ⟨n,rfl⟩:=Int.eq_ofNat_of_zero_le (show 0≤n by omega)
   have hf:f≤99999:=by omega
   have hp:p≤99999:=by omega
   have hn:n≤99999:=by omega
   obtain ⟨g,rfl⟩:∃ g,gk=g+1:=⟨gk - 1,by omega⟩
   have A:Aside (Below w1.heap.size w1 wr∧Below w.heap.size w wr∧l.take (i+1)=l.take i++[(k,(f:Int),(p:Int),(n:Int))]):=⟨hb,hb',htk⟩
   clear hb hb' htk hs hoki
   rcases h4 with rfl | rfl | rfl | rfl
   ·have hln:=rowLn_len (wd:=tallyW) (by decide) (zs:=[f,p,n]) (by intro z hz;simp at hz;omega) (by simp)
    go_wp2_with (go_at_call 55;refine (rowG3 tallyW f p n _ _ ?_ hf hp hn (by decide) (by simp [go_sem]) (by simp [go_sem]) (by simp [go_sem])).mono ?_;exact hLr.below (below_alloc2 _ _ _);rintro e w2 ⟨rfl,d2⟩)
    have e2:=below_a2 d2
    clear d2
    go_wp2_with (go_at_call 54;refine (wS w1.heap.size w1.heap.size _ _ w2 (blt_below hk e2) (wr_len hpi hln) (Nat.le_trans A.out.1.size e2.size)).mono ?_;rintro e w3 ⟨rfl,k3,d3⟩)
    obtain ⟨hb,hb',htk⟩:=A.out
    go_roundg g
    case measure=>omega
    case rel =>
     refine ⟨i+1,by simp,by omega,?_,(hb.trans (e2.mono hb.size)).trans d3⟩
     rw [htk,prt_snoc,line1,← strC_app]
     exact .inr k3
   ·have hln:=rowLn_len (wd:=wantsW) (by decide) (zs:=[f,n]) (by intro z hz;simp at hz;omega) (by simp)
    go_wp2_with (go_at_call 55;refine (rowG2 wantsW f n _ _ ?_ hf hn (by decide) (by simp [go_sem]) (by simp [go_sem])).mono ?_;exact hLr.below (below_alloc2 _ _ _);rintro e w2 ⟨rfl,d2⟩)
    have e2:=below_a2 d2
    clear d2
    go_wp2_with (go_at_call 54;refine (wS w1.heap.size w1.heap.size _ _ w2 (blt_below hk e2) (wr_len hpi hln) (Nat.le_trans A.out.1.size e2.size)).mono ?_;rintro e w3 ⟨rfl,k3,d3⟩)
    obtain ⟨hb,hb',htk⟩:=A.out
    go_roundg g
    case measure=>omega
    case rel =>
     refine ⟨i+1,by simp,by omega,?_,(hb.trans (e2.mono hb.size)).trans d3⟩
     rw [htk,prt_snoc,line2,← strC_app]
     exact .inr k3
   ·have hln:=rowLn_len (wd:=askedW) (by decide) (zs:=[f,p,n]) (by intro z hz;simp at hz;omega) (by simp)
    go_wp2_with (go_at_call 55;refine (rowG3 askedW f p n _ _ ?_ hf hp hn (by decide) (by simp [go_sem]) (by simp [go_sem]) (by simp [go_sem])).mono ?_;exact hLr.below (below_alloc2 _ _ _);rintro e w2 ⟨rfl,d2⟩)
    have e2:=below_a2 d2
    clear d2
    go_wp2_with (go_at_call 54;refine (wS w1.heap.size w1.heap.size _ _ w2 (blt_below hk e2) (wr_len hpi hln) (Nat.le_trans A.out.1.size e2.size)).mono ?_;rintro e w3 ⟨rfl,k3,d3⟩)
    obtain ⟨hb,hb',htk⟩:=A.out
    go_roundg g
    case measure=>omega
    case rel =>
     refine ⟨i+1,by simp,by omega,?_,(hb.trans (e2.mono hb.size)).trans d3⟩
     rw [htk,prt_snoc,line3,← strC_app]
     exact .inr k3
   ·have hln:=rowLn_len (wd:=bellW) (by decide) (zs:=[f,n]) (by intro z hz;simp at hz;omega) (by simp)
    go_wp2_with (go_at_call 55;refine (rowG2 bellW f n _ _ ?_ hf hn (by decide) (by simp [go_sem]) (by simp [go_sem])).mono ?_;exact hLr.below (below_alloc2 _ _ _);rintro e w2 ⟨rfl,d2⟩)
    have e2:=below_a2 d2
    clear d2
    go_wp2_with (go_at_call 54;refine (wS w1.heap.size w1.heap.size _ _ w2 (blt_below hk e2) (wr_len hpi hln) (Nat.le_trans A.out.1.size e2.size)).mono ?_;rintro e w3 ⟨rfl,k3,d3⟩)
    obtain ⟨hb,hb',htk⟩:=A.out
    go_roundg g
    case measure=>omega
    case rel =>
     refine ⟨i+1,by simp,by omega,?_,(hb.trans (e2.mono hb.size)).trans d3⟩
     rw [htk,prt_snoc,line4,← strC_app]
     exact .inr k3
  ·obtain rfl:i=l.length:=by omega
   rw [List.take_length] at hk
   go_wp2_with (go_at_call 56;refine (wStr w1.heap.size w1.heap.size (prt l) _ hk hb.size).mono ?_;rintro e w2 ⟨rfl,_,d2⟩)
   go_ret2
   exact ⟨rfl,b1.trans ((hb.trans d2).mono b1.size)⟩
theorem print_long (p:Option Addr) (n c:Nat) (w:World) (h:120 < n):Calls Tryz.prog 23 #[.slice p n c] w fun e w'=>e=.returned (.tuple #[.string ⟨([]:List UInt8).toArray⟩,.int .i64 91])∧w'=w:=by
 have hgt:(120:Int) < (n:Int):=by omega
 go_enter Tryz.func23,Tryz.ntmps23
 go_wp2
 go_ret2
 exact ⟨rfl,rfl⟩
theorem print_bad (p:Option Addr) (n c:Nat) (w:World) (h:n≤120) (hf:Calls Tryz.prog 51 #[.slice p n c,.func (.func 52) #[] #[]] w fun e w'=>e=.returned (.bool true)∧Below w.heap.size w w') :
  Calls Tryz.prog 23 #[.slice p n c] w fun e w'=>e=.returned (.tuple #[.string ⟨([]:List UInt8).toArray⟩,.int .i64 91])∧Below w.heap.size w w':=by
 have hgt:¬ (120:Int) < (n:Int):=by omega
 go_enter Tryz.func23,Tryz.ntmps23
 go_wp2_with (go_at_call 51;refine hf.mono ?_;rintro e w1 ⟨rfl,b1⟩)
 go_ret2
 exact ⟨rfl,b1⟩
theorem print_none (p:Option Addr) (c:Nat) (w:World) (hf:Calls Tryz.prog 51 #[.slice p 0 c,.func (.func 52) #[] #[]] w fun e w'=>e=.returned (.bool false)∧Below w.heap.size w w') :
  Calls Tryz.prog 23 #[.slice p 0 c] w fun e w'=>e=.returned (.tuple #[.string ⟨([]:List UInt8).toArray⟩,.int .i64 0])∧Below w.heap.size w w':=by
 go_enter Tryz.func23,Tryz.ntmps23
 go_wp2_with (go_at_call 51;refine hf.mono ?_;rintro e w1 ⟨rfl,b1⟩)
 have k0:Lib.IsBuilderF 112 5 w1.heap.size w1.heap.size (Lib.byteCells []) (w1.alloc (.cells #[.pointer none,.slice none 0 0] 112)):=Lib.IsBuilderF.of (Lib.fresh_isBuilder 112 5 w1)
 have c0:Below w1.heap.size w1 (w1.alloc (.cells #[.pointer none,.slice none 0 0] 112)):=(Below.refl _ w1).alloc (Nat.le_refl _) _
 refine wp_loop_rounds 1 ?_
 rw [rounds_succ]
 go_wp2_with (go_at_call 56;refine (wStr w1.heap.size w1.heap.size [] _ k0 c0.size).mono ?_;rintro e w2 ⟨rfl,_,d2⟩)
 go_ret2
 exact ⟨rfl,b1.trans ((c0.trans d2).mono b1.size)⟩
theorem prC (o:Option (List Stk)) (v:Value) (w:World) (hL:Laid w) (U:Nat→Prop) (hU:∀ b,U b→b < w.heap.size) (hv:DR w U (dS o) v) :
  Calls Tryz.prog 23 #[v] w fun e w'=>e=.returned (.tuple #[.string ⟨(prA (o.getD [])).1.toArray⟩,.int .i64 (prA (o.getD [])).2])∧Below w.heap.size w w':=by
 have hf:=fun hl=>cf_c o hl v w U hU hv
 obtain ⟨p,c,rfl,hc⟩:∃ p c,v=.slice p (o.getD []).length c∧(0 < (o.getD []).length→∃ b off,p=some ⟨b,off,none⟩∧(o.getD []).length≤c∧RR w U b off 4 ((o.getD []).map rS)):=by
  cases o with
  | none =>
   simp only [dS,dL,dSl,Option.map_none,DR] at hv
   exact ⟨none,0,hv.1,fun h=>by simp at h⟩
  | some l =>
   simp only [dS,dL,dSl,Option.map_some,DR] at hv
   obtain ⟨a,cap,rfl,h1,h2,h3⟩:=hv
   refine ⟨some a,cap,by simp,fun h=>?_⟩
   obtain ⟨b,off,rfl,_,hr⟩:=h3 (by simpa using h)
   exact ⟨b,off,rfl,by simpa using h1,hr⟩
 generalize o.getD []=l at hf hc ⊢
 by_cases h:l.length≤120
 ·have hf':=hf (by omega)
  by_cases hok:l.all okS=true
  ·rw [hok] at hf'
   have e:prA l=(prt l,0):=by rw [prA,if_pos ⟨h,hok⟩]
   rw [e]
   by_cases h0:0 < l.length
   ·obtain ⟨b,off,rfl,hlc,hr⟩:=hc h0
    exact print_c l h hok h0 b off c w hL hlc (RR_at hr) hf'
   ·have:l=[]:=by cases l with | nil=>rfl | cons a t=>simp at h0
    subst this
    exact print_none p c w hf'
  ·have hok':l.all okS=false:=by simpa using hok
   rw [hok'] at hf'
   have e:prA l=([],91):=by rw [prA,if_neg (fun h=>hok h.2)]
   rw [e]
   exact print_bad p l.length c w h hf'
 ·have e:prA l=([],91):=by rw [prA,if_neg (fun h'=>h h'.1)]
  rw [e]
  refine (print_long p l.length c w (by omega)).mono ?_
  rintro e w' ⟨rfl,rfl⟩
  exact ⟨rfl,Below.refl _ _⟩
end Go.VE
namespace Go.VE
open Go.RowKit Go.Proofs Go.Shelf
set_option maxRecDepth 100000
set_option maxHeartbeats 4000000
theorem atoi_max {l:List UInt8} {v:Int} (h:Lib.atoiAll l=.ok v):v≤9223372036854775807:=by
 unfold Lib.atoiAll at h
 split at h
 ·cases h
 ·rename_i c r
  simp only at h
  split at h
  ·cases h
  ·cases h
  ·rename_i u _
   split at h
   ·cases h
   ·split at h
    ·cases h
    ·rename_i h1 h2
     injection h with h
     subst h
     split<;>omega
theorem below_bytes (w:World) (t:ByteArray):Below w.heap.size w (Lib.bytesWorld w 5 t) :=
 ⟨rfl,rfl,rfl,by rw [Lib.bytesWorld_size];omega,fun k hk=>Lib.bytesWorld_at_old w 5 t k hk⟩
theorem below_or {w w1:World} (h:w1=w∨∃ t,w1=Lib.bytesWorld w 5 t):Below w.heap.size w w1:=by
 rcases h with rfl | ⟨t,rfl⟩
 ·exact Below.refl _ _
 ·exact below_bytes w t
abbrev wrongV:Value:=.iface 123 (.agg #[])
theorem num_c (s:List UInt8) (hs:s.length≤1000000) (w:World) (hL:Laid w):Calls Tryz.prog 96 #[.string ⟨s.toArray⟩] w fun e w'=>Below w.heap.size w w'∧(match numP s with
  | some n=>e=.returned (.int .i64 n)
  | none=>e=.panicked [{ v:=wrongV,recovered:=false }]):=by
 have hsz:=bs_size s
 rcases ha:Lib.atoiAll s with v | _ | _
 ·have hmx:=atoi_max ha
  have hat:=Tryz.strconv_Atoi_ok ⟨s.toArray⟩ (by rw [hsz];omega) v (by simpa using ha) w
  by_cases h0:v < 0
  ·have e:numP s=none:=by simp only [numP,ha];rw [if_pos (.inl h0)]
   rw [e]
   go_enter Tryz.func96,Tryz.ntmps96
   go_wp2_with (go_at_call 121;refine hat.mono ?_;rintro e w1 ⟨rfl,hw1⟩)
   exact ⟨rfl,below_or hw1,rfl⟩
  ·obtain ⟨n,rfl⟩:=Int.eq_ofNat_of_zero_le (show 0≤v by omega)
   by_cases h5:5 < s.length
   ·have e:numP s=none:=by simp only [numP,ha];rw [if_pos (.inr (.inl h5))]
    rw [e]
    have h5':(5:Int) < (s.length:Int):=by omega
    go_enter Tryz.func96,Tryz.ntmps96
    go_wp2_with (go_at_call 121;refine hat.mono ?_;rintro e w1 ⟨rfl,hw1⟩)
    exact ⟨rfl,below_or hw1,rfl⟩
   ·have h5':¬ (5:Int) < (s.length:Int):=by omega
    by_cases hd:Lib.decDigits n=s
    ·have e:numP s=some n:=by simp only [numP,ha];rw [if_neg (by simp [h5,hd])];simp
     rw [e]
     go_enter Tryz.func96,Tryz.ntmps96
     go_wp2_with (first
      | (go_at_call 121;refine hat.mono ?_;rintro e w1 ⟨rfl,hw1⟩)
      | (go_at_call 91;refine (itoaL n (by omega) _ ?_).mono ?_;exact hL.below (below_or hw1);rintro e w2 ⟨rfl,hw2⟩))
     go_ret
     exact ⟨(below_or hw1).trans (hw2.mono (below_or hw1).size),rfl⟩
    ·have e:numP s=none:=by simp only [numP,ha];rw [if_pos (by simp [hd])]
     rw [e]
     go_enter Tryz.func96,Tryz.ntmps96
     go_wp2_with (first
      | (go_at_call 121;refine hat.mono ?_;rintro e w1 ⟨rfl,hw1⟩)
      | (go_at_call 91;refine (itoaL n (by omega) _ ?_).mono ?_;exact hL.below (below_or hw1);rintro e w2 ⟨rfl,hw2⟩))
     ·exact ⟨rfl,(below_or hw1).trans (hw2.mono (below_or hw1).size),rfl⟩
     ·exfalso
      rename_i h
      simp [hd] at h
 ·have e:numP s=none:=by simp only [numP,ha]
  rw [e]
  obtain ⟨ev,h1,h2⟩:=hL.s
  have hat:=Tryz.strconv_Atoi_syntax ⟨s.toArray⟩ (by rw [hsz];omega) (by simpa using ha) ev w h1 h2
  go_enter Tryz.func96,Tryz.ntmps96
  go_wp2_with (go_at_call 121;refine hat.mono ?_;rintro e w1 ⟨N,rfl,-,-,hw1⟩)
  exact ⟨rfl,hw1,rfl⟩
 ·have e:numP s=none:=by simp only [numP,ha]
  rw [e]
  obtain ⟨ev,h1,h2⟩:=hL.r
  have hat:=Tryz.strconv_Atoi_range ⟨s.toArray⟩ (by rw [hsz];omega) (by simpa using ha) ev w h1 h2
  go_enter Tryz.func96,Tryz.ntmps96
  go_wp2_with (go_at_call 121;refine hat.mono ?_;rintro e w1 ⟨N,rfl,-,-,hw1⟩)
  exact ⟨rfl,hw1,rfl⟩
end Go.VE
