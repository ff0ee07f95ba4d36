/- The statement BookStrips: Thirds, CheckStrip and Mend agree with the specification, for any record, number and strips; the package-level variables that the card lists lie as the program's text lays them. -/
import Derived.Test.YtipddjojdgapiaaGreatDoorMg0
import Derived.Test.YtipddjojdgapiaaGreatDoorMg1
import Derived.Test.YtipddjojdgapiaaGreatDoorMg6
import Derived.Test.YtipddjojdgapiaaGreatDoorMh
namespace Go.VE
open Go.RowKit Go.Proofs
set_option maxRecDepth 1000000
set_option maxHeartbeats 0
def lsEq {α:Type} (e:α→α→Bool):List α→List α→Bool
 | [],[]=>true
 | a::l,b::r=>e a b&&lsEq e l r
 | _,_=>false
theorem lsEq_eq {α:Type} {e:α→α→Bool} (he:∀ a b,e a b=true→a=b):∀ {l r:List α},lsEq e l r=true→l=r
 | [],[],_=>rfl
 | a::l,b::r,h=>by
  simp only [lsEq,Bool.and_eq_true] at h
  rw [he a b h.1,lsEq_eq he h.2]
 | [],_::_,h=>by cases h
 | _::_,[],h=>by cases h
def dEq:Nat→D→D→Bool
 | _,.lit (.int .i64 a),.lit (.int .i64 b)=>decide (a=b)
 | _,.lit (.string a),.lit (.string b)=>decide (a.data.toList=b.data.toList)
 | _,.lit (.slice none 0 0),.lit (.slice none 0 0)=>true
 | n+1,.sl s r,.sl t q=>Nat.beq s t&&lsEq (lsEq (dEq n)) r q
 | _,_,_=>false
theorem dEq_eq:∀ (n:Nat) (a b:D),dEq n a b=true→a=b
 | n,a,b,h=>by
  unfold dEq at h
  split at h
  ·rw [decide_eq_true_eq] at h;rw [h]
  ·rename_i x y
   rw [decide_eq_true_eq] at h
   obtain ⟨⟨x⟩⟩:=x
   obtain ⟨⟨y⟩⟩:=y
   simp only at h
   rw [h]
  ·rfl
  ·rename_i m _ _ _ _
   simp only [Bool.and_eq_true] at h
   rw [Nat.eq_of_beq_eq_true h.1,lsEq_eq (fun _ _ h=>lsEq_eq (fun a b h=>dEq_eq m a b h) h) h.2]
  ·cases h
abbrev Ent:Type:=Nat×List D×List Yr
def tabS:List Ent:=[
 (80,[],[.d (il 2),.d (il 0),.d (il 5),.d (il 10),.d (il 12),.d (il 0),.d (il 0),.d (sD TK)]),
 (13,[il 2,il 0,il 5,il 10,il 12,il 0,il 0,sD TK,il 0],[.d (.sl 3 [[il 0,il 21,sD T0],[il 0,il 21,sD T1],[il 0,il 21,sD T2]]),.d (il 0)]),
 (15,[il 0,il 0,il 21,sD T0,il 2,il 0,il 21,sD T2],[.d (sD TX),.d (il 0)]),
 (15,[il 2,il 0,il 21,sD T2,il 1,il 0,il 21,sD T1],[.d (sD TX),.d (il 0)]),
 (15,[il 0,il 0,il 21,sD T0,il 0,il 0,il 21,sD T0],[.d (sD []),.d (il 1)]),
 (18,[il 0,il 0,il 21,sD T1],[.d (il 0)]),
 (18,[il 1,il 0,il 21,sD T0],[.d (il 84)]),
 (21,[.lit (.slice none 0 0),.lit (.slice none 0 0),.lit (.slice none 0 0),il 0,il 0,il 0,.lit (.slice none 0 0),il 2,il 0,il 5,il 10,il 12,il 0,il 0,sD TK],[.d (.sl 3 [[il 0,il 21,sD T0]]),.d (.sl 3 [[il 0,il 21,sD T1]]),.d (.sl 3 [[il 0,il 21,sD T2]]),.d (il 0),.d (il 0),.d (il 0),.d (.sl 8 [[il 2,il 0,il 5,il 10,il 12,il 0,il 0,sD TK]]),.d (il 0)]),
 (29,[.sl 3 [[il 0,il 21,sD T0]],.sl 3 [[il 0,il 21,sD T1]],.sl 3 [[il 0,il 21,sD T2]],il 0,il 0,il 0,.sl 1 [[il 3],[il 2],[il 0],[il 0],[il 0],[il 2],[il 0]]],[.d (.sl 3 [[il 0,il 21,sD T0]]),.d (.sl 3 []),.d (.sl 3 [[il 0,il 21,sD T2]]),.d (il 0),.d (il 0),.d (il 0)]),
 (23,[.sl 3 [[il 0,il 21,sD T0]],.sl 3 [],.sl 3 [[il 0,il 21,sD T2]],il 0,il 0,il 0],[.d (.sl 3 [[il 0,il 21,sD T0]]),.d (.sl 3 [[il 0,il 21,sD T1]]),.d (.sl 3 [[il 0,il 21,sD T2]]),.d (il 1),.d (il 1),.d (il 1),.d (.sl 8 [[il 2,il 0,il 5,il 10,il 12,il 0,il 0,sD TK]])]),
 (29,[.sl 3 [[il 0,il 21,sD T0]],.sl 3 [[il 0,il 21,sD T1]],.sl 3 [[il 0,il 21,sD T2]],il 0,il 0,il 0,.sl 1 [[il 3],[il 2],[il 0],[il 0],[il 0],[il 1],[il 4]]],[.d (.sl 3 [[il 0,il 21,sD T0]]),.d (.sl 3 []),.d (.sl 3 [[il 0,il 21,sD (T2.take 4)]]),.d (il 0),.d (il 0),.d (il 0)]),
 (23,[.sl 3 [[il 0,il 21,sD T0]],.sl 3 [],.sl 3 [[il 0,il 21,sD (T2.take 4)]],il 0,il 0,il 0],[.d (.lit (.slice none 0 0)),.d (.lit (.slice none 0 0)),.d (.lit (.slice none 0 0)),.d (il 0),.d (il 0),.d (il 0),.d (.lit (.slice none 0 0))]),
 (27,[.sl 3 [[il 0,il 21,sD T0]],.sl 3 [[il 0,il 21,sD T1]],.sl 3 [[il 0,il 21,sD T2]],il 0,il 0,il 0],[.d (.sl 3 [[il 0,il 21,sD T0]]),.d (.sl 3 [[il 0,il 21,sD T1]]),.d (.sl 3 [[il 0,il 21,sD T2]]),.d (il 1),.d (il 1),.d (il 1)]),
 (29,[.sl 3 [[il 0,il 21,sD T0]],.sl 3 [[il 0,il 21,sD T1]],.sl 3 [[il 0,il 21,sD T2]],il 1,il 1,il 1,.sl 1 [[il 1]]],[.d (.sl 3 [[il 0,il 21,sD T0]]),.d (.lit (.slice none 0 0)),.d (.sl 3 [[il 0,il 21,sD T2]]),.d (il 1),.d (il 0),.d (il 1)]),
 (23,[.sl 3 [[il 0,il 21,sD T0]],.lit (.slice none 0 0),.sl 3 [[il 0,il 21,sD T2]],il 1,il 0,il 1],[.d (.sl 3 [[il 0,il 21,sD T0]]),.d (.sl 3 [[il 0,il 21,sD T1]]),.d (.sl 3 [[il 0,il 21,sD T2]]),.d (il 1),.d (il 1),.d (il 1),.d (.sl 8 [[il 2,il 0,il 5,il 10,il 12,il 0,il 0,sD TK]])]),
 (37,[il 2],[.d (il 2),.d (.lit (.slice none 0 0)),.d (.lit (.slice none 0 0)),.d (.lit (.slice none 0 0)),.d (il 0),.d (il 0),.d (il 0),.d (.lit (.slice none 0 0)),.d (il 0),.d (il 0),.d (il 0),.d (il 0),.d (il 0),.d (il 0),.d (il 0),.d (il 0),.d (il 0),.d (il 0),.d (il 0),.d (il 0),.d (il 0),.d (il 0),.d (il 0),.d (il 0),.d (il 0),.d (il 0),.d (il 0),.d (il 0),.d (il 0),.d (il 0),.d (il 0),.d (il 0),.d (il 0),.d (il 0),.d (il 0),.d (il 0),.d (il 0),.d (il 0),.d (il 0),.d (il 0),.d (il 0),.d (il 0),.d (il 0),.d (il 0),.d (il 0)]),
 (39,[il 2,.lit (.slice none 0 0),.lit (.slice none 0 0),.lit (.slice none 0 0),il 0,il 0,il 0,.lit (.slice none 0 0),il 0,il 0,il 0,il 0,il 0,il 0,il 0,il 0,il 0,il 0,il 0,il 0,il 0,il 0,il 0,il 0,il 0,il 0,il 0,il 0,il 0,il 0,il 0,il 0,il 0,il 0,il 0,il 0,il 0,il 0,il 0,il 0,il 0,il 0,il 0,il 0,il 2,il 0,il 5,il 10,il 12,il 0,il 0,sD TK],[.d (il 2),.d (.sl 3 [[il 0,il 21,sD T0]]),.d (.sl 3 [[il 0,il 21,sD T1]]),.d (.sl 3 [[il 0,il 21,sD T2]]),.d (il 0),.d (il 0),.d (il 0),.d (.sl 8 [[il 2,il 0,il 5,il 10,il 12,il 0,il 0,sD TK]]),.d (il 0),.d (il 0),.d (il 0),.d (il 0),.d (il 0),.d (il 0),.d (il 0),.d (il 0),.d (il 0),.d (il 0),.d (il 0),.d (il 0),.d (il 0),.d (il 0),.d (il 0),.d (il 0),.d (il 0),.d (il 0),.d (il 0),.d (il 0),.d (il 0),.d (il 0),.d (il 0),.d (il 0),.d (il 0),.d (il 0),.d (il 0),.d (il 0),.d (il 0),.d (il 0),.d (il 0),.d (il 0),.d (il 0),.d (il 0),.d (il 0),.d (il 0),.d (il 2),.d (il 0),.d (il 5),.d (il 10),.d (il 12),.d (il 0),.d (il 0),.d (sD TK),.d (il 0)]),
 (41,[il 2,.sl 3 [[il 0,il 21,sD T0]],.sl 3 [[il 0,il 21,sD T1]],.sl 3 [[il 0,il 21,sD T2]],il 0,il 0,il 0,.sl 8 [[il 2,il 0,il 5,il 10,il 12,il 0,il 0,sD TK]],il 0,il 0,il 0,il 0,il 0,il 0,il 0,il 0,il 0,il 0,il 0,il 0,il 0,il 0,il 0,il 0,il 0,il 0,il 0,il 0,il 0,il 0,il 0,il 0,il 0,il 0,il 0,il 0,il 0,il 0,il 0,il 0,il 0,il 0,il 0,il 0,il 3,il 2],[.d (il 2),.d (.sl 3 [[il 0,il 21,sD T0]]),.d (.sl 3 [[il 0,il 21,sD T1]]),.d (.sl 3 [[il 0,il 21,sD T2]]),.d (il 1),.d (il 1),.d (il 1),.d (.sl 8 [[il 2,il 0,il 5,il 10,il 12,il 0,il 0,sD TK]]),.d (il 0),.d (il 0),.d (il 0),.d (il 0),.d (il 0),.d (il 0),.d (il 0),.d (il 0),.d (il 0),.d (il 0),.d (il 0),.d (il 0),.d (il 0),.d (il 0),.d (il 0),.d (il 0),.d (il 0),.d (il 0),.d (il 0),.d (il 0),.d (il 0),.d (il 0),.d (il 0),.d (il 0),.d (il 0),.d (il 0),.d (il 0),.d (il 0),.d (il 0),.d (il 0),.d (il 0),.d (il 0),.d (il 0),.d (il 0),.d (il 0),.d (il 0),.d (il 2),.d (il 3),.d (il 2),.d (il 1),.d (il 1),.d (.lit (.slice none 0 0)),.d (il 0)]),
 (37,[il 3],[.d (il 3),.d (.lit (.slice none 0 0)),.d (.lit (.slice none 0 0)),.d (.lit (.slice none 0 0)),.d (il 0),.d (il 0),.d (il 0),.d (.lit (.slice none 0 0)),.d (il 0),.d (il 0),.d (il 0),.d (il 0),.d (il 0),.d (il 0),.d (il 0),.d (il 0),.d (il 0),.d (il 0),.d (il 0),.d (il 0),.d (il 0),.d (il 0),.d (il 0),.d (il 0),.d (il 0),.d (il 0),.d (il 0),.d (il 0),.d (il 0),.d (il 0),.d (il 0),.d (il 0),.d (il 0),.d (il 0),.d (il 0),.d (il 0),.d (il 0),.d (il 0),.d (il 0),.d (il 0),.d (il 0),.d (il 0),.d (il 0),.d (il 0),.d (il 0)]),
 (43,[il 3,.lit (.slice none 0 0),.lit (.slice none 0 0),.lit (.slice none 0 0),il 0,il 0,il 0,.lit (.slice none 0 0),il 0,il 0,il 0,il 0,il 0,il 0,il 0,il 0,il 0,il 0,il 0,il 0,il 0,il 0,il 0,il 0,il 0,il 0,il 0,il 0,il 0,il 0,il 0,il 0,il 0,il 0,il 0,il 0,il 0,il 0,il 0,il 0,il 0,il 0,il 0,il 0,il 2,il 3,il 2,il 1,il 1,.lit (.slice none 0 0)],[.d (il 3),.d (.lit (.slice none 0 0)),.d (.lit (.slice none 0 0)),.d (.lit (.slice none 0 0)),.d (il 0),.d (il 0),.d (il 0),.d (.lit (.slice none 0 0)),.d (il 0),.d (il 0),.d (il 0),.d (il 0),.d (il 0),.d (il 0),.d (il 0),.d (il 0),.d (il 0),.d (il 0),.d (il 0),.d (il 0),.d (il 0),.d (il 0),.d (il 1),.d (il 0),.d (il 0),.d (il 0),.d (il 0),.d (il 0),.d (il 0),.d (il 0),.d (il 0),.d (il 0),.d (il 0),.d (il 0),.d (il 0),.d (il 0),.d (il 0),.d (il 0),.d (il 0),.d (il 0),.d (il 0),.d (il 0),.d (il 0),.d (il 0),.d (.sl 6 [[il 3,il 2,il 2,il 0,il 0,.lit (.slice none 0 0)]]),.d (il 0)]),
 (43,[il 2,.sl 3 [[il 0,il 21,sD T0]],.sl 3 [[il 0,il 21,sD T1]],.sl 3 [[il 0,il 21,sD T2]],il 1,il 1,il 1,.sl 8 [[il 2,il 0,il 5,il 10,il 12,il 0,il 0,sD TK]],il 0,il 0,il 0,il 0,il 0,il 0,il 0,il 0,il 0,il 0,il 0,il 0,il 0,il 0,il 0,il 0,il 0,il 0,il 0,il 0,il 0,il 0,il 0,il 0,il 0,il 0,il 0,il 0,il 0,il 0,il 0,il 0,il 0,il 0,il 0,il 0,il 3,il 2,il 2,il 0,il 0,.lit (.slice none 0 0)],[.d (il 2),.d (.sl 3 [[il 0,il 21,sD T0]]),.d (.sl 3 [[il 0,il 21,sD T1]]),.d (.sl 3 [[il 0,il 21,sD T2]]),.d (il 1),.d (il 1),.d (il 1),.d (.sl 8 [[il 2,il 0,il 5,il 10,il 12,il 0,il 0,sD TK]]),.d (il 0),.d (il 0),.d (il 0),.d (il 0),.d (il 0),.d (il 0),.d (il 0),.d (il 0),.d (il 0),.d (il 0),.d (il 0),.d (il 0),.d (il 0),.d (il 0),.d (il 0),.d (il 0),.d (il 0),.d (il 0),.d (il 0),.d (il 0),.d (il 0),.d (il 0),.d (il 0),.d (il 0),.d (il 0),.d (il 0),.d (il 0),.d (il 0),.d (il 0),.d (il 0),.d (il 0),.d (il 0),.d (il 0),.d (il 0),.d (il 0),.d (il 0),.d (.sl 6 [[il 2,il 3,il 2,il 1,il 0,.sl 8 [[il 2,il 0,il 5,il 10,il 12,il 0,il 0,sD TK]]]]),.d (il 0)]),
 (43,[il 3,.lit (.slice none 0 0),.lit (.slice none 0 0),.lit (.slice none 0 0),il 0,il 0,il 0,.lit (.slice none 0 0),il 0,il 0,il 0,il 0,il 0,il 0,il 0,il 0,il 0,il 0,il 0,il 0,il 0,il 0,il 1,il 0,il 0,il 0,il 0,il 0,il 0,il 0,il 0,il 0,il 0,il 0,il 0,il 0,il 0,il 0,il 0,il 0,il 0,il 0,il 0,il 0,il 2,il 3,il 2,il 1,il 0,.sl 8 [[il 2,il 0,il 5,il 10,il 12,il 0,il 0,sD TK]]],[.d (il 3),.d (.sl 3 [[il 0,il 21,sD T0]]),.d (.sl 3 [[il 0,il 21,sD T1]]),.d (.sl 3 [[il 0,il 21,sD T2]]),.d (il 1),.d (il 1),.d (il 1),.d (.sl 8 [[il 2,il 0,il 5,il 10,il 12,il 0,il 0,sD TK]]),.d (il 0),.d (il 0),.d (il 0),.d (il 0),.d (il 0),.d (il 0),.d (il 0),.d (il 0),.d (il 0),.d (il 0),.d (il 0),.d (il 0),.d (il 0),.d (il 0),.d (il 1),.d (il 0),.d (il 0),.d (il 0),.d (il 0),.d (il 0),.d (il 0),.d (il 0),.d (il 0),.d (il 0),.d (il 0),.d (il 0),.d (il 0),.d (il 0),.d (il 0),.d (il 0),.d (il 0),.d (il 0),.d (il 0),.d (il 0),.d (il 0),.d (il 0),.d (.lit (.slice none 0 0)),.d (il 0)])]
noncomputable def allT:List Ent→Prop
 | []=>True
 | e::r=>FN 14 e.1 e.2.1=some (0,e.2.2)∧allT r
theorem allT_mem:∀ {l:List Ent} {e:Ent},allT l→e∈l→FN 14 e.1 e.2.1=some (0,e.2.2)
 | x::r,e,h,he=>by
  rcases List.mem_cons.1 he with rfl | he
  ·exact h.1
  ·exact allT_mem h.2 he
theorem tab_ok:allT tabS:=⟨ve80,ve13,ve15a,ve15b,ve15c,ve18a,ve18b,ve21,ve29a,ve23a,ve29b,ve23b,ve27,ve29c,ve23c,ve37a,ve39,ve41,ve37b,ve43a,ve43b,ve43c,trivial⟩
def FnC (f:Nat) (xs:List D):Out:=match tabS.find? fun e=>Nat.beq e.1 f&&lsEq (dEq 4) e.2.1 xs with
 | some e=>some (0,e.2.2)
 | none=>none
theorem FnC_FN {f:Nat} {xs:List D} {o:Nat×List Yr} (h:FnC f xs=some o):FN 14 f xs=some o:=by
 unfold FnC at h
 split at h
 ·rename_i e he
  have h1:=List.find?_some he
  simp only [Bool.and_eq_true] at h1
  have h2:=allT_mem tab_ok (List.mem_of_find?_eq_some he)
  rw [Nat.eq_of_beq_eq_true h1.1,lsEq_eq (fun a b h=>dEq_eq 4 a b h) h1.2] at h2
  rw [h2,h]
 ·cases h
theorem FnC_ok:FnOK Tryz.prog (cf3 tb Tryz.prog) FnC:=fun f sh xs vs j ys rs h1 h2 h3 h4=>FN_ok 14 f sh xs vs j ys rs h1 h2 (FnC_FN h3) h4
theorem FnC_okM:FmOK Tryz.prog (cf3 tb Tryz.prog) FnC:=fun f ms xs zs h1 h2=>FN_okM 14 f ms xs zs h1 (FnC_FN h2)
theorem g20:G20 (real FnC (FnDof Tryz.prog (cf3 tb Tryz.prog) FnC) M0)=some (0,[.d (bl true)]):=by kernel_rfl
theorem sane_sc:SC Tryz.prog 20 [] (.one (.d (bl true))) :=
 fun3_sc (T:=tb) (P:=Tryz.prog) mixP FnC_ok FnC_okM spOK (fuel:=400) (m0:=M0) (xs:=[]) (j:=0) (ys:=[.d (bl true)]) (rs:=[(false,[.d])]) (by rw [prR];exact (G20_eq _).trans g20) (by decide) (sh:=[]) rfl rfl rfl
end Go.VE
namespace Go.VE
open Go.RowKit Go.Proofs
set_option maxRecDepth 100000
theorem o3 {n:Nat} {ds:List D} (h:HasT Tryz.prog (n+1) 3 ds):∃ z,ds=[il z]∧-9223372036854775808≤z∧z≤9223372036854775807:=h.int Tryz.underlying3
theorem o9 {n:Nat} {ds:List D} (h:HasT Tryz.prog (n+1) 9 ds):∃ s,ds=[sD s]∧s.length≤140737488351232:=by
 obtain ⟨s,rfl,hs⟩:=HasT.str Tryz.underlying9 h
 refine ⟨s.data.toList,?_,?_⟩
 ·show _=[D.lit (.string ⟨s.data.toList.toArray⟩)]
  rw [←hk_list s]
 ·have e:s.data.toList.length=s.size:=by simp only [Array.length_toList];rfl
  rw [e];exact hs
theorem o23 {n:Nat} {ds:List D} (h:HasT Tryz.prog (n+2) 23 ds):∃ a b,ds=[il a,il b]:=by
 obtain ⟨_,_,rfl,h1,_,_,rfl,h2,rfl⟩:=h.struct Tryz.underlying23 rfl
 obtain ⟨x,rfl,_⟩:=o3 h1
 obtain ⟨y,rfl,_⟩:=o3 h2
 exact ⟨x,y,rfl⟩
theorem o25 {n:Nat} {ds:List D} (h:HasT Tryz.prog (n+3) 25 ds):∃ r:Rec,ds=recR r∧r.tx.length≤140737488351232:=by
 obtain ⟨_,_,rfl,h1,_,_,rfl,h2,_,_,rfl,h3,_,_,rfl,h4,_,_,rfl,h5,_,_,rfl,h6,rfl⟩:=h.struct Tryz.underlying25 rfl
 obtain ⟨a,b,rfl⟩:=o23 h1
 obtain ⟨c,rfl,_⟩:=o3 h2
 obtain ⟨d,rfl,_⟩:=o3 h3
 obtain ⟨e,rfl,_⟩:=o3 h4
 obtain ⟨f,g,rfl⟩:=o23 h5
 obtain ⟨t,rfl,ht⟩:=o9 h6
 exact ⟨⟨a,b,c,d,e,f,g,t⟩,rfl,ht⟩
theorem o27 {n:Nat} {ds:List D} (h:HasT Tryz.prog (n+2) 27 ds):∃ s:Strp,ds=spR s∧s.tx.length≤140737488351232:=by
 obtain ⟨_,_,rfl,h1,_,_,rfl,h2,_,_,rfl,h3,rfl⟩:=h.struct Tryz.underlying27 rfl
 obtain ⟨a,rfl,_⟩:=o3 h1
 obtain ⟨b,rfl,_⟩:=o3 h2
 obtain ⟨t,rfl,ht⟩:=o9 h3
 exact ⟨⟨a,b,t⟩,rfl,ht⟩
theorem o29 {n:Nat} {ds:List D} (h:HasT Tryz.prog (n+3) 29 ds):∃ q o,∃ s t:Strp,ds=[il q,il o]++spR s++spR t∧s.tx.length≤140737488351232∧t.tx.length≤140737488351232:=by
 obtain ⟨_,_,rfl,h1,_,_,rfl,h2,_,_,rfl,h3,_,_,rfl,h4,rfl⟩:=h.struct Tryz.underlying29 rfl
 obtain ⟨a,rfl,_⟩:=o3 h1
 obtain ⟨b,rfl,_⟩:=o3 h2
 obtain ⟨s,rfl,hs⟩:=o27 h3
 obtain ⟨t,rfl,ht⟩:=o27 h4
 exact ⟨a,b,s,t,rfl,hs,ht⟩
noncomputable def FnS (n:Nat) (f:Nat) (xs:List D):Out:=if f=20∧xs=[] then some (0,[.d (bl true)]) else FN n f xs
theorem FnS_ok (n:Nat):FnOK Tryz.prog (cf3 tb Tryz.prog) (FnS n):=by
 intro f sh xs vs j ys rs h1 h2 h3 h4
 unfold FnS at h3
 split at h3
 ·rename_i hc
  obtain ⟨rfl,rfl⟩:=hc
  simp only [Option.some.injEq,Prod.mk.injEq] at h3
  obtain ⟨rfl,rfl⟩:=h3
  have e1:(cf3 tb Tryz.prog).ash 20=some []:=rfl
  rw [e1] at h1
  cases h1
  cases h2
  have e2:((cf3 tb Tryz.prog).rsk 20)[0]?=some [(false,[.d])]:=rfl
  rw [e2] at h4
  cases h4
  exact sane_sc
 ·exact FN_ok n f sh xs vs j ys rs h1 h2 h3 h4
theorem FnS_20 (n:Nat):FnS n 20 []=some (0,[.d (bl true)]):=by simp [FnS]
theorem FnS_ne {n f:Nat} {xs:List D} {o:Out} (h:FN n f xs=o) (hf:f≠20):FnS n f xs=o:=by rw [←h];simp [FnS,hf]
theorem FnS_okM (n:Nat):FmOK Tryz.prog (cf3 tb Tryz.prog) (FnS n):=fun f ms xs zs h1 h2=>by
 rw [FnS_ne rfl (by omega)] at h2
 exact FN_okM n f ms xs zs h1 h2
end Go.VE
namespace Go.VE
open Go.RowKit Go.Proofs
set_option maxRecDepth 100000
def thr (r:Rec) (no:Int):Option (List Strp)×Int:=if okR r=true then (if inZ no 0 59=true then (some [spZ no (txt r) 0,spZ no (txt r) 1,spZ no (txt r) 2],0) else (none,1)) else (none,80)
theorem thr_len (r:Rec) (no:Int):((thr r no).1.getD []).length≤3:=by
 unfold thr
 split
 ·split<;>simp
 ·simp
theorem thr_Y (r:Rec) (no:Int):(if okR r=true then (if inZ no 0 59=true then [.d (dP (some [spZ no (txt r) 0,spZ no (txt r) 1,spZ no (txt r) 2])),.d (il 0)] else [.d (.lit (.slice none 0 0)),.d (il 1)]) else [.d (.lit (.slice none 0 0)),.d (il 80)]:List Yr)=[.d (dP (thr r no).1),.d (il (thr r no).2)]:=by
 unfold thr
 split
 ·split<;>rfl
 ·rfl
theorem lawStrips {Fn:Nat→List D→Out} {FnD:D→List Sh→List D→Out} {r:Rec} {no q o:Int} {s t:Strp} (h20:Fn 20 []=some (0,[.d (bl true)]))
  (h13:Fn 13 (recR r++[il no])=some (0,[.d (dP (thr r no).1),.d (il (thr r no).2)])) (h14:Fn 14 (recR r++[il no])=some (0,[.d (dP (thr r no).1),.d (il (thr r no).2)]))
  (h15:Fn 15 [il q,il s.no,il s.sz,sD s.tx,il o,il t.no,il t.sz,sD t.tx]=some (0,[.d (sD (mendZ q s o t).1),.d (il (mendZ q s o t).2)]))
  (h16:Fn 16 [il q,il s.no,il s.sz,sD s.tx,il o,il t.no,il t.sz,sD t.tx]=some (0,[.d (sD (mendZ q s o t).1),.d (il (mendZ q s o t).2)]))
  (h17:∀ a b:Option (List Strp),(a.getD []).length≤4611686018427387904→Fn 17 [dP a,dP b]=some (0,[.d (bl (decide (a.getD []=b.getD [])))])) (z:Int)
  (h18:Fn 18 [il q,il s.no,il s.sz,sD s.tx]=some (0,[.d (il z)])) (h19:Fn 19 [il q,il s.no,il s.sz,sD s.tx]=some (0,[.d (il z)])) :
  G3 (real Fn FnD M0) (il r.p) (il r.no) (il r.kd) (il r.dy) (il r.kn) (il r.op) (il r.on) (sD r.tx) (il no) (il q) (il o) (il s.no) (il s.sz) (sD s.tx) (il t.no) (il t.sz) (sD t.tx)=some (0,[.d (bl true)]):=by
 have hl:=thr_len r no
 simp only [recR,List.cons_append,List.nil_append] at h13 h14
 simp only [G3,r_call,h13,h14,h15,h16,r_bnd0,r_ld0,r_lds,h17 _ _ (show ((thr r no).1.getD []).length≤4611686018427387904 by omega),decide_true,r_cond,if_true,r_eql,r_eqlSs,h18,h19,h20,r_out]
theorem bookStrips_sc (vds:List VD) (h:VTs Tryz.prog 8 [25,3,29] vds):SC Tryz.prog 3 vds (.one (.d (bl true))):=by
 obtain ⟨_,_,rfl,h1,h⟩:=VTs_cons h
 obtain ⟨_,_,rfl,h2,h⟩:=VTs_cons h
 obtain ⟨_,_,rfl,h3,h⟩:=VTs_cons h
 cases VTs_nil h
 obtain ⟨_,rfl,k1⟩:=h1.agg_ Tryz.underlying25
 obtain ⟨_,rfl,k2⟩:=h2.int_ Tryz.underlying3
 obtain ⟨_,rfl,k3⟩:=h3.agg_ Tryz.underlying29
 obtain ⟨r,rfl,hr⟩:=o25 k1
 obtain ⟨no,e2,_⟩:=o3 k2
 cases e2
 obtain ⟨q,o,s,t,rfl,_,_⟩:=o29 k3
 refine lawSC (T:=tb) (fuel:=400) (m0:=M0) (xs:=[il r.p,il r.no,il r.kd,il r.dy,il r.kn,il r.op,il r.on,sD r.tx,il no,il q,il o,il s.no,il s.sz,sD s.tx,il t.no,il t.sz,sD t.tx]) mixP (FnS_ok 20) (FnS_okM 20) spOK (by decide) (sh:=[.agg 8,.one,.agg 8]) rfl rfl rfl ?_
 rw [G3_eq]
 exact lawStrips (FnS_20 20) (FnS_ne ((s13 14 r no).trans (by rw [thr_Y])) (by decide)) (FnS_ne ((s14 13 r no).trans (by rw [thr_Y])) (by decide)) (FnS_ne (s15 17 q s o t) (by decide)) (FnS_ne (s16 17 q s o t) (by decide)) (fun a b h=>FnS_ne (s17 19 a b h) (by decide)) _ (FnS_ne (s18 17 q s) (by decide)) (FnS_ne (s19 17 q s) (by decide))
end Go.VE
namespace Go.Proofs.YtipddjojdgapiaaGreatDoor
open Go.VE Go.RowKit Go.ChangeShapes Go.WideShapes
set_option maxRecDepth 100000
theorem bookStrips_lifted (os:Os) (started:os.Started) (H:Type) (enc:TypeId×Value→H) :
  ReturnsInHanded {} Tryz.checked os 3 .any (fun w args=>(Rows.bookStripsSpec.pre enc Tryz.prog Tryz.f3 [] false w args∧laidMetH Tryz.prog laid5 w)∧sizedMet enc Tryz.prog Tryz.f3 (OpenSpec.ofChange Rows.bookStripsSpec) false w args) (Rows.bookStripsSpec.post enc Tryz.prog Tryz.f3 false true false false) :=
 lawInY (C:=Tryz.checked) (n:=8) (tb:=4) (X:=fun w _=>laidMetH Tryz.prog laid5 w) (fun _ _ _ hh h=>h.of_heap hh) own started (by kernel_rfl) Tryz.func3
  (ChangeSpec.witness_shaped (enc:=enc) (C:=Tryz.checked) (os:=os) (X:=fun w _=>laidMetH Tryz.prog laid5 w) false (World.laidAll Tryz.prog os laid5) #[.agg #[.int .i64 0,.int .i64 0,.int .i64 0,.int .i64 0,.int .i64 0,.int .i64 0,.int .i64 0,.string ⟨#[]⟩],.int .i64 0,.agg #[.int .i64 0,.int .i64 0,.int .i64 0,.int .i64 0,.string ⟨#[]⟩,.int .i64 0,.int .i64 0,.string ⟨#[]⟩]] 8 rfl (World.shaped_of_ZipB (by kernel_rfl) (by kernel_rfl)) (by kernel_rfl) (by kernel_rfl) (by kernel_rfl) (door_met os _))
  laidOut (by kernel_rfl) (by kernel_rfl) Tryz.underlying4 rfl
  (fun ds hd=>by
   rw [show Tryz.f3.params.toList=[25,3,29] by kernel_rfl] at hd
   match ds,hd with
   | [a,b,c],_=>rfl)
  (fun W args vds hsh hX h hv=>calls_of (bookStrips_sc vds (by
   have e:Tryz.f3.params.toList=[25,3,29]:=by kernel_rfl
   rw [e] at h;exact h)) hsh hX hv)
theorem bookStrips_row:Rows.BookStripsSaid :=
 OpenClaim.holds_of_wide 3 Tryz.f3 rfl rfl rfl rfl rfl rfl rfl ⟨rfl,rfl,rfl,rfl,rfl⟩ rfl rfl rfl rfl rfl (by kernel_rfl) Tryz.func3 (by kernel_rfl)
  (of_decide_eq_true (by kernel_rfl)) (by unfold Func.isWrapper;first | (rw [if_pos (by decide +kernel)];kernel_rfl) | (rw [if_neg (by decide +kernel)];exact ⟨rfl,rfl⟩))
  (fun os started H enc _=>bookStrips_lifted os started H enc)
theorem bookStrips_holds:Rows.BookStripsCardSaid :=
 Claim7.holds_tied_plain_at .later [] [.data,.data,.data,.sentinel,.sentinel] true (true, "d6cf3fcbdfa60de4d88a7efdcb7981466a561c4e3c6cf77be3be945176882af7") true
  bookStrips_row (fun _ h=>by cases h) (by kernel_rfl) (fun _ h=>by cases h) bookStrips_row_tie rfl ⟨rfl,rfl⟩ (by kernel_rfl) rfl
  (fun f fn hf hfn=>by
   obtain rfl:f=3:=Option.some.inj ((show Tryz.prog.funcNamed "leazing/leazinglaw08.BookStrips" = some 3 by kernel_rfl).symm.trans hf) |>.symm
   obtain rfl:fn=Tryz.f3:=(Option.some.inj (Tryz.func3.symm.trans hfn)).symm
   exact ⟨by kernel_rfl,fun j t ht=>by
    rw [Tryz.params3] at ht
    have hm:t∈[25,3,29]:=by simpa using Array.mem_of_getElem? ht
    have hall:([25,3,29].all fun u=>!Tryz.prog.wantsStandIn u)=true:=by kernel_rfl
    exact (show Tryz.prog.wantsStandIn t=false by simpa using List.all_eq_true.1 hall t hm)⟩)
  (by kernel_rfl)
#print axioms bookStrips_holds
end Go.Proofs.YtipddjojdgapiaaGreatDoor
