/- The statement BookTexts: CheckRecord, Encode and Decode agree with the specification, for any record and text; Decode of Encode returns the record, and Encode of Decode the text; the package-level variables that the card lists lie as the program's text lays them. -/
import Derived.Test.YtipddjojdgapiaaGreatDoorMg0
import Derived.Test.YtipddjojdgapiaaGreatDoorMg1
import Derived.Test.YtipddjojdgapiaaGreatDoorMg5
import Derived.Test.YtipddjojdgapiaaGreatDoorMh
namespace Go.VE
open Go.RowKit Go.Proofs
set_option maxRecDepth 1000000
set_option maxHeartbeats 0
def lsEq {α:Type} (e:α→α→Bool):List α→List α→Bool
 | [],[]=>true
 | a::l,b::r=>e a b&&lsEq e l r
 | _,_=>false
theorem lsEq_eq {α:Type} {e:α→α→Bool} (he:∀ a b,e a b=true→a=b):∀ {l r:List α},lsEq e l r=true→l=r
 | [],[],_=>rfl
 | a::l,b::r,h=>by
  simp only [lsEq,Bool.and_eq_true] at h
  rw [he a b h.1,lsEq_eq he h.2]
 | [],_::_,h=>by cases h
 | _::_,[],h=>by cases h
def dEq:Nat→D→D→Bool
 | _,.lit (.int .i64 a),.lit (.int .i64 b)=>decide (a=b)
 | _,.lit (.string a),.lit (.string b)=>decide (a.data.toList=b.data.toList)
 | _,.lit (.slice none 0 0),.lit (.slice none 0 0)=>true
 | n+1,.sl s r,.sl t q=>Nat.beq s t&&lsEq (lsEq (dEq n)) r q
 | _,_,_=>false
theorem dEq_eq:∀ (n:Nat) (a b:D),dEq n a b=true→a=b
 | n,a,b,h=>by
  unfold dEq at h
  split at h
  ·rw [decide_eq_true_eq] at h;rw [h]
  ·rename_i x y
   rw [decide_eq_true_eq] at h
   obtain ⟨⟨x⟩⟩:=x
   obtain ⟨⟨y⟩⟩:=y
   simp only at h
   rw [h]
  ·rfl
  ·rename_i m _ _ _ _
   simp only [Bool.and_eq_true] at h
   rw [Nat.eq_of_beq_eq_true h.1,lsEq_eq (fun _ _ h=>lsEq_eq (fun a b h=>dEq_eq m a b h) h) h.2]
  ·cases h
abbrev Ent:Type:=Nat×List D×List Yr
def tabS:List Ent:=[
 (80,[],[.d (il 2),.d (il 0),.d (il 5),.d (il 10),.d (il 12),.d (il 0),.d (il 0),.d (sD TK)]),
 (13,[il 2,il 0,il 5,il 10,il 12,il 0,il 0,sD TK,il 0],[.d (.sl 3 [[il 0,il 21,sD T0],[il 0,il 21,sD T1],[il 0,il 21,sD T2]]),.d (il 0)]),
 (15,[il 0,il 0,il 21,sD T0,il 2,il 0,il 21,sD T2],[.d (sD TX),.d (il 0)]),
 (15,[il 2,il 0,il 21,sD T2,il 1,il 0,il 21,sD T1],[.d (sD TX),.d (il 0)]),
 (15,[il 0,il 0,il 21,sD T0,il 0,il 0,il 21,sD T0],[.d (sD []),.d (il 1)]),
 (18,[il 0,il 0,il 21,sD T1],[.d (il 0)]),
 (18,[il 1,il 0,il 21,sD T0],[.d (il 84)]),
 (21,[.lit (.slice none 0 0),.lit (.slice none 0 0),.lit (.slice none 0 0),il 0,il 0,il 0,.lit (.slice none 0 0),il 2,il 0,il 5,il 10,il 12,il 0,il 0,sD TK],[.d (.sl 3 [[il 0,il 21,sD T0]]),.d (.sl 3 [[il 0,il 21,sD T1]]),.d (.sl 3 [[il 0,il 21,sD T2]]),.d (il 0),.d (il 0),.d (il 0),.d (.sl 8 [[il 2,il 0,il 5,il 10,il 12,il 0,il 0,sD TK]]),.d (il 0)]),
 (29,[.sl 3 [[il 0,il 21,sD T0]],.sl 3 [[il 0,il 21,sD T1]],.sl 3 [[il 0,il 21,sD T2]],il 0,il 0,il 0,.sl 1 [[il 3],[il 2],[il 0],[il 0],[il 0],[il 2],[il 0]]],[.d (.sl 3 [[il 0,il 21,sD T0]]),.d (.sl 3 []),.d (.sl 3 [[il 0,il 21,sD T2]]),.d (il 0),.d (il 0),.d (il 0)]),
 (23,[.sl 3 [[il 0,il 21,sD T0]],.sl 3 [],.sl 3 [[il 0,il 21,sD T2]],il 0,il 0,il 0],[.d (.sl 3 [[il 0,il 21,sD T0]]),.d (.sl 3 [[il 0,il 21,sD T1]]),.d (.sl 3 [[il 0,il 21,sD T2]]),.d (il 1),.d (il 1),.d (il 1),.d (.sl 8 [[il 2,il 0,il 5,il 10,il 12,il 0,il 0,sD TK]])]),
 (29,[.sl 3 [[il 0,il 21,sD T0]],.sl 3 [[il 0,il 21,sD T1]],.sl 3 [[il 0,il 21,sD T2]],il 0,il 0,il 0,.sl 1 [[il 3],[il 2],[il 0],[il 0],[il 0],[il 1],[il 4]]],[.d (.sl 3 [[il 0,il 21,sD T0]]),.d (.sl 3 []),.d (.sl 3 [[il 0,il 21,sD (T2.take 4)]]),.d (il 0),.d (il 0),.d (il 0)]),
 (23,[.sl 3 [[il 0,il 21,sD T0]],.sl 3 [],.sl 3 [[il 0,il 21,sD (T2.take 4)]],il 0,il 0,il 0],[.d (.lit (.slice none 0 0)),.d (.lit (.slice none 0 0)),.d (.lit (.slice none 0 0)),.d (il 0),.d (il 0),.d (il 0),.d (.lit (.slice none 0 0))]),
 (27,[.sl 3 [[il 0,il 21,sD T0]],.sl 3 [[il 0,il 21,sD T1]],.sl 3 [[il 0,il 21,sD T2]],il 0,il 0,il 0],[.d (.sl 3 [[il 0,il 21,sD T0]]),.d (.sl 3 [[il 0,il 21,sD T1]]),.d (.sl 3 [[il 0,il 21,sD T2]]),.d (il 1),.d (il 1),.d (il 1)]),
 (29,[.sl 3 [[il 0,il 21,sD T0]],.sl 3 [[il 0,il 21,sD T1]],.sl 3 [[il 0,il 21,sD T2]],il 1,il 1,il 1,.sl 1 [[il 1]]],[.d (.sl 3 [[il 0,il 21,sD T0]]),.d (.lit (.slice none 0 0)),.d (.sl 3 [[il 0,il 21,sD T2]]),.d (il 1),.d (il 0),.d (il 1)]),
 (23,[.sl 3 [[il 0,il 21,sD T0]],.lit (.slice none 0 0),.sl 3 [[il 0,il 21,sD T2]],il 1,il 0,il 1],[.d (.sl 3 [[il 0,il 21,sD T0]]),.d (.sl 3 [[il 0,il 21,sD T1]]),.d (.sl 3 [[il 0,il 21,sD T2]]),.d (il 1),.d (il 1),.d (il 1),.d (.sl 8 [[il 2,il 0,il 5,il 10,il 12,il 0,il 0,sD TK]])]),
 (37,[il 2],[.d (il 2),.d (.lit (.slice none 0 0)),.d (.lit (.slice none 0 0)),.d (.lit (.slice none 0 0)),.d (il 0),.d (il 0),.d (il 0),.d (.lit (.slice none 0 0)),.d (il 0),.d (il 0),.d (il 0),.d (il 0),.d (il 0),.d (il 0),.d (il 0),.d (il 0),.d (il 0),.d (il 0),.d (il 0),.d (il 0),.d (il 0),.d (il 0),.d (il 0),.d (il 0),.d (il 0),.d (il 0),.d (il 0),.d (il 0),.d (il 0),.d (il 0),.d (il 0),.d (il 0),.d (il 0),.d (il 0),.d (il 0),.d (il 0),.d (il 0),.d (il 0),.d (il 0),.d (il 0),.d (il 0),.d (il 0),.d (il 0),.d (il 0),.d (il 0)]),
 (39,[il 2,.lit (.slice none 0 0),.lit (.slice none 0 0),.lit (.slice none 0 0),il 0,il 0,il 0,.lit (.slice none 0 0),il 0,il 0,il 0,il 0,il 0,il 0,il 0,il 0,il 0,il 0,il 0,il 0,il 0,il 0,il 0,il 0,il 0,il 0,il 0,il 0,il 0,il 0,il 0,il 0,il 0,il 0,il 0,il 0,il 0,il 0,il 0,il 0,il 0,il 0,il 0,il 0,il 2,il 0,il 5,il 10,il 12,il 0,il 0,sD TK],[.d (il 2),.d (.sl 3 [[il 0,il 21,sD T0]]),.d (.sl 3 [[il 0,il 21,sD T1]]),.d (.sl 3 [[il 0,il 21,sD T2]]),.d (il 0),.d (il 0),.d (il 0),.d (.sl 8 [[il 2,il 0,il 5,il 10,il 12,il 0,il 0,sD TK]]),.d (il 0),.d (il 0),.d (il 0),.d (il 0),.d (il 0),.d (il 0),.d (il 0),.d (il 0),.d (il 0),.d (il 0),.d (il 0),.d (il 0),.d (il 0),.d (il 0),.d (il 0),.d (il 0),.d (il 0),.d (il 0),.d (il 0),.d (il 0),.d (il 0),.d (il 0),.d (il 0),.d (il 0),.d (il 0),.d (il 0),.d (il 0),.d (il 0),.d (il 0),.d (il 0),.d (il 0),.d (il 0),.d (il 0),.d (il 0),.d (il 0),.d (il 0),.d (il 2),.d (il 0),.d (il 5),.d (il 10),.d (il 12),.d (il 0),.d (il 0),.d (sD TK),.d (il 0)]),
 (41,[il 2,.sl 3 [[il 0,il 21,sD T0]],.sl 3 [[il 0,il 21,sD T1]],.sl 3 [[il 0,il 21,sD T2]],il 0,il 0,il 0,.sl 8 [[il 2,il 0,il 5,il 10,il 12,il 0,il 0,sD TK]],il 0,il 0,il 0,il 0,il 0,il 0,il 0,il 0,il 0,il 0,il 0,il 0,il 0,il 0,il 0,il 0,il 0,il 0,il 0,il 0,il 0,il 0,il 0,il 0,il 0,il 0,il 0,il 0,il 0,il 0,il 0,il 0,il 0,il 0,il 0,il 0,il 3,il 2],[.d (il 2),.d (.sl 3 [[il 0,il 21,sD T0]]),.d (.sl 3 [[il 0,il 21,sD T1]]),.d (.sl 3 [[il 0,il 21,sD T2]]),.d (il 1),.d (il 1),.d (il 1),.d (.sl 8 [[il 2,il 0,il 5,il 10,il 12,il 0,il 0,sD TK]]),.d (il 0),.d (il 0),.d (il 0),.d (il 0),.d (il 0),.d (il 0),.d (il 0),.d (il 0),.d (il 0),.d (il 0),.d (il 0),.d (il 0),.d (il 0),.d (il 0),.d (il 0),.d (il 0),.d (il 0),.d (il 0),.d (il 0),.d (il 0),.d (il 0),.d (il 0),.d (il 0),.d (il 0),.d (il 0),.d (il 0),.d (il 0),.d (il 0),.d (il 0),.d (il 0),.d (il 0),.d (il 0),.d (il 0),.d (il 0),.d (il 0),.d (il 0),.d (il 2),.d (il 3),.d (il 2),.d (il 1),.d (il 1),.d (.lit (.slice none 0 0)),.d (il 0)]),
 (37,[il 3],[.d (il 3),.d (.lit (.slice none 0 0)),.d (.lit (.slice none 0 0)),.d (.lit (.slice none 0 0)),.d (il 0),.d (il 0),.d (il 0),.d (.lit (.slice none 0 0)),.d (il 0),.d (il 0),.d (il 0),.d (il 0),.d (il 0),.d (il 0),.d (il 0),.d (il 0),.d (il 0),.d (il 0),.d (il 0),.d (il 0),.d (il 0),.d (il 0),.d (il 0),.d (il 0),.d (il 0),.d (il 0),.d (il 0),.d (il 0),.d (il 0),.d (il 0),.d (il 0),.d (il 0),.d (il 0),.d (il 0),.d (il 0),.d (il 0),.d (il 0),.d (il 0),.d (il 0),.d (il 0),.d (il 0),.d (il 0),.d (il 0),.d (il 0),.d (il 0)]),
 (43,[il 3,.lit (.slice none 0 0),.lit (.slice none 0 0),.lit (.slice none 0 0),il 0,il 0,il 0,.lit (.slice none 0 0),il 0,il 0,il 0,il 0,il 0,il 0,il 0,il 0,il 0,il 0,il 0,il 0,il 0,il 0,il 0,il 0,il 0,il 0,il 0,il 0,il 0,il 0,il 0,il 0,il 0,il 0,il 0,il 0,il 0,il 0,il 0,il 0,il 0,il 0,il 0,il 0,il 2,il 3,il 2,il 1,il 1,.lit (.slice none 0 0)],[.d (il 3),.d (.lit (.slice none 0 0)),.d (.lit (.slice none 0 0)),.d (.lit (.slice none 0 0)),.d (il 0),.d (il 0),.d (il 0),.d (.lit (.slice none 0 0)),.d (il 0),.d (il 0),.d (il 0),.d (il 0),.d (il 0),.d (il 0),.d (il 0),.d (il 0),.d (il 0),.d (il 0),.d (il 0),.d (il 0),.d (il 0),.d (il 0),.d (il 1),.d (il 0),.d (il 0),.d (il 0),.d (il 0),.d (il 0),.d (il 0),.d (il 0),.d (il 0),.d (il 0),.d (il 0),.d (il 0),.d (il 0),.d (il 0),.d (il 0),.d (il 0),.d (il 0),.d (il 0),.d (il 0),.d (il 0),.d (il 0),.d (il 0),.d (.sl 6 [[il 3,il 2,il 2,il 0,il 0,.lit (.slice none 0 0)]]),.d (il 0)]),
 (43,[il 2,.sl 3 [[il 0,il 21,sD T0]],.sl 3 [[il 0,il 21,sD T1]],.sl 3 [[il 0,il 21,sD T2]],il 1,il 1,il 1,.sl 8 [[il 2,il 0,il 5,il 10,il 12,il 0,il 0,sD TK]],il 0,il 0,il 0,il 0,il 0,il 0,il 0,il 0,il 0,il 0,il 0,il 0,il 0,il 0,il 0,il 0,il 0,il 0,il 0,il 0,il 0,il 0,il 0,il 0,il 0,il 0,il 0,il 0,il 0,il 0,il 0,il 0,il 0,il 0,il 0,il 0,il 3,il 2,il 2,il 0,il 0,.lit (.slice none 0 0)],[.d (il 2),.d (.sl 3 [[il 0,il 21,sD T0]]),.d (.sl 3 [[il 0,il 21,sD T1]]),.d (.sl 3 [[il 0,il 21,sD T2]]),.d (il 1),.d (il 1),.d (il 1),.d (.sl 8 [[il 2,il 0,il 5,il 10,il 12,il 0,il 0,sD TK]]),.d (il 0),.d (il 0),.d (il 0),.d (il 0),.d (il 0),.d (il 0),.d (il 0),.d (il 0),.d (il 0),.d (il 0),.d (il 0),.d (il 0),.d (il 0),.d (il 0),.d (il 0),.d (il 0),.d (il 0),.d (il 0),.d (il 0),.d (il 0),.d (il 0),.d (il 0),.d (il 0),.d (il 0),.d (il 0),.d (il 0),.d (il 0),.d (il 0),.d (il 0),.d (il 0),.d (il 0),.d (il 0),.d (il 0),.d (il 0),.d (il 0),.d (il 0),.d (.sl 6 [[il 2,il 3,il 2,il 1,il 0,.sl 8 [[il 2,il 0,il 5,il 10,il 12,il 0,il 0,sD TK]]]]),.d (il 0)]),
 (43,[il 3,.lit (.slice none 0 0),.lit (.slice none 0 0),.lit (.slice none 0 0),il 0,il 0,il 0,.lit (.slice none 0 0),il 0,il 0,il 0,il 0,il 0,il 0,il 0,il 0,il 0,il 0,il 0,il 0,il 0,il 0,il 1,il 0,il 0,il 0,il 0,il 0,il 0,il 0,il 0,il 0,il 0,il 0,il 0,il 0,il 0,il 0,il 0,il 0,il 0,il 0,il 0,il 0,il 2,il 3,il 2,il 1,il 0,.sl 8 [[il 2,il 0,il 5,il 10,il 12,il 0,il 0,sD TK]]],[.d (il 3),.d (.sl 3 [[il 0,il 21,sD T0]]),.d (.sl 3 [[il 0,il 21,sD T1]]),.d (.sl 3 [[il 0,il 21,sD T2]]),.d (il 1),.d (il 1),.d (il 1),.d (.sl 8 [[il 2,il 0,il 5,il 10,il 12,il 0,il 0,sD TK]]),.d (il 0),.d (il 0),.d (il 0),.d (il 0),.d (il 0),.d (il 0),.d (il 0),.d (il 0),.d (il 0),.d (il 0),.d (il 0),.d (il 0),.d (il 0),.d (il 0),.d (il 1),.d (il 0),.d (il 0),.d (il 0),.d (il 0),.d (il 0),.d (il 0),.d (il 0),.d (il 0),.d (il 0),.d (il 0),.d (il 0),.d (il 0),.d (il 0),.d (il 0),.d (il 0),.d (il 0),.d (il 0),.d (il 0),.d (il 0),.d (il 0),.d (il 0),.d (.lit (.slice none 0 0)),.d (il 0)])]
noncomputable def allT:List Ent→Prop
 | []=>True
 | e::r=>FN 14 e.1 e.2.1=some (0,e.2.2)∧allT r
theorem allT_mem:∀ {l:List Ent} {e:Ent},allT l→e∈l→FN 14 e.1 e.2.1=some (0,e.2.2)
 | x::r,e,h,he=>by
  rcases List.mem_cons.1 he with rfl | he
  ·exact h.1
  ·exact allT_mem h.2 he
theorem tab_ok:allT tabS:=⟨ve80,ve13,ve15a,ve15b,ve15c,ve18a,ve18b,ve21,ve29a,ve23a,ve29b,ve23b,ve27,ve29c,ve23c,ve37a,ve39,ve41,ve37b,ve43a,ve43b,ve43c,trivial⟩
def FnC (f:Nat) (xs:List D):Out:=match tabS.find? fun e=>Nat.beq e.1 f&&lsEq (dEq 4) e.2.1 xs with
 | some e=>some (0,e.2.2)
 | none=>none
theorem FnC_FN {f:Nat} {xs:List D} {o:Nat×List Yr} (h:FnC f xs=some o):FN 14 f xs=some o:=by
 unfold FnC at h
 split at h
 ·rename_i e he
  have h1:=List.find?_some he
  simp only [Bool.and_eq_true] at h1
  have h2:=allT_mem tab_ok (List.mem_of_find?_eq_some he)
  rw [Nat.eq_of_beq_eq_true h1.1,lsEq_eq (fun a b h=>dEq_eq 4 a b h) h1.2] at h2
  rw [h2,h]
 ·cases h
theorem FnC_ok:FnOK Tryz.prog (cf3 tb Tryz.prog) FnC:=fun f sh xs vs j ys rs h1 h2 h3 h4=>FN_ok 14 f sh xs vs j ys rs h1 h2 (FnC_FN h3) h4
theorem FnC_okM:FmOK Tryz.prog (cf3 tb Tryz.prog) FnC:=fun f ms xs zs h1 h2=>FN_okM 14 f ms xs zs h1 (FnC_FN h2)
theorem g20:G20 (real FnC (FnDof Tryz.prog (cf3 tb Tryz.prog) FnC) M0)=some (0,[.d (bl true)]):=by kernel_rfl
theorem sane_sc:SC Tryz.prog 20 [] (.one (.d (bl true))) :=
 fun3_sc (T:=tb) (P:=Tryz.prog) mixP FnC_ok FnC_okM spOK (fuel:=400) (m0:=M0) (xs:=[]) (j:=0) (ys:=[.d (bl true)]) (rs:=[(false,[.d])]) (by rw [prR];exact (G20_eq _).trans g20) (by decide) (sh:=[]) rfl rfl rfl
end Go.VE
namespace Go.VE
open Go.RowKit Go.Proofs
set_option maxRecDepth 100000
theorem o3 {n:Nat} {ds:List D} (h:HasT Tryz.prog (n+1) 3 ds):∃ z,ds=[il z]∧-9223372036854775808≤z∧z≤9223372036854775807:=h.int Tryz.underlying3
theorem o9 {n:Nat} {ds:List D} (h:HasT Tryz.prog (n+1) 9 ds):∃ s,ds=[sD s]∧s.length≤140737488351232:=by
 obtain ⟨s,rfl,hs⟩:=HasT.str Tryz.underlying9 h
 refine ⟨s.data.toList,?_,?_⟩
 ·show _=[D.lit (.string ⟨s.data.toList.toArray⟩)]
  rw [←hk_list s]
 ·have e:s.data.toList.length=s.size:=by simp only [Array.length_toList];rfl
  rw [e];exact hs
theorem o23 {n:Nat} {ds:List D} (h:HasT Tryz.prog (n+2) 23 ds):∃ a b,ds=[il a,il b]:=by
 obtain ⟨_,_,rfl,h1,_,_,rfl,h2,rfl⟩:=h.struct Tryz.underlying23 rfl
 obtain ⟨x,rfl,_⟩:=o3 h1
 obtain ⟨y,rfl,_⟩:=o3 h2
 exact ⟨x,y,rfl⟩
theorem o25 {n:Nat} {ds:List D} (h:HasT Tryz.prog (n+3) 25 ds):∃ r:Rec,ds=recR r∧r.tx.length≤140737488351232:=by
 obtain ⟨_,_,rfl,h1,_,_,rfl,h2,_,_,rfl,h3,_,_,rfl,h4,_,_,rfl,h5,_,_,rfl,h6,rfl⟩:=h.struct Tryz.underlying25 rfl
 obtain ⟨a,b,rfl⟩:=o23 h1
 obtain ⟨c,rfl,_⟩:=o3 h2
 obtain ⟨d,rfl,_⟩:=o3 h3
 obtain ⟨e,rfl,_⟩:=o3 h4
 obtain ⟨f,g,rfl⟩:=o23 h5
 obtain ⟨t,rfl,ht⟩:=o9 h6
 exact ⟨⟨a,b,c,d,e,f,g,t⟩,rfl,ht⟩
noncomputable def FnS (n:Nat) (f:Nat) (xs:List D):Out:=if f=20∧xs=[] then some (0,[.d (bl true)]) else FN n f xs
theorem FnS_ok (n:Nat):FnOK Tryz.prog (cf3 tb Tryz.prog) (FnS n):=by
 intro f sh xs vs j ys rs h1 h2 h3 h4
 unfold FnS at h3
 split at h3
 ·rename_i hc
  obtain ⟨rfl,rfl⟩:=hc
  simp only [Option.some.injEq,Prod.mk.injEq] at h3
  obtain ⟨rfl,rfl⟩:=h3
  have e1:(cf3 tb Tryz.prog).ash 20=some []:=rfl
  rw [e1] at h1
  cases h1
  cases h2
  have e2:((cf3 tb Tryz.prog).rsk 20)[0]?=some [(false,[.d])]:=rfl
  rw [e2] at h4
  cases h4
  exact sane_sc
 ·exact FN_ok n f sh xs vs j ys rs h1 h2 h3 h4
theorem FnS_20 (n:Nat):FnS n 20 []=some (0,[.d (bl true)]):=by simp [FnS]
theorem FnS_ne {n f:Nat} {xs:List D} {o:Out} (h:FN n f xs=o) (hf:f≠20):FnS n f xs=o:=by rw [←h];simp [FnS,hf]
theorem FnS_okM (n:Nat):FmOK Tryz.prog (cf3 tb Tryz.prog) (FnS n):=fun f ms xs zs h1 h2=>by
 rw [FnS_ne rfl (by omega)] at h2
 exact FN_okM n f ms xs zs h1 h2
end Go.VE
namespace Go.VE
open Go.RowKit Go.Proofs Go.Lib
set_option maxRecDepth 100000
def rN (z:Nat):List D:=[il z]
def en55 (acc:List Nat) (t:List UInt8):List Yr:=[.d (sD t),.n acc.length,.n acc.length,.d (il acc.length),.r (acc.map rN),.d (il 0),.d (il 0),.d (il 0),.d (il 0),.d (il 0),.d (il 0),.d (il 0),.d (sD [])]
def rs55 (acc:List Nat):Option (List Nat×List UInt8)→Out
 | none=>some (1,[.d (il 5),.d (il 0),.d (il 0),.d (il 0),.d (il 0),.d (il 0),.d (il 0),.d (il 0),.d (sD [])])
 | some x=>some (2,[.d (sD x.2),.n (acc++x.1).length,.n (acc++x.1).length,.r ((acc++x.1).map rN),.d (il 0),.d (il 0),.d (il 0),.d (il 0),.d (il 0),.d (il 0),.d (il 0),.d (sD [])])
theorem cut_parts {s a r:List UInt8} (h:cutSp s=some (a,r)):a.length+1≤s.length∧s.take a.length=a∧s.drop (a.length+1)=r:=by
 obtain ⟨rfl,_⟩:=cut_inv s a r h
 refine ⟨by simp,by simp,?_⟩
 rw [List.drop_append]
 simp
theorem st55 {n:Nat} {acc:List Nat} {t:List UInt8} (ha:acc.length < 7) (ht:t.length≤281474976710656) (h116:FN n 116 [sD t]=some (0,[.d (il (spI t))])) (h117:∀ w,FN n 117 [sD w,il 9]=some (0,nmY (num9 w))) (k:Nat→List Yr→Out) :
  L55_1 (RP n) k (en55 acc t)=match cutSp t with
   | none=>rs55 acc none
   | some (w,r)=>match num9 w with
    | none=>rs55 acc none
    | some z=>k 1 (en55 (acc++[z]) r):=by
 have hlt:(acc.length:Int) < 7:=by omega
 cases hc:cutSp t with
 | none =>
  have e:spI t=-1:=by unfold spI;rw [hc]
  rw [e] at h116
  simp only [en55,L55_1,r_ld0,r_lds,r_lss,r_liti,hlt,decide_true,r_cond,if_true,r_call,h116,r_bnd0,show ((-1:Int) < 0) by decide,r_litSe,r_out,rs55]
 | some x =>
  obtain ⟨w,r⟩:=x
  obtain ⟨p1,p2,p3⟩:=cut_parts hc
  have e:spI t=(w.length:Int):=by unfold spI;rw [hc]
  rw [e] at h116
  have hn:¬ ((w.length:Int) < 0):=by omega
  have c1:∀ k:D→Out,(RP n).cutS (sD t) none (some (il w.length)) k=k (sD w):=fun k=>by
   rw [r_cutSh (by omega),p2]
  have w1:IntKind.i64.wrap ((w.length:Int)+1)=((w.length+1:Nat):Int):=by rw [wrap_id (by omega) (by omega)];omega
  have c2:∀ k:D→Out,(RP n).cutS (sD t) (some (il ((w.length+1:Nat):Int))) none k=k (sD r):=fun k=>by
   rw [r_cutSe p1,p3]
  have w2:IntKind.i64.wrap ((acc.length:Int)+1)=((acc.length+1:Nat):Int):=by rw [wrap_id (by omega) (by omega)];omega
  have hm:(acc.map rN).length=acc.length:=List.length_map _
  have hf:(acc.length+1)*8≤140737488355328∧acc.length+1≤9223372036854775807:=by omega
  simp only
  cases hz:num9 w with
  | none =>
   have h:=h117 w
   rw [hz] at h
   simp only [nmY] at h
   simp only [en55,L55_1,r_ld0,r_lds,r_lss,r_liti,hlt,decide_true,r_cond,if_true,r_call,h116,r_bnd0,hn,decide_false,Bool.false_eq_true,if_false,c1,h,r_not,Bool.not_false,r_litSe,r_out,rs55]
  | some z =>
   have h:=h117 w
   rw [hz] at h
   simp only [nmY] at h
   simp only [en55,L55_1,r_ld0,r_lds,r_ln0,r_lns,r_lr0,r_lrs,r_lss,r_liti,hlt,decide_true,r_cond,if_true,r_call,h116,r_bnd0,hn,decide_false,Bool.false_eq_true,if_false,c1,h,r_not,Bool.not_true,r_natN,r_rows,r_len,List.length_cons,List.length_nil,Nat.zero_add,r_eqN,hm,r_seg0,List.take_succ_cons,List.take_zero,r_addN,r_fitsg,if_pos hf,r_add,w1,c2,w2,r_app,List.map_append,List.map_cons,List.map_nil,List.length_append]
   rfl
theorem st55_0 {n:Nat} {t:List UInt8} (ht:t.length≤281474976710656) (h116:FN n 116 [sD t]=some (0,[.d (il (spI t))])) (h117:∀ w,FN n 117 [sD w,il 9]=some (0,nmY (num9 w))) (k:Nat→List Yr→Out) :
  L55_0 (RP n) k [.d (sD t),.d (il 0),.d (il 0),.d (il 0),.d (il 0),.d (il 0),.d (il 0),.d (il 0),.d (il 0),.d (sD [])]=match cutSp t with
   | none=>rs55 [] none
   | some (w,r)=>match num9 w with
    | none=>rs55 [] none
    | some z=>k 1 (en55 [z] r):=by
 cases hc:cutSp t with
 | none =>
  have e:spI t=-1:=by unfold spI;rw [hc]
  rw [e] at h116
  simp only [L55_0,r_ld0,r_lds,r_lss,r_liti,show ((0:Int) < 7) by decide,decide_true,r_cond,if_true,r_call,h116,r_bnd0,show ((-1:Int) < 0) by decide,r_litSe,r_out,rs55]
 | some x =>
  obtain ⟨w,r⟩:=x
  obtain ⟨p1,p2,p3⟩:=cut_parts hc
  have e:spI t=(w.length:Int):=by unfold spI;rw [hc]
  rw [e] at h116
  have hn:¬ ((w.length:Int) < 0):=by omega
  have c1:∀ k:D→Out,(RP n).cutS (sD t) none (some (il w.length)) k=k (sD w):=fun k=>by
   rw [r_cutSh (by omega),p2]
  have w1:IntKind.i64.wrap ((w.length:Int)+1)=((w.length+1:Nat):Int):=by rw [wrap_id (by omega) (by omega)];omega
  have c2:∀ k:D→Out,(RP n).cutS (sD t) (some (il ((w.length+1:Nat):Int))) none k=k (sD r):=fun k=>by
   rw [r_cutSe p1,p3]
  have w2:IntKind.i64.wrap ((0:Int)+1)=1:=by decide
  have hf:1*8≤140737488355328∧1≤9223372036854775807:=by decide
  simp only
  cases hz:num9 w with
  | none =>
   have h:=h117 w
   rw [hz] at h
   simp only [nmY] at h
   simp only [L55_0,r_ld0,r_lds,r_lss,r_liti,show ((0:Int) < 7) by decide,decide_true,r_cond,if_true,r_call,h116,r_bnd0,hn,decide_false,Bool.false_eq_true,if_false,c1,h,r_not,Bool.not_false,r_litSe,r_out,rs55]
  | some z =>
   have h:=h117 w
   rw [hz] at h
   simp only [nmY] at h
   simp only [L55_0,r_ld0,r_lds,r_lss,r_liti,show ((0:Int) < 7) by decide,decide_true,r_cond,if_true,r_call,h116,r_bnd0,hn,decide_false,Bool.false_eq_true,if_false,c1,h,r_not,Bool.not_true,r_natN,r_rows,r_len,List.length_cons,List.length_nil,Nat.zero_add,r_eqN,r_seg0,List.take_succ_cons,List.take_zero,r_isNil1,r_fitsg,if_pos hf,r_add,w1,c2,w2]
   rfl
theorem loopA0' (b0 b1:(Nat→List Yr→Out)→List Yr→Out) (n:Nat) (ys:List Yr):loopR [b0,b1] (n+1) 0 ys=b0 (loopR [b0,b1] n) ys:=rfl
theorem loopA1' (b0 b1:(Nat→List Yr→Out)→List Yr→Out) (n:Nat) (ys:List Yr):loopR [b0,b1] (n+1) 1 ys=b1 (loopR [b0,b1] n) ys:=rfl
theorem l55 {n:Nat} {s:List UInt8} (hs:s.length≤281474976710656) (h116:∀ t,t.length≤281474976710656→FN n 116 [sD t]=some (0,[.d (il (spI t))])) (h117:∀ w,FN n 117 [sD w,il 9]=some (0,nmY (num9 w))) :
  loopR [L55_0 (RP n),L55_1 (RP n)] M0 0 [.d (sD s),.d (il 0),.d (il 0),.d (il 0),.d (il 0),.d (il 0),.d (il 0),.d (il 0),.d (il 0),.d (sD [])]=rs55 [] (numsG num9 7 s):=by
 have key:∀ (m:Nat) (acc:List Nat) (t:List UInt8),acc.length≤7→t.length≤281474976710656→7 < m+acc.length→0 < m→loopR [L55_0 (RP n),L55_1 (RP n)] m 1 (en55 acc t)=rs55 acc (numsG num9 (7 - acc.length) t):=by
  intro m
  induction m with
  | zero=>intro acc t _ _ _ h;omega
  | succ m ih =>
   intro acc t h1 h2 h3 _
   rw [loopA1']
   by_cases h:acc.length=7
   ·have e:numsG num9 (7 - acc.length) t=some ([],t):=by rw [h];rfl
    have hnl:¬ (((acc.length:Nat):Int) < 7):=by omega
    rw [e]
    simp only [en55,L55_1,r_ld0,r_lds,r_ln0,r_lns,r_lr0,r_lrs,r_lss,r_liti,hnl,decide_false,Bool.false_eq_true,if_false,r_cond,r_out,rs55,List.append_nil]
   ·rw [st55 (by omega) h2 (h116 t h2) h117,show 7 - acc.length=(7 - (acc.length+1))+1 by omega,numsG]
    cases hc:cutSp t with
    | none=>rfl
    | some x =>
     obtain ⟨w,r⟩:=x
     simp only
     cases hz:num9 w with
     | none=>rfl
     | some z =>
      simp only
      have hr:r.length≤t.length:=by
       have:=(cut_inv t w r hc).1
       rw [this];simp;omega
      rw [ih (acc++[z]) r (by simp;omega) (by omega) (by simp;omega) (by omega)]
      rw [List.length_append,List.length_singleton]
      cases numsG num9 (7 - (acc.length+1)) r with
      | none=>rfl
      | some y=>simp [rs55]
 rw [show M0=18446744073709551615+1 from rfl,loopA0',st55_0 hs (h116 s hs) h117,show (7:Nat)=6+1 from rfl,numsG]
 cases hc:cutSp s with
 | none=>rfl
 | some x =>
  obtain ⟨w,r⟩:=x
  simp only
  cases hz:num9 w with
  | none=>rfl
  | some z =>
   simp only
   have hr:r.length≤s.length:=by
    have:=(cut_inv s w r hc).1
    rw [this];simp;omega
   rw [key _ [z] r (by simp) (by omega) (by simp) (by omega)]
   show rs55 [z] (numsG num9 6 r)=_
   cases numsG num9 6 r with
   | none=>rfl
   | some y=>simp [rs55]
theorem s55 (n:Nat) (s:List UInt8) (hs:s.length≤281474976710656):FN (n+5) 55 [sD s]=some (0,decO (decG num9 s)):=by
 have l:=l55 (n:=n+4) hs (fun t ht=>s116 (n+3) t (by omega)) (fun w=>s117 (n+3) w)
 rw [F55]
 simp only [G55,r_loop,r_liti,r_litSe,l]
 unfold decG
 cases hx:numsG num9 7 s with
 | none=>rfl
 | some x =>
  obtain ⟨l,t⟩:=x
  have h7:=nums_len 7 s l t hx
  match l,h7 with
  | [a,b,c,d,e,f,g],_ =>
   have h35:=s35 n ⟨a,b,c,d,e,f,g,t⟩
   simp only [recR] at h35
   have i:∀ j:Nat,j < 7→∀ k:Nat→Out,(RP (n+4)).inx (il j) 7 k=k j:=fun j hj k=>by rw [r_inxg,if_pos (by omega),Int.toNat_natCast]
   have i0:∀ k:Nat→Out,(RP (n+4)).inx (il 0) 7 k=k 0:=i 0 (by decide)
   have i1:∀ k:Nat→Out,(RP (n+4)).inx (il 1) 7 k=k 1:=i 1 (by decide)
   have i2:∀ k:Nat→Out,(RP (n+4)).inx (il 2) 7 k=k 2:=i 2 (by decide)
   have i3:∀ k:Nat→Out,(RP (n+4)).inx (il 3) 7 k=k 3:=i 3 (by decide)
   have i4:∀ k:Nat→Out,(RP (n+4)).inx (il 4) 7 k=k 4:=i 4 (by decide)
   have i5:∀ k:Nat→Out,(RP (n+4)).inx (il 5) 7 k=k 5:=i 5 (by decide)
   have i6:∀ k:Nat→Out,(RP (n+4)).inx (il 6) 7 k=k 6:=i 6 (by decide)
   have ra:∀ (j:Nat) (w:Nat),([a,b,c,d,e,f,g].map rN)[j]?=some [il w]→∀ k:List D→Out,(RP (n+4)).rowAt 1 ([a,b,c,d,e,f,g].map rN) j k=k [il w]:=fun j w h k=>by rw [r_rowAtg,h];rfl
   simp only [rs55,List.nil_append,r_bnd2,r_ln0,r_lns,r_lr0,r_lrs,r_ld0,r_lds,r_len,List.length_map,List.length_cons,List.length_nil,Nat.zero_add,Nat.reduceAdd,r_eqN,if_true,i0,i1,i2,i3,i4,i5,i6,ra 0 a rfl,ra 1 b rfl,ra 2 c rfl,ra 3 d rfl,ra 4 e rfl,ra 5 f rfl,ra 6 g rfl,r_cell0,r_call,h35,r_bnd0,r_neq,r_cond,r_out,mkR]
   by_cases hk:okR ⟨a,b,c,d,e,f,g,t⟩=true
   ·simp only [hk,if_true,ne_eq,not_true,decide_false,Bool.false_eq_true,if_false]
    rfl
   ·simp only [hk,if_false,ne_eq,show ¬ ((80:Int)=0) by decide,not_false_eq_true,decide_true,if_true]
    rfl
end Go.VE
namespace Go.VE
open Go.RowKit Go.Proofs Go.Lib
set_option maxRecDepth 100000
section
variable {Fn:Nat→List D→Out} {FnD:D→List Sh→List D→Out} {m:Nat}
theorem r_eqR8 (ng:Bool) (a1 a2 a3 a4 a5 a6 a7 b1 b2 b3 b4 b5 b6 b7:Int) (s t:List UInt8) (k:D→Out):(real Fn FnD m).eqs [1,1,1,1,1,1,1,2] ng [il a1,il a2,il a3,il a4,il a5,il a6,il a7,sD s] [il b1,il b2,il b3,il b4,il b5,il b6,il b7,sD t] k=k (bl (if ng then !decide ((⟨a1,a2,a3,a4,a5,a6,a7,s⟩:Rec)=⟨b1,b2,b3,b4,b5,b6,b7,t⟩) else decide ((⟨a1,a2,a3,a4,a5,a6,a7,s⟩:Rec)=⟨b1,b2,b3,b4,b5,b6,b7,t⟩))):=r_eqRec ng ⟨a1,a2,a3,a4,a5,a6,a7,s⟩ ⟨b1,b2,b3,b4,b5,b6,b7,t⟩ k
theorem lawTexts {r:Rec} {s:List UInt8} (hs:s.length≤281474976710656) (h20:Fn 20 []=some (0,[.d (bl true)]))
  (h36:∀ r,Fn 36 (recR r)=some (0,if okR r=true then [.d (sD (txt r)),.d (il 0)] else [.d (sD []),.d (il 80)]))
  (h53:Fn 53 (recR r)=some (0,if okR r=true then [.d (sD (txt r)),.d (il 0)] else [.d (sD []),.d (il 80)]))
  (h54:∀ s:List UInt8,s.length≤281474976710656→Fn 54 [sD s]=some (0,decO (decG numA s))) (h55:Fn 55 [sD s]=some (0,decO (decG num9 s)))
  (h56:Fn 56 (recR r)=some (0,[.d (il (if okR r=true then 0 else 80))])) (h35:Fn 35 (recR r)=some (0,[.d (il (if okR r=true then 0 else 80))])) :
  G9 (real Fn FnD M0) (il r.p) (il r.no) (il r.kd) (il r.dy) (il r.kn) (il r.op) (il r.on) (sD r.tx) (sD s)=some (0,[.d (bl true)]):=by
 have c36:=h36 r
 have c54:=h54 s hs
 rw [decG_same] at c54
 have fin:(real Fn FnD M0).bnd (some (1,[.d (il r.p),.d (il r.no),.d (il r.kd),.d (il r.dy),.d (il r.kn),.d (il r.op),.d (il r.on),.d (sD r.tx),.d (sD (if okR r=true then txt r else [])),.d (il (if okR r=true then 0 else 80))]))
   [fun y11=>(real Fn FnD M0).out 0 [.d ((real Fn FnD M0).ld y11 0)],fun y11=>(real Fn FnD M0).bin .neq false ((real Fn FnD M0).ld y11 9) (il 0) fun x12=>(real Fn FnD M0).cond x12 ((real Fn FnD M0).bnd ((real Fn FnD M0).call 20 []) [fun y13=>(real Fn FnD M0).out 0 [.d ((real Fn FnD M0).ld y13 0)]]) ((real Fn FnD M0).bnd ((real Fn FnD M0).call 54 [(real Fn FnD M0).ld y11 8]) [fun y13=>(real Fn FnD M0).eqs [1,1,1,1,1,1,1,2] false [(real Fn FnD M0).ld y13 0,(real Fn FnD M0).ld y13 1,(real Fn FnD M0).ld y13 2,(real Fn FnD M0).ld y13 3,(real Fn FnD M0).ld y13 4,(real Fn FnD M0).ld y13 5,(real Fn FnD M0).ld y13 6,(real Fn FnD M0).ld y13 7] [(real Fn FnD M0).ld y11 0,(real Fn FnD M0).ld y11 1,(real Fn FnD M0).ld y11 2,(real Fn FnD M0).ld y11 3,(real Fn FnD M0).ld y11 4,(real Fn FnD M0).ld y11 5,(real Fn FnD M0).ld y11 6,(real Fn FnD M0).ld y11 7] fun x14=>(real Fn FnD M0).cond x14 ((real Fn FnD M0).bin .eql false ((real Fn FnD M0).ld y13 8) (il 0) fun x15=>(real Fn FnD M0).cond x15 ((real Fn FnD M0).bnd ((real Fn FnD M0).call 20 []) [fun y16=>(real Fn FnD M0).out 0 [.d ((real Fn FnD M0).ld y16 0)]]) ((real Fn FnD M0).out 0 [.d (bl false)])) ((real Fn FnD M0).out 0 [.d (bl false)])])]=some (0,[.d (bl true)]):=by
  by_cases hr:okR r=true
  ·have hl:=txt_len hr
   have c:=h54 (txt r) (by omega)
   rw [dec_txt (fun n hn=>numA_of (by omega)) hr] at c
   simp only [decO,recR,List.map_cons,List.map_nil,List.cons_append,List.nil_append] at c
   simp only [hr,if_true,r_bnd1,r_ld0,r_lds,r_neq,ne_eq,not_true,decide_false,r_cond,Bool.false_eq_true,if_false,r_call,c,r_bnd0,r_eqR8,decide_true,r_eql,h20,r_out]
  ·simp only [hr,Bool.false_eq_true,if_false,r_bnd1,r_ld0,r_lds,r_neq,ne_eq,show ¬ ((80:Int)=0) by decide,not_false_eq_true,decide_true,r_cond,if_true,r_call,h20,r_bnd0,r_out]
 have e36:(if okR r=true then [.d (sD (txt r)),.d (il 0)] else [.d (sD []),.d (il 80)]:List Yr)=[.d (sD (if okR r=true then txt r else [])),.d (il (if okR r=true then 0 else 80))]:=by split<;>rfl
 rw [e36] at c36 h53
 simp only [recR] at c36 h53 h56 h35
 generalize (if okR r=true then txt r else [])=A at c36 h53 fin
 generalize (if okR r=true then (0:Int) else 80)=B at c36 h53 h56 h35 fin
 cases ho:decG num9 s with
 | none =>
  rw [ho] at c54 h55
  simp only [decO,recR,zeroR,List.map_cons,List.map_nil,List.cons_append,List.nil_append] at c54 h55
  simp only [G9,r_call,c36,h53,c54,h55,r_bnd0,r_ld0,r_lds,r_neqSs,r_neq,ne_eq,not_true,decide_true,decide_false,Bool.not_true,r_cond,Bool.false_eq_true,if_false,r_eqR8,if_true,h56,h35,r_eql,show ¬ ((5:Int)=0) by decide,r_liti,r_litb,r_out]
  exact fin
 | some c =>
  rw [ho] at c54 h55
  obtain ⟨h1,h2⟩:=txt_dec (fun w n hw=>num9_dec hw) ho
  have k36:=h36 c
  rw [if_pos h2,h1] at k36
  simp only [recR] at k36
  simp only [decO,recR,List.map_cons,List.map_nil,List.cons_append,List.nil_append] at c54 h55
  simp only [G9,r_call,c36,h53,c54,h55,r_bnd0,r_ld0,r_lds,r_neqSs,r_neq,ne_eq,not_true,decide_true,decide_false,Bool.not_true,r_cond,Bool.false_eq_true,if_false,r_eqR8,if_true,h56,h35,r_eql,k36,r_liti,r_litb,r_out]
  exact fin
end
theorem bookTexts_sc (vds:List VD) (h:VTs Tryz.prog 8 [25,9] vds):SC Tryz.prog 9 vds (.one (.d (bl true))):=by
 obtain ⟨_,_,rfl,h1,h⟩:=VTs_cons h
 obtain ⟨_,_,rfl,h2,h⟩:=VTs_cons h
 cases VTs_nil h
 obtain ⟨_,rfl,k1⟩:=h1.agg_ Tryz.underlying25
 obtain ⟨_,rfl,k2⟩:=h2.str_ Tryz.underlying9
 obtain ⟨r,rfl,hr⟩:=o25 k1
 obtain ⟨s,e2,hs⟩:=o9 k2
 cases e2
 refine lawSC (T:=tb) (fuel:=400) (m0:=M0) (xs:=[il r.p,il r.no,il r.kd,il r.dy,il r.kn,il r.op,il r.on,sD r.tx,sD s]) mixP (FnS_ok 20) (FnS_okM 20) spOK (by decide) (sh:=[.agg 8,.one]) rfl rfl rfl ?_
 rw [G9_eq]
 exact lawTexts (by omega) (FnS_20 20) (fun r=>FnS_ne (s36 15 r) (by decide)) (FnS_ne (s53 14 r) (by decide)) (fun s hs=>FnS_ne (s54 14 s hs) (by decide)) (FnS_ne (s55 15 s (by omega)) (by decide)) (FnS_ne (s56 15 r) (by decide)) (FnS_ne (s35 16 r) (by decide))
end Go.VE
namespace Go.Proofs.YtipddjojdgapiaaGreatDoor
open Go.VE Go.RowKit Go.ChangeShapes Go.WideShapes
set_option maxRecDepth 100000
theorem bookTexts_lifted (os:Os) (started:os.Started) (H:Type) (enc:TypeId×Value→H) :
  ReturnsInHanded {} Tryz.checked os 9 .any (fun w args=>(Rows.bookTextsSpec.pre enc Tryz.prog Tryz.f9 [] false w args∧laidMetH Tryz.prog laid5 w)∧sizedMet enc Tryz.prog Tryz.f9 (OpenSpec.ofChange Rows.bookTextsSpec) false w args) (Rows.bookTextsSpec.post enc Tryz.prog Tryz.f9 false true false false) :=
 lawInY (C:=Tryz.checked) (n:=8) (tb:=4) (X:=fun w _=>laidMetH Tryz.prog laid5 w) (fun _ _ _ hh h=>h.of_heap hh) own started (by kernel_rfl) Tryz.func9
  (ChangeSpec.witness_shaped (enc:=enc) (C:=Tryz.checked) (os:=os) (X:=fun w _=>laidMetH Tryz.prog laid5 w) false (World.laidAll Tryz.prog os laid5) #[.agg #[.int .i64 0,.int .i64 0,.int .i64 0,.int .i64 0,.int .i64 0,.int .i64 0,.int .i64 0,.string ⟨#[]⟩],.string ⟨#[]⟩] 8 rfl (World.shaped_of_ZipB (by kernel_rfl) (by kernel_rfl)) (by kernel_rfl) (by kernel_rfl) (by kernel_rfl) (door_met os _))
  laidOut (by kernel_rfl) (by kernel_rfl) Tryz.underlying4 rfl
  (fun ds hd=>by
   rw [show Tryz.f9.params.toList=[25,9] by kernel_rfl] at hd
   match ds,hd with
   | [a,b],_=>rfl)
  (fun W args vds hsh hX h hv=>calls_of (bookTexts_sc vds (by
   have e:Tryz.f9.params.toList=[25,9]:=by kernel_rfl
   rw [e] at h;exact h)) hsh hX hv)
theorem bookTexts_row:Rows.BookTextsSaid :=
 OpenClaim.holds_of_wide 9 Tryz.f9 rfl rfl rfl rfl rfl rfl rfl ⟨rfl,rfl,rfl,rfl,rfl⟩ rfl rfl rfl rfl rfl (by kernel_rfl) Tryz.func9 (by kernel_rfl)
  (of_decide_eq_true (by kernel_rfl)) (by unfold Func.isWrapper;first | (rw [if_pos (by decide +kernel)];kernel_rfl) | (rw [if_neg (by decide +kernel)];exact ⟨rfl,rfl⟩))
  (fun os started H enc _=>bookTexts_lifted os started H enc)
theorem bookTexts_holds:Rows.BookTextsCardSaid :=
 Claim7.holds_tied_plain_at .later [] [.data,.data,.data,.sentinel,.sentinel] true (true, "d6cf3fcbdfa60de4d88a7efdcb7981466a561c4e3c6cf77be3be945176882af7") true
  bookTexts_row (fun _ h=>by cases h) (by kernel_rfl) (fun _ h=>by cases h) bookTexts_row_tie rfl ⟨rfl,rfl⟩ (by kernel_rfl) rfl
  (fun f fn hf hfn=>by
   obtain rfl:f=9:=Option.some.inj ((show Tryz.prog.funcNamed "leazing/leazinglaw08.BookTexts" = some 9 by kernel_rfl).symm.trans hf) |>.symm
   obtain rfl:fn=Tryz.f9:=(Option.some.inj (Tryz.func9.symm.trans hfn)).symm
   exact ⟨by kernel_rfl,fun j t ht=>by
    rw [Tryz.params9] at ht
    have hm:t∈[25,9]:=by simpa using Array.mem_of_getElem? ht
    have hall:([25,9].all fun u=>!Tryz.prog.wantsStandIn u)=true:=by kernel_rfl
    exact (show Tryz.prog.wantsStandIn t=false by simpa using List.all_eq_true.1 hall t hm)⟩)
  (by kernel_rfl)
#print axioms bookTexts_holds
end Go.Proofs.YtipddjojdgapiaaGreatDoor
