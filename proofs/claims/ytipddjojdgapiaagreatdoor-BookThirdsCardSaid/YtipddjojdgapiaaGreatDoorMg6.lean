/- The statement BookThirds: from any two of the three strips of a record its text is mended, in either order; each of the strips is whole in its quire, and no beginning of it is; the package-level variables that the card lists lie as the program's text lays them. -/
import Derived.Test.YtipddjojdgapiaaGreatDoorMg0
import Derived.Test.YtipddjojdgapiaaGreatDoorMg1
import Derived.Test.YtipddjojdgapiaaGreatDoorMg5
import Derived.Test.YtipddjojdgapiaaGreatDoorMh
namespace Go.VE
open Go.RowKit Go.Proofs
set_option maxRecDepth 1000000
set_option maxHeartbeats 0
def lsEq {α:Type} (e:α→α→Bool):List α→List α→Bool
 | [],[]=>true
 | a::l,b::r=>e a b&&lsEq e l r
 | _,_=>false
theorem lsEq_eq {α:Type} {e:α→α→Bool} (he:∀ a b,e a b=true→a=b):∀ {l r:List α},lsEq e l r=true→l=r
 | [],[],_=>rfl
 | a::l,b::r,h=>by
  simp only [lsEq,Bool.and_eq_true] at h
  rw [he a b h.1,lsEq_eq he h.2]
 | [],_::_,h=>by cases h
 | _::_,[],h=>by cases h
def dEq:Nat→D→D→Bool
 | _,.lit (.int .i64 a),.lit (.int .i64 b)=>decide (a=b)
 | _,.lit (.string a),.lit (.string b)=>decide (a.data.toList=b.data.toList)
 | _,.lit (.slice none 0 0),.lit (.slice none 0 0)=>true
 | n+1,.sl s r,.sl t q=>Nat.beq s t&&lsEq (lsEq (dEq n)) r q
 | _,_,_=>false
theorem dEq_eq:∀ (n:Nat) (a b:D),dEq n a b=true→a=b
 | n,a,b,h=>by
  unfold dEq at h
  split at h
  ·rw [decide_eq_true_eq] at h;rw [h]
  ·rename_i x y
   rw [decide_eq_true_eq] at h
   obtain ⟨⟨x⟩⟩:=x
   obtain ⟨⟨y⟩⟩:=y
   simp only at h
   rw [h]
  ·rfl
  ·rename_i m _ _ _ _
   simp only [Bool.and_eq_true] at h
   rw [Nat.eq_of_beq_eq_true h.1,lsEq_eq (fun _ _ h=>lsEq_eq (fun a b h=>dEq_eq m a b h) h) h.2]
  ·cases h
abbrev Ent:Type:=Nat×List D×List Yr
def tabS:List Ent:=[
 (80,[],[.d (il 2),.d (il 0),.d (il 5),.d (il 10),.d (il 12),.d (il 0),.d (il 0),.d (sD TK)]),
 (13,[il 2,il 0,il 5,il 10,il 12,il 0,il 0,sD TK,il 0],[.d (.sl 3 [[il 0,il 21,sD T0],[il 0,il 21,sD T1],[il 0,il 21,sD T2]]),.d (il 0)]),
 (15,[il 0,il 0,il 21,sD T0,il 2,il 0,il 21,sD T2],[.d (sD TX),.d (il 0)]),
 (15,[il 2,il 0,il 21,sD T2,il 1,il 0,il 21,sD T1],[.d (sD TX),.d (il 0)]),
 (15,[il 0,il 0,il 21,sD T0,il 0,il 0,il 21,sD T0],[.d (sD []),.d (il 1)]),
 (18,[il 0,il 0,il 21,sD T1],[.d (il 0)]),
 (18,[il 1,il 0,il 21,sD T0],[.d (il 84)]),
 (21,[.lit (.slice none 0 0),.lit (.slice none 0 0),.lit (.slice none 0 0),il 0,il 0,il 0,.lit (.slice none 0 0),il 2,il 0,il 5,il 10,il 12,il 0,il 0,sD TK],[.d (.sl 3 [[il 0,il 21,sD T0]]),.d (.sl 3 [[il 0,il 21,sD T1]]),.d (.sl 3 [[il 0,il 21,sD T2]]),.d (il 0),.d (il 0),.d (il 0),.d (.sl 8 [[il 2,il 0,il 5,il 10,il 12,il 0,il 0,sD TK]]),.d (il 0)]),
 (29,[.sl 3 [[il 0,il 21,sD T0]],.sl 3 [[il 0,il 21,sD T1]],.sl 3 [[il 0,il 21,sD T2]],il 0,il 0,il 0,.sl 1 [[il 3],[il 2],[il 0],[il 0],[il 0],[il 2],[il 0]]],[.d (.sl 3 [[il 0,il 21,sD T0]]),.d (.sl 3 []),.d (.sl 3 [[il 0,il 21,sD T2]]),.d (il 0),.d (il 0),.d (il 0)]),
 (23,[.sl 3 [[il 0,il 21,sD T0]],.sl 3 [],.sl 3 [[il 0,il 21,sD T2]],il 0,il 0,il 0],[.d (.sl 3 [[il 0,il 21,sD T0]]),.d (.sl 3 [[il 0,il 21,sD T1]]),.d (.sl 3 [[il 0,il 21,sD T2]]),.d (il 1),.d (il 1),.d (il 1),.d (.sl 8 [[il 2,il 0,il 5,il 10,il 12,il 0,il 0,sD TK]])]),
 (29,[.sl 3 [[il 0,il 21,sD T0]],.sl 3 [[il 0,il 21,sD T1]],.sl 3 [[il 0,il 21,sD T2]],il 0,il 0,il 0,.sl 1 [[il 3],[il 2],[il 0],[il 0],[il 0],[il 1],[il 4]]],[.d (.sl 3 [[il 0,il 21,sD T0]]),.d (.sl 3 []),.d (.sl 3 [[il 0,il 21,sD (T2.take 4)]]),.d (il 0),.d (il 0),.d (il 0)]),
 (23,[.sl 3 [[il 0,il 21,sD T0]],.sl 3 [],.sl 3 [[il 0,il 21,sD (T2.take 4)]],il 0,il 0,il 0],[.d (.lit (.slice none 0 0)),.d (.lit (.slice none 0 0)),.d (.lit (.slice none 0 0)),.d (il 0),.d (il 0),.d (il 0),.d (.lit (.slice none 0 0))]),
 (27,[.sl 3 [[il 0,il 21,sD T0]],.sl 3 [[il 0,il 21,sD T1]],.sl 3 [[il 0,il 21,sD T2]],il 0,il 0,il 0],[.d (.sl 3 [[il 0,il 21,sD T0]]),.d (.sl 3 [[il 0,il 21,sD T1]]),.d (.sl 3 [[il 0,il 21,sD T2]]),.d (il 1),.d (il 1),.d (il 1)]),
 (29,[.sl 3 [[il 0,il 21,sD T0]],.sl 3 [[il 0,il 21,sD T1]],.sl 3 [[il 0,il 21,sD T2]],il 1,il 1,il 1,.sl 1 [[il 1]]],[.d (.sl 3 [[il 0,il 21,sD T0]]),.d (.lit (.slice none 0 0)),.d (.sl 3 [[il 0,il 21,sD T2]]),.d (il 1),.d (il 0),.d (il 1)]),
 (23,[.sl 3 [[il 0,il 21,sD T0]],.lit (.slice none 0 0),.sl 3 [[il 0,il 21,sD T2]],il 1,il 0,il 1],[.d (.sl 3 [[il 0,il 21,sD T0]]),.d (.sl 3 [[il 0,il 21,sD T1]]),.d (.sl 3 [[il 0,il 21,sD T2]]),.d (il 1),.d (il 1),.d (il 1),.d (.sl 8 [[il 2,il 0,il 5,il 10,il 12,il 0,il 0,sD TK]])]),
 (37,[il 2],[.d (il 2),.d (.lit (.slice none 0 0)),.d (.lit (.slice none 0 0)),.d (.lit (.slice none 0 0)),.d (il 0),.d (il 0),.d (il 0),.d (.lit (.slice none 0 0)),.d (il 0),.d (il 0),.d (il 0),.d (il 0),.d (il 0),.d (il 0),.d (il 0),.d (il 0),.d (il 0),.d (il 0),.d (il 0),.d (il 0),.d (il 0),.d (il 0),.d (il 0),.d (il 0),.d (il 0),.d (il 0),.d (il 0),.d (il 0),.d (il 0),.d (il 0),.d (il 0),.d (il 0),.d (il 0),.d (il 0),.d (il 0),.d (il 0),.d (il 0),.d (il 0),.d (il 0),.d (il 0),.d (il 0),.d (il 0),.d (il 0),.d (il 0),.d (il 0)]),
 (39,[il 2,.lit (.slice none 0 0),.lit (.slice none 0 0),.lit (.slice none 0 0),il 0,il 0,il 0,.lit (.slice none 0 0),il 0,il 0,il 0,il 0,il 0,il 0,il 0,il 0,il 0,il 0,il 0,il 0,il 0,il 0,il 0,il 0,il 0,il 0,il 0,il 0,il 0,il 0,il 0,il 0,il 0,il 0,il 0,il 0,il 0,il 0,il 0,il 0,il 0,il 0,il 0,il 0,il 2,il 0,il 5,il 10,il 12,il 0,il 0,sD TK],[.d (il 2),.d (.sl 3 [[il 0,il 21,sD T0]]),.d (.sl 3 [[il 0,il 21,sD T1]]),.d (.sl 3 [[il 0,il 21,sD T2]]),.d (il 0),.d (il 0),.d (il 0),.d (.sl 8 [[il 2,il 0,il 5,il 10,il 12,il 0,il 0,sD TK]]),.d (il 0),.d (il 0),.d (il 0),.d (il 0),.d (il 0),.d (il 0),.d (il 0),.d (il 0),.d (il 0),.d (il 0),.d (il 0),.d (il 0),.d (il 0),.d (il 0),.d (il 0),.d (il 0),.d (il 0),.d (il 0),.d (il 0),.d (il 0),.d (il 0),.d (il 0),.d (il 0),.d (il 0),.d (il 0),.d (il 0),.d (il 0),.d (il 0),.d (il 0),.d (il 0),.d (il 0),.d (il 0),.d (il 0),.d (il 0),.d (il 0),.d (il 0),.d (il 2),.d (il 0),.d (il 5),.d (il 10),.d (il 12),.d (il 0),.d (il 0),.d (sD TK),.d (il 0)]),
 (41,[il 2,.sl 3 [[il 0,il 21,sD T0]],.sl 3 [[il 0,il 21,sD T1]],.sl 3 [[il 0,il 21,sD T2]],il 0,il 0,il 0,.sl 8 [[il 2,il 0,il 5,il 10,il 12,il 0,il 0,sD TK]],il 0,il 0,il 0,il 0,il 0,il 0,il 0,il 0,il 0,il 0,il 0,il 0,il 0,il 0,il 0,il 0,il 0,il 0,il 0,il 0,il 0,il 0,il 0,il 0,il 0,il 0,il 0,il 0,il 0,il 0,il 0,il 0,il 0,il 0,il 0,il 0,il 3,il 2],[.d (il 2),.d (.sl 3 [[il 0,il 21,sD T0]]),.d (.sl 3 [[il 0,il 21,sD T1]]),.d (.sl 3 [[il 0,il 21,sD T2]]),.d (il 1),.d (il 1),.d (il 1),.d (.sl 8 [[il 2,il 0,il 5,il 10,il 12,il 0,il 0,sD TK]]),.d (il 0),.d (il 0),.d (il 0),.d (il 0),.d (il 0),.d (il 0),.d (il 0),.d (il 0),.d (il 0),.d (il 0),.d (il 0),.d (il 0),.d (il 0),.d (il 0),.d (il 0),.d (il 0),.d (il 0),.d (il 0),.d (il 0),.d (il 0),.d (il 0),.d (il 0),.d (il 0),.d (il 0),.d (il 0),.d (il 0),.d (il 0),.d (il 0),.d (il 0),.d (il 0),.d (il 0),.d (il 0),.d (il 0),.d (il 0),.d (il 0),.d (il 0),.d (il 2),.d (il 3),.d (il 2),.d (il 1),.d (il 1),.d (.lit (.slice none 0 0)),.d (il 0)]),
 (37,[il 3],[.d (il 3),.d (.lit (.slice none 0 0)),.d (.lit (.slice none 0 0)),.d (.lit (.slice none 0 0)),.d (il 0),.d (il 0),.d (il 0),.d (.lit (.slice none 0 0)),.d (il 0),.d (il 0),.d (il 0),.d (il 0),.d (il 0),.d (il 0),.d (il 0),.d (il 0),.d (il 0),.d (il 0),.d (il 0),.d (il 0),.d (il 0),.d (il 0),.d (il 0),.d (il 0),.d (il 0),.d (il 0),.d (il 0),.d (il 0),.d (il 0),.d (il 0),.d (il 0),.d (il 0),.d (il 0),.d (il 0),.d (il 0),.d (il 0),.d (il 0),.d (il 0),.d (il 0),.d (il 0),.d (il 0),.d (il 0),.d (il 0),.d (il 0),.d (il 0)]),
 (43,[il 3,.lit (.slice none 0 0),.lit (.slice none 0 0),.lit (.slice none 0 0),il 0,il 0,il 0,.lit (.slice none 0 0),il 0,il 0,il 0,il 0,il 0,il 0,il 0,il 0,il 0,il 0,il 0,il 0,il 0,il 0,il 0,il 0,il 0,il 0,il 0,il 0,il 0,il 0,il 0,il 0,il 0,il 0,il 0,il 0,il 0,il 0,il 0,il 0,il 0,il 0,il 0,il 0,il 2,il 3,il 2,il 1,il 1,.lit (.slice none 0 0)],[.d (il 3),.d (.lit (.slice none 0 0)),.d (.lit (.slice none 0 0)),.d (.lit (.slice none 0 0)),.d (il 0),.d (il 0),.d (il 0),.d (.lit (.slice none 0 0)),.d (il 0),.d (il 0),.d (il 0),.d (il 0),.d (il 0),.d (il 0),.d (il 0),.d (il 0),.d (il 0),.d (il 0),.d (il 0),.d (il 0),.d (il 0),.d (il 0),.d (il 1),.d (il 0),.d (il 0),.d (il 0),.d (il 0),.d (il 0),.d (il 0),.d (il 0),.d (il 0),.d (il 0),.d (il 0),.d (il 0),.d (il 0),.d (il 0),.d (il 0),.d (il 0),.d (il 0),.d (il 0),.d (il 0),.d (il 0),.d (il 0),.d (il 0),.d (.sl 6 [[il 3,il 2,il 2,il 0,il 0,.lit (.slice none 0 0)]]),.d (il 0)]),
 (43,[il 2,.sl 3 [[il 0,il 21,sD T0]],.sl 3 [[il 0,il 21,sD T1]],.sl 3 [[il 0,il 21,sD T2]],il 1,il 1,il 1,.sl 8 [[il 2,il 0,il 5,il 10,il 12,il 0,il 0,sD TK]],il 0,il 0,il 0,il 0,il 0,il 0,il 0,il 0,il 0,il 0,il 0,il 0,il 0,il 0,il 0,il 0,il 0,il 0,il 0,il 0,il 0,il 0,il 0,il 0,il 0,il 0,il 0,il 0,il 0,il 0,il 0,il 0,il 0,il 0,il 0,il 0,il 3,il 2,il 2,il 0,il 0,.lit (.slice none 0 0)],[.d (il 2),.d (.sl 3 [[il 0,il 21,sD T0]]),.d (.sl 3 [[il 0,il 21,sD T1]]),.d (.sl 3 [[il 0,il 21,sD T2]]),.d (il 1),.d (il 1),.d (il 1),.d (.sl 8 [[il 2,il 0,il 5,il 10,il 12,il 0,il 0,sD TK]]),.d (il 0),.d (il 0),.d (il 0),.d (il 0),.d (il 0),.d (il 0),.d (il 0),.d (il 0),.d (il 0),.d (il 0),.d (il 0),.d (il 0),.d (il 0),.d (il 0),.d (il 0),.d (il 0),.d (il 0),.d (il 0),.d (il 0),.d (il 0),.d (il 0),.d (il 0),.d (il 0),.d (il 0),.d (il 0),.d (il 0),.d (il 0),.d (il 0),.d (il 0),.d (il 0),.d (il 0),.d (il 0),.d (il 0),.d (il 0),.d (il 0),.d (il 0),.d (.sl 6 [[il 2,il 3,il 2,il 1,il 0,.sl 8 [[il 2,il 0,il 5,il 10,il 12,il 0,il 0,sD TK]]]]),.d (il 0)]),
 (43,[il 3,.lit (.slice none 0 0),.lit (.slice none 0 0),.lit (.slice none 0 0),il 0,il 0,il 0,.lit (.slice none 0 0),il 0,il 0,il 0,il 0,il 0,il 0,il 0,il 0,il 0,il 0,il 0,il 0,il 0,il 0,il 1,il 0,il 0,il 0,il 0,il 0,il 0,il 0,il 0,il 0,il 0,il 0,il 0,il 0,il 0,il 0,il 0,il 0,il 0,il 0,il 0,il 0,il 2,il 3,il 2,il 1,il 0,.sl 8 [[il 2,il 0,il 5,il 10,il 12,il 0,il 0,sD TK]]],[.d (il 3),.d (.sl 3 [[il 0,il 21,sD T0]]),.d (.sl 3 [[il 0,il 21,sD T1]]),.d (.sl 3 [[il 0,il 21,sD T2]]),.d (il 1),.d (il 1),.d (il 1),.d (.sl 8 [[il 2,il 0,il 5,il 10,il 12,il 0,il 0,sD TK]]),.d (il 0),.d (il 0),.d (il 0),.d (il 0),.d (il 0),.d (il 0),.d (il 0),.d (il 0),.d (il 0),.d (il 0),.d (il 0),.d (il 0),.d (il 0),.d (il 0),.d (il 1),.d (il 0),.d (il 0),.d (il 0),.d (il 0),.d (il 0),.d (il 0),.d (il 0),.d (il 0),.d (il 0),.d (il 0),.d (il 0),.d (il 0),.d (il 0),.d (il 0),.d (il 0),.d (il 0),.d (il 0),.d (il 0),.d (il 0),.d (il 0),.d (il 0),.d (.lit (.slice none 0 0)),.d (il 0)])]
noncomputable def allT:List Ent→Prop
 | []=>True
 | e::r=>FN 14 e.1 e.2.1=some (0,e.2.2)∧allT r
theorem allT_mem:∀ {l:List Ent} {e:Ent},allT l→e∈l→FN 14 e.1 e.2.1=some (0,e.2.2)
 | x::r,e,h,he=>by
  rcases List.mem_cons.1 he with rfl | he
  ·exact h.1
  ·exact allT_mem h.2 he
theorem tab_ok:allT tabS:=⟨ve80,ve13,ve15a,ve15b,ve15c,ve18a,ve18b,ve21,ve29a,ve23a,ve29b,ve23b,ve27,ve29c,ve23c,ve37a,ve39,ve41,ve37b,ve43a,ve43b,ve43c,trivial⟩
def FnC (f:Nat) (xs:List D):Out:=match tabS.find? fun e=>Nat.beq e.1 f&&lsEq (dEq 4) e.2.1 xs with
 | some e=>some (0,e.2.2)
 | none=>none
theorem FnC_FN {f:Nat} {xs:List D} {o:Nat×List Yr} (h:FnC f xs=some o):FN 14 f xs=some o:=by
 unfold FnC at h
 split at h
 ·rename_i e he
  have h1:=List.find?_some he
  simp only [Bool.and_eq_true] at h1
  have h2:=allT_mem tab_ok (List.mem_of_find?_eq_some he)
  rw [Nat.eq_of_beq_eq_true h1.1,lsEq_eq (fun a b h=>dEq_eq 4 a b h) h1.2] at h2
  rw [h2,h]
 ·cases h
theorem FnC_ok:FnOK Tryz.prog (cf3 tb Tryz.prog) FnC:=fun f sh xs vs j ys rs h1 h2 h3 h4=>FN_ok 14 f sh xs vs j ys rs h1 h2 (FnC_FN h3) h4
theorem FnC_okM:FmOK Tryz.prog (cf3 tb Tryz.prog) FnC:=fun f ms xs zs h1 h2=>FN_okM 14 f ms xs zs h1 (FnC_FN h2)
theorem g20:G20 (real FnC (FnDof Tryz.prog (cf3 tb Tryz.prog) FnC) M0)=some (0,[.d (bl true)]):=by kernel_rfl
theorem sane_sc:SC Tryz.prog 20 [] (.one (.d (bl true))) :=
 fun3_sc (T:=tb) (P:=Tryz.prog) mixP FnC_ok FnC_okM spOK (fuel:=400) (m0:=M0) (xs:=[]) (j:=0) (ys:=[.d (bl true)]) (rs:=[(false,[.d])]) (by rw [prR];exact (G20_eq _).trans g20) (by decide) (sh:=[]) rfl rfl rfl
end Go.VE
namespace Go.VE
open Go.RowKit Go.Proofs
set_option maxRecDepth 100000
theorem o3 {n:Nat} {ds:List D} (h:HasT Tryz.prog (n+1) 3 ds):∃ z,ds=[il z]∧-9223372036854775808≤z∧z≤9223372036854775807:=h.int Tryz.underlying3
theorem o9 {n:Nat} {ds:List D} (h:HasT Tryz.prog (n+1) 9 ds):∃ s,ds=[sD s]∧s.length≤140737488351232:=by
 obtain ⟨s,rfl,hs⟩:=HasT.str Tryz.underlying9 h
 refine ⟨s.data.toList,?_,?_⟩
 ·show _=[D.lit (.string ⟨s.data.toList.toArray⟩)]
  rw [←hk_list s]
 ·have e:s.data.toList.length=s.size:=by simp only [Array.length_toList];rfl
  rw [e];exact hs
theorem o23 {n:Nat} {ds:List D} (h:HasT Tryz.prog (n+2) 23 ds):∃ a b,ds=[il a,il b]:=by
 obtain ⟨_,_,rfl,h1,_,_,rfl,h2,rfl⟩:=h.struct Tryz.underlying23 rfl
 obtain ⟨x,rfl,_⟩:=o3 h1
 obtain ⟨y,rfl,_⟩:=o3 h2
 exact ⟨x,y,rfl⟩
theorem o25 {n:Nat} {ds:List D} (h:HasT Tryz.prog (n+3) 25 ds):∃ r:Rec,ds=recR r∧r.tx.length≤140737488351232:=by
 obtain ⟨_,_,rfl,h1,_,_,rfl,h2,_,_,rfl,h3,_,_,rfl,h4,_,_,rfl,h5,_,_,rfl,h6,rfl⟩:=h.struct Tryz.underlying25 rfl
 obtain ⟨a,b,rfl⟩:=o23 h1
 obtain ⟨c,rfl,_⟩:=o3 h2
 obtain ⟨d,rfl,_⟩:=o3 h3
 obtain ⟨e,rfl,_⟩:=o3 h4
 obtain ⟨f,g,rfl⟩:=o23 h5
 obtain ⟨t,rfl,ht⟩:=o9 h6
 exact ⟨⟨a,b,c,d,e,f,g,t⟩,rfl,ht⟩
noncomputable def FnS (n:Nat) (f:Nat) (xs:List D):Out:=if f=20∧xs=[] then some (0,[.d (bl true)]) else FN n f xs
theorem FnS_ok (n:Nat):FnOK Tryz.prog (cf3 tb Tryz.prog) (FnS n):=by
 intro f sh xs vs j ys rs h1 h2 h3 h4
 unfold FnS at h3
 split at h3
 ·rename_i hc
  obtain ⟨rfl,rfl⟩:=hc
  simp only [Option.some.injEq,Prod.mk.injEq] at h3
  obtain ⟨rfl,rfl⟩:=h3
  have e1:(cf3 tb Tryz.prog).ash 20=some []:=rfl
  rw [e1] at h1
  cases h1
  cases h2
  have e2:((cf3 tb Tryz.prog).rsk 20)[0]?=some [(false,[.d])]:=rfl
  rw [e2] at h4
  cases h4
  exact sane_sc
 ·exact FN_ok n f sh xs vs j ys rs h1 h2 h3 h4
theorem FnS_20 (n:Nat):FnS n 20 []=some (0,[.d (bl true)]):=by simp [FnS]
theorem FnS_ne {n f:Nat} {xs:List D} {o:Out} (h:FN n f xs=o) (hf:f≠20):FnS n f xs=o:=by rw [←h];simp [FnS,hf]
theorem FnS_okM (n:Nat):FmOK Tryz.prog (cf3 tb Tryz.prog) (FnS n):=fun f ms xs zs h1 h2=>by
 rw [FnS_ne rfl (by omega)] at h2
 exact FN_okM n f ms xs zs h1 h2
end Go.VE
namespace Go.VE
open Go.RowKit Go.Proofs
set_option maxRecDepth 100000
section
variable {Fn:Nat→List D→Out} {FnD:D→List Sh→List D→Out}
def St3 (no:Int) (s:List UInt8):Option (List Strp):=some [spZ no s 0,spZ no s 1,spZ no s 2]
theorem St3_get {no:Int} {s:List UInt8} {i:Nat} (h:i < 3):((St3 no s).getD [])[i]?=some (spZ no s i):=by
 match i,h with
 | 0,_=>rfl
 | 1,_=>rfl
 | 2,_=>rfl
theorem mendZ_ok {no:Int} {s:List UInt8} (hs:s.all okB=true) (hw:∀ i:Nat,i < 3→wholeZ i (spZ no s i)=true) {i j:Nat} (hi:i < 3) (hj:j < 3) (hij:i≠j):mendZ i (spZ no s i) j (spZ no s j)=(s,0):=by
 unfold mendZ
 have h1:inZ (i:Int) 0 2=true:=inZ_iff.2 (by omega)
 have h2:inZ (j:Int) 0 2=true:=inZ_iff.2 (by omega)
 have h3:(i:Int)≠(j:Int):=by omega
 have e1:(spZ no s i).no=(spZ no s j).no:=rfl
 have e2:(spZ no s i).sz=(spZ no s j).sz:=rfl
 rw [if_pos (by simp [h1,h2,h3]),if_pos (by simp [hw i hi,hw j hj,e1,e2])]
 have ez:(spZ no s i).sz.toNat=s.length:=Int.toNat_natCast _
 rw [ez,Int.toNat_natCast,Int.toNat_natCast]
 split
 ·rw [show (spZ no s j).tx=third j s from rfl,show (spZ no s i).tx=third i s from rfl,mend_ok hs (by omega) hi]
 ·rw [show (spZ no s j).tx=third j s from rfl,show (spZ no s i).tx=third i s from rfl,mend_ok hs (by omega) hj]
theorem l6_0 {no:Int} {s:List UInt8} (left:D) (hs:s.all okB=true) (hw:∀ i:Nat,i < 3→wholeZ i (spZ no s i)=true)
  (h15:∀ q s o t,Fn 15 [il q,il s.no,il s.sz,sD s.tx,il o,il t.no,il t.sz,sD t.tx]=some (0,[.d (sD (mendZ q s o t).1),.d (il (mendZ q s o t).2)])) {i:Nat} (hi:i < 3) :
  loopR [L6_0 (real Fn FnD M0)] M0 0 [.d (il no),.d left,.d (sD s),.d (dP (St3 no s)),.d (il i),.d (il 0)]=some (1,[.d (il no),.d left,.d (sD s),.d (dP (St3 no s)),.d (il i)]):=by
 have:=cnt_loop (β:=Unit) 3 (by omega) (L6_0 (real Fn FnD M0)) (fun j _=>[.d (il no),.d left,.d (sD s),.d (dP (St3 no s)),.d (il i),.d (il j)]) (fun _ _=>True) (fun _ _=>some (1,[.d (il no),.d left,.d (sD s),.d (dP (St3 no s)),.d (il i)])) ?_ ?_ () trivial
 ·exact this
 ·intro _ k _
  simp only [L6_0,r_ld0,r_lds,r_liti,r_lss,show ¬ (((3:Nat):Int) < 3) by decide,decide_false,Bool.false_eq_true,if_false,r_cond,r_out]
 ·intro j _ k hj _ hwr ih
  have ih':=ih () trivial
  rw [cast1] at ih'
  simp only [L6_0,r_ld0,r_lds,r_liti,r_litb,r_lss,show ((j:Int) < 3) by omega,decide_true,if_true,r_cond,r_eql,r_add,hwr,rowP (St3_get hi),rowP (St3_get hj),cP0,cP1,cP2,r_call,h15,r_bnd0,r_neq,r_neqSs,r_out,ih']
  by_cases hij:i=j
  ·subst hij
   simp
  ·have:¬ ((j:Int)=(i:Int)):=by omega
   simp [mendZ_ok hs hw hi hj hij,this]
theorem third_pos {r:Rec} (h:okR r=true) (q:Nat):7≤(third q (txt r)).length:=by
 have:=txt_len h
 rw [third_len]
 omega
theorem l6_1 {no:Nat} {r:Rec} (left:Int) (hr:okR r=true) (hno:no < 60)
  (h15:∀ q s o t,Fn 15 [il q,il s.no,il s.sz,sD s.tx,il o,il t.no,il t.sz,sD t.tx]=some (0,[.d (sD (mendZ q s o t).1),.d (il (mendZ q s o t).2)]))
  (h18:∀ (q:Int) (s:Strp),Fn 18 [il q,il s.no,il s.sz,sD s.tx]=some (0,[.d (il (if inZ q 0 2=true then (if wholeZ q s=true then 0 else 84) else 1))]))
  (h33:∀ a m:Int,0 < m→m≤4611686018427387903→Fn 33 [il a,il m]=some (0,[.d (il (a % m))])) :
  loopR [L6_1 (real Fn FnD M0)] M0 0 [.d (il no),.d (il left),.d (sD (txt r)),.d (dP (St3 no (txt r))),.d (il 0)]=some (1,[]):=by
 have hs:=txt_all hr
 have hw:∀ i:Nat,i < 3→wholeZ i (spZ no (txt r) i)=true:=fun i _=>by
  rw [whole_Z]
  exact strip_whole hr hno i
 have hl:=txt_len hr
 have:=cnt_loop (β:=Unit) 3 (by omega) (L6_1 (real Fn FnD M0)) (fun j _=>[.d (il no),.d (il left),.d (sD (txt r)),.d (dP (St3 no (txt r))),.d (il j)]) (fun _ _=>True) (fun _ _=>some (1,[])) ?_ ?_ () trivial
 ·exact this
 ·intro _ k _
  simp only [L6_1,r_ld0,r_lds,r_liti,r_lss,show ¬ (((3:Nat):Int) < 3) by decide,decide_false,Bool.false_eq_true,if_false,r_cond,r_out]
 ·intro j _ k hj _ hwr ih
  have ih':=ih () trivial
  rw [cast1] at ih'
  have hq:inZ (j:Int) 0 2=true:=inZ_iff.2 (by omega)
  have hp:=third_pos hr j
  have c18:=h18 j (spZ no (txt r) j)
  rw [if_pos hq,if_pos (hw j hj)] at c18
  have hlen:(third j (txt r)).length=((txt r).length+1) / 2:=third_len _ _
  have hm1:=Int.emod_nonneg left (show ((third j (txt r)).length:Int)≠0 by omega)
  have hm2:=Int.emod_lt_of_pos left (show (0:Int) < ((third j (txt r)).length:Int) by omega)
  obtain ⟨u,hu⟩:=Int.eq_ofNat_of_zero_le hm1
  have c33:=h33 left ((third j (txt r)).length:Int) (by omega) (by omega)
  rw [hu] at c33
  have hu2:u < (third j (txt r)).length:=by omega
  have t18:=h18 j ⟨no,(txt r).length,(third j (txt r)).take u⟩
  have hwt:wholeZ j ⟨no,(txt r).length,(third j (txt r)).take u⟩=false:=by
   rw [whole_Z]
   exact strip_torn hu2
  rw [if_pos hq,hwt,if_neg (by decide)] at t18
  have c:∀ k:D→Out,(real Fn FnD M0).cutS (sD (third j (txt r))) none (some (il u)) k=k (sD ((third j (txt r)).take u)):=fun k=>r_cutSh (by omega) k
  have z1:(spZ no (txt r) j).no=no:=rfl
  have z2:(spZ no (txt r) j).sz=(txt r).length:=rfl
  have z3:(spZ no (txt r) j).tx=third j (txt r):=rfl
  simp only [z1,z2,z3] at c18 t18
  have l0:=l6_0 (FnD:=FnD) (il left) hs hw h15 hj
  simp only [L6_1,r_ld0,r_lds,r_liti,r_litb,r_lss,show ((j:Int) < 3) by omega,decide_true,if_true,r_cond,r_eql,r_add,hwr,rowP (St3_get hj),cP0,cP1,cP2,r_call,z1,z2,z3,c18,r_bnd0,r_neq,ne_eq,not_true,decide_false,Bool.false_eq_true,if_false,r_lenSs,show ¬ (((third j (txt r)).length:Int)=0) by omega,c33,c,t18,r_loop,l0,r_bnd1,ih']
theorem lawThirds {r:Rec} {no left:Int} (h20:Fn 20 []=some (0,[.d (bl true)]))
  (h15:∀ q s o t,Fn 15 [il q,il s.no,il s.sz,sD s.tx,il o,il t.no,il t.sz,sD t.tx]=some (0,[.d (sD (mendZ q s o t).1),.d (il (mendZ q s o t).2)]))
  (h18:∀ (q:Int) (s:Strp),Fn 18 [il q,il s.no,il s.sz,sD s.tx]=some (0,[.d (il (if inZ q 0 2=true then (if wholeZ q s=true then 0 else 84) else 1))]))
  (h33:∀ a m:Int,0 < m→m≤4611686018427387903→Fn 33 [il a,il m]=some (0,[.d (il (a % m))]))
  (h35:Fn 35 (recR r)=some (0,[.d (il (if okR r=true then 0 else 80))]))
  (h36:Fn 36 (recR r)=some (0,if okR r=true then [.d (sD (txt r)),.d (il 0)] else [.d (sD []),.d (il 80)]))
  (h13:∀ no,Fn 13 (recR r++[il no])=some (0,if okR r=true then (if inZ no 0 59=true then [.d (dP (some [spZ no (txt r) 0,spZ no (txt r) 1,spZ no (txt r) 2])),.d (il 0)] else [.d (.lit (.slice none 0 0)),.d (il 1)]) else [.d (.lit (.slice none 0 0)),.d (il 80)])) :
  G6 (real Fn FnD M0) (il r.p) (il r.no) (il r.kd) (il r.dy) (il r.kn) (il r.op) (il r.on) (sD r.tx) (il no) (il left)=some (0,[.d (bl true)]):=by
 have c33:=h33 no 60 (by decide) (by decide)
 have hm1:=Int.emod_nonneg no (show (60:Int)≠0 by decide)
 have hm2:=Int.emod_lt_of_pos no (show (0:Int) < 60 by decide)
 obtain ⟨u,hu⟩:=Int.eq_ofNat_of_zero_le hm1
 rw [hu] at c33 hm2
 have c13:=h13 u
 have hin:inZ (u:Int) 0 59=true:=inZ_iff.2 (by omega)
 rw [if_pos hin] at c13
 simp only [recR,List.cons_append,List.nil_append] at h35 h36 c13
 by_cases hr:okR r=true
 ·rw [if_pos hr] at h35 h36 c13
  have l1:=l6_1 (FnD:=FnD) (no:=u) left hr (by omega) h15 h18 h33
  simp only [G6,r_call,r_liti,r_litb,c33,h35,h36,c13,r_bnd0,r_ld0,r_lds,r_neq,ne_eq,not_true,decide_false,Bool.false_eq_true,if_false,r_cond,lenL,Option.getD_some,List.length_cons,List.length_nil,r_loop,show ((0+1+1+1:Nat):Int)=3 by decide]
  rw [show (some [spZ (u:Int) (txt r) 0,spZ u (txt r) 1,spZ u (txt r) 2])=St3 u (txt r) from rfl,l1]
  simp only [r_bnd1,h20,r_bnd0,r_ld0,r_out]
 ·rw [if_neg hr] at h35 h36 c13
  simp only [G6,r_call,r_liti,r_litb,c33,h35,c13,r_bnd0,r_ld0,r_lds,r_neq,ne_eq,show ¬ ((80:Int)=0) by decide,not_false_eq_true,decide_true,if_true,r_cond,r_eql,h20,r_out]
end
theorem bookThirds_sc (vds:List VD) (h:VTs Tryz.prog 8 [25,3,3] vds):SC Tryz.prog 6 vds (.one (.d (bl true))):=by
 obtain ⟨_,_,rfl,h1,h⟩:=VTs_cons h
 obtain ⟨_,_,rfl,h2,h⟩:=VTs_cons h
 obtain ⟨_,_,rfl,h3,h⟩:=VTs_cons h
 cases VTs_nil h
 obtain ⟨_,rfl,k1⟩:=h1.agg_ Tryz.underlying25
 obtain ⟨_,rfl,k2⟩:=h2.int_ Tryz.underlying3
 obtain ⟨_,rfl,k3⟩:=h3.int_ Tryz.underlying3
 obtain ⟨r,rfl,hr⟩:=o25 k1
 obtain ⟨a,e2,_⟩:=o3 k2
 cases e2
 obtain ⟨b,e3,_⟩:=o3 k3
 cases e3
 refine lawSC (T:=tb) (fuel:=400) (m0:=M0) (xs:=[il r.p,il r.no,il r.kd,il r.dy,il r.kn,il r.op,il r.on,sD r.tx,il a,il b]) mixP (FnS_ok 20) (FnS_okM 20) spOK (by decide) (sh:=[.agg 8,.one,.one]) rfl rfl rfl ?_
 rw [G6_eq]
 exact lawThirds (FnS_20 20) (fun q s o t=>FnS_ne (s15 17 q s o t) (by decide)) (fun q s=>FnS_ne (s18 17 q s) (by decide)) (fun a m h1 h2=>FnS_ne (s33 19 a m h1 h2) (by decide)) (FnS_ne (s35 16 r) (by decide)) (FnS_ne (s36 15 r) (by decide)) (fun no=>FnS_ne (s13 14 r no) (by decide))
end Go.VE
namespace Go.Proofs.YtipddjojdgapiaaGreatDoor
open Go.VE Go.RowKit Go.ChangeShapes Go.WideShapes
set_option maxRecDepth 100000
theorem bookThirds_lifted (os:Os) (started:os.Started) (H:Type) (enc:TypeId×Value→H) :
  ReturnsInHanded {} Tryz.checked os 6 .any (fun w args=>(Rows.bookThirdsSpec.pre enc Tryz.prog Tryz.f6 [] false w args∧laidMetH Tryz.prog laid5 w)∧sizedMet enc Tryz.prog Tryz.f6 (OpenSpec.ofChange Rows.bookThirdsSpec) false w args) (Rows.bookThirdsSpec.post enc Tryz.prog Tryz.f6 false true false false) :=
 lawInY (C:=Tryz.checked) (n:=8) (tb:=4) (X:=fun w _=>laidMetH Tryz.prog laid5 w) (fun _ _ _ hh h=>h.of_heap hh) own started (by kernel_rfl) Tryz.func6
  (ChangeSpec.witness_shaped (enc:=enc) (C:=Tryz.checked) (os:=os) (X:=fun w _=>laidMetH Tryz.prog laid5 w) false (World.laidAll Tryz.prog os laid5) #[.agg #[.int .i64 0,.int .i64 0,.int .i64 0,.int .i64 0,.int .i64 0,.int .i64 0,.int .i64 0,.string ⟨#[]⟩],.int .i64 0,.int .i64 0] 8 rfl (World.shaped_of_ZipB (by kernel_rfl) (by kernel_rfl)) (by kernel_rfl) (by kernel_rfl) (by kernel_rfl) (door_met os _))
  laidOut (by kernel_rfl) (by kernel_rfl) Tryz.underlying4 rfl
  (fun ds hd=>by
   rw [show Tryz.f6.params.toList=[25,3,3] by kernel_rfl] at hd
   match ds,hd with
   | [a,b,c],_=>rfl)
  (fun W args vds hsh hX h hv=>calls_of (bookThirds_sc vds (by
   have e:Tryz.f6.params.toList=[25,3,3]:=by kernel_rfl
   rw [e] at h;exact h)) hsh hX hv)
theorem bookThirds_row:Rows.BookThirdsSaid :=
 OpenClaim.holds_of_wide 6 Tryz.f6 rfl rfl rfl rfl rfl rfl rfl ⟨rfl,rfl,rfl,rfl,rfl⟩ rfl rfl rfl rfl rfl (by kernel_rfl) Tryz.func6 (by kernel_rfl)
  (of_decide_eq_true (by kernel_rfl)) (by unfold Func.isWrapper;first | (rw [if_pos (by decide +kernel)];kernel_rfl) | (rw [if_neg (by decide +kernel)];exact ⟨rfl,rfl⟩))
  (fun os started H enc _=>bookThirds_lifted os started H enc)
theorem bookThirds_holds:Rows.BookThirdsCardSaid :=
 Claim7.holds_tied_plain_at .later [] [.data,.data,.data,.sentinel,.sentinel] true (true, "d6cf3fcbdfa60de4d88a7efdcb7981466a561c4e3c6cf77be3be945176882af7") true
  bookThirds_row (fun _ h=>by cases h) (by kernel_rfl) (fun _ h=>by cases h) bookThirds_row_tie rfl ⟨rfl,rfl⟩ (by kernel_rfl) rfl
  (fun f fn hf hfn=>by
   obtain rfl:f=6:=Option.some.inj ((show Tryz.prog.funcNamed "leazing/leazinglaw08.BookThirds" = some 6 by kernel_rfl).symm.trans hf) |>.symm
   obtain rfl:fn=Tryz.f6:=(Option.some.inj (Tryz.func6.symm.trans hfn)).symm
   exact ⟨by kernel_rfl,fun j t ht=>by
    rw [Tryz.params6] at ht
    have hm:t∈[25,3,3]:=by simpa using Array.mem_of_getElem? ht
    have hall:([25,3,3].all fun u=>!Tryz.prog.wantsStandIn u)=true:=by kernel_rfl
    exact (show Tryz.prog.wantsStandIn t=false by simpa using List.all_eq_true.1 hall t hm)⟩)
  (by kernel_rfl)
#print axioms bookThirds_holds
end Go.Proofs.YtipddjojdgapiaaGreatDoor
