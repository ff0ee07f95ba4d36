/- The statement BookJoins: Join is the same both ways round; each of both books is within it; joining a book with itself, or with one that is within it, changes nothing; the book of a log does not depend on the order in which parishes took turns; for any books; the package-level variables that the card lists lie as the program's text lays them. -/
import Derived.Test.YtipddjojdgapiaaGreatDoorMg0
import Derived.Test.YtipddjojdgapiaaGreatDoorMg2
import Derived.Test.YtipddjojdgapiaaGreatDoorMg7
import Derived.Test.YtipddjojdgapiaaGreatDoorMh
namespace Go.VE
open Go.RowKit Go.Proofs
set_option maxRecDepth 1000000
set_option maxHeartbeats 0
def lsEq {α:Type} (e:α→α→Bool):List α→List α→Bool
 | [],[]=>true
 | a::l,b::r=>e a b&&lsEq e l r
 | _,_=>false
theorem lsEq_eq {α:Type} {e:α→α→Bool} (he:∀ a b,e a b=true→a=b):∀ {l r:List α},lsEq e l r=true→l=r
 | [],[],_=>rfl
 | a::l,b::r,h=>by
  simp only [lsEq,Bool.and_eq_true] at h
  rw [he a b h.1,lsEq_eq he h.2]
 | [],_::_,h=>by cases h
 | _::_,[],h=>by cases h
def dEq:Nat→D→D→Bool
 | _,.lit (.int .i64 a),.lit (.int .i64 b)=>decide (a=b)
 | _,.lit (.string a),.lit (.string b)=>decide (a.data.toList=b.data.toList)
 | _,.lit (.slice none 0 0),.lit (.slice none 0 0)=>true
 | n+1,.sl s r,.sl t q=>Nat.beq s t&&lsEq (lsEq (dEq n)) r q
 | _,_,_=>false
theorem dEq_eq:∀ (n:Nat) (a b:D),dEq n a b=true→a=b
 | n,a,b,h=>by
  unfold dEq at h
  split at h
  ·rw [decide_eq_true_eq] at h;rw [h]
  ·rename_i x y
   rw [decide_eq_true_eq] at h
   obtain ⟨⟨x⟩⟩:=x
   obtain ⟨⟨y⟩⟩:=y
   simp only at h
   rw [h]
  ·rfl
  ·rename_i m _ _ _ _
   simp only [Bool.and_eq_true] at h
   rw [Nat.eq_of_beq_eq_true h.1,lsEq_eq (fun _ _ h=>lsEq_eq (fun a b h=>dEq_eq m a b h) h) h.2]
  ·cases h
abbrev Ent:Type:=Nat×List D×List Yr
def tabS:List Ent:=[
 (80,[],[.d (il 2),.d (il 0),.d (il 5),.d (il 10),.d (il 12),.d (il 0),.d (il 0),.d (sD TK)]),
 (13,[il 2,il 0,il 5,il 10,il 12,il 0,il 0,sD TK,il 0],[.d (.sl 3 [[il 0,il 21,sD T0],[il 0,il 21,sD T1],[il 0,il 21,sD T2]]),.d (il 0)]),
 (15,[il 0,il 0,il 21,sD T0,il 2,il 0,il 21,sD T2],[.d (sD TX),.d (il 0)]),
 (15,[il 2,il 0,il 21,sD T2,il 1,il 0,il 21,sD T1],[.d (sD TX),.d (il 0)]),
 (15,[il 0,il 0,il 21,sD T0,il 0,il 0,il 21,sD T0],[.d (sD []),.d (il 1)]),
 (18,[il 0,il 0,il 21,sD T1],[.d (il 0)]),
 (18,[il 1,il 0,il 21,sD T0],[.d (il 84)]),
 (21,[.lit (.slice none 0 0),.lit (.slice none 0 0),.lit (.slice none 0 0),il 0,il 0,il 0,.lit (.slice none 0 0),il 2,il 0,il 5,il 10,il 12,il 0,il 0,sD TK],[.d (.sl 3 [[il 0,il 21,sD T0]]),.d (.sl 3 [[il 0,il 21,sD T1]]),.d (.sl 3 [[il 0,il 21,sD T2]]),.d (il 0),.d (il 0),.d (il 0),.d (.sl 8 [[il 2,il 0,il 5,il 10,il 12,il 0,il 0,sD TK]]),.d (il 0)]),
 (29,[.sl 3 [[il 0,il 21,sD T0]],.sl 3 [[il 0,il 21,sD T1]],.sl 3 [[il 0,il 21,sD T2]],il 0,il 0,il 0,.sl 1 [[il 3],[il 2],[il 0],[il 0],[il 0],[il 2],[il 0]]],[.d (.sl 3 [[il 0,il 21,sD T0]]),.d (.sl 3 []),.d (.sl 3 [[il 0,il 21,sD T2]]),.d (il 0),.d (il 0),.d (il 0)]),
 (23,[.sl 3 [[il 0,il 21,sD T0]],.sl 3 [],.sl 3 [[il 0,il 21,sD T2]],il 0,il 0,il 0],[.d (.sl 3 [[il 0,il 21,sD T0]]),.d (.sl 3 [[il 0,il 21,sD T1]]),.d (.sl 3 [[il 0,il 21,sD T2]]),.d (il 1),.d (il 1),.d (il 1),.d (.sl 8 [[il 2,il 0,il 5,il 10,il 12,il 0,il 0,sD TK]])]),
 (29,[.sl 3 [[il 0,il 21,sD T0]],.sl 3 [[il 0,il 21,sD T1]],.sl 3 [[il 0,il 21,sD T2]],il 0,il 0,il 0,.sl 1 [[il 3],[il 2],[il 0],[il 0],[il 0],[il 1],[il 4]]],[.d (.sl 3 [[il 0,il 21,sD T0]]),.d (.sl 3 []),.d (.sl 3 [[il 0,il 21,sD (T2.take 4)]]),.d (il 0),.d (il 0),.d (il 0)]),
 (23,[.sl 3 [[il 0,il 21,sD T0]],.sl 3 [],.sl 3 [[il 0,il 21,sD (T2.take 4)]],il 0,il 0,il 0],[.d (.lit (.slice none 0 0)),.d (.lit (.slice none 0 0)),.d (.lit (.slice none 0 0)),.d (il 0),.d (il 0),.d (il 0),.d (.lit (.slice none 0 0))]),
 (27,[.sl 3 [[il 0,il 21,sD T0]],.sl 3 [[il 0,il 21,sD T1]],.sl 3 [[il 0,il 21,sD T2]],il 0,il 0,il 0],[.d (.sl 3 [[il 0,il 21,sD T0]]),.d (.sl 3 [[il 0,il 21,sD T1]]),.d (.sl 3 [[il 0,il 21,sD T2]]),.d (il 1),.d (il 1),.d (il 1)]),
 (29,[.sl 3 [[il 0,il 21,sD T0]],.sl 3 [[il 0,il 21,sD T1]],.sl 3 [[il 0,il 21,sD T2]],il 1,il 1,il 1,.sl 1 [[il 1]]],[.d (.sl 3 [[il 0,il 21,sD T0]]),.d (.lit (.slice none 0 0)),.d (.sl 3 [[il 0,il 21,sD T2]]),.d (il 1),.d (il 0),.d (il 1)]),
 (23,[.sl 3 [[il 0,il 21,sD T0]],.lit (.slice none 0 0),.sl 3 [[il 0,il 21,sD T2]],il 1,il 0,il 1],[.d (.sl 3 [[il 0,il 21,sD T0]]),.d (.sl 3 [[il 0,il 21,sD T1]]),.d (.sl 3 [[il 0,il 21,sD T2]]),.d (il 1),.d (il 1),.d (il 1),.d (.sl 8 [[il 2,il 0,il 5,il 10,il 12,il 0,il 0,sD TK]])]),
 (37,[il 2],[.d (il 2),.d (.lit (.slice none 0 0)),.d (.lit (.slice none 0 0)),.d (.lit (.slice none 0 0)),.d (il 0),.d (il 0),.d (il 0),.d (.lit (.slice none 0 0)),.d (il 0),.d (il 0),.d (il 0),.d (il 0),.d (il 0),.d (il 0),.d (il 0),.d (il 0),.d (il 0),.d (il 0),.d (il 0),.d (il 0),.d (il 0),.d (il 0),.d (il 0),.d (il 0),.d (il 0),.d (il 0),.d (il 0),.d (il 0),.d (il 0),.d (il 0),.d (il 0),.d (il 0),.d (il 0),.d (il 0),.d (il 0),.d (il 0),.d (il 0),.d (il 0),.d (il 0),.d (il 0),.d (il 0),.d (il 0),.d (il 0),.d (il 0),.d (il 0)]),
 (39,[il 2,.lit (.slice none 0 0),.lit (.slice none 0 0),.lit (.slice none 0 0),il 0,il 0,il 0,.lit (.slice none 0 0),il 0,il 0,il 0,il 0,il 0,il 0,il 0,il 0,il 0,il 0,il 0,il 0,il 0,il 0,il 0,il 0,il 0,il 0,il 0,il 0,il 0,il 0,il 0,il 0,il 0,il 0,il 0,il 0,il 0,il 0,il 0,il 0,il 0,il 0,il 0,il 0,il 2,il 0,il 5,il 10,il 12,il 0,il 0,sD TK],[.d (il 2),.d (.sl 3 [[il 0,il 21,sD T0]]),.d (.sl 3 [[il 0,il 21,sD T1]]),.d (.sl 3 [[il 0,il 21,sD T2]]),.d (il 0),.d (il 0),.d (il 0),.d (.sl 8 [[il 2,il 0,il 5,il 10,il 12,il 0,il 0,sD TK]]),.d (il 0),.d (il 0),.d (il 0),.d (il 0),.d (il 0),.d (il 0),.d (il 0),.d (il 0),.d (il 0),.d (il 0),.d (il 0),.d (il 0),.d (il 0),.d (il 0),.d (il 0),.d (il 0),.d (il 0),.d (il 0),.d (il 0),.d (il 0),.d (il 0),.d (il 0),.d (il 0),.d (il 0),.d (il 0),.d (il 0),.d (il 0),.d (il 0),.d (il 0),.d (il 0),.d (il 0),.d (il 0),.d (il 0),.d (il 0),.d (il 0),.d (il 0),.d (il 2),.d (il 0),.d (il 5),.d (il 10),.d (il 12),.d (il 0),.d (il 0),.d (sD TK),.d (il 0)]),
 (41,[il 2,.sl 3 [[il 0,il 21,sD T0]],.sl 3 [[il 0,il 21,sD T1]],.sl 3 [[il 0,il 21,sD T2]],il 0,il 0,il 0,.sl 8 [[il 2,il 0,il 5,il 10,il 12,il 0,il 0,sD TK]],il 0,il 0,il 0,il 0,il 0,il 0,il 0,il 0,il 0,il 0,il 0,il 0,il 0,il 0,il 0,il 0,il 0,il 0,il 0,il 0,il 0,il 0,il 0,il 0,il 0,il 0,il 0,il 0,il 0,il 0,il 0,il 0,il 0,il 0,il 0,il 0,il 3,il 2],[.d (il 2),.d (.sl 3 [[il 0,il 21,sD T0]]),.d (.sl 3 [[il 0,il 21,sD T1]]),.d (.sl 3 [[il 0,il 21,sD T2]]),.d (il 1),.d (il 1),.d (il 1),.d (.sl 8 [[il 2,il 0,il 5,il 10,il 12,il 0,il 0,sD TK]]),.d (il 0),.d (il 0),.d (il 0),.d (il 0),.d (il 0),.d (il 0),.d (il 0),.d (il 0),.d (il 0),.d (il 0),.d (il 0),.d (il 0),.d (il 0),.d (il 0),.d (il 0),.d (il 0),.d (il 0),.d (il 0),.d (il 0),.d (il 0),.d (il 0),.d (il 0),.d (il 0),.d (il 0),.d (il 0),.d (il 0),.d (il 0),.d (il 0),.d (il 0),.d (il 0),.d (il 0),.d (il 0),.d (il 0),.d (il 0),.d (il 0),.d (il 0),.d (il 2),.d (il 3),.d (il 2),.d (il 1),.d (il 1),.d (.lit (.slice none 0 0)),.d (il 0)]),
 (37,[il 3],[.d (il 3),.d (.lit (.slice none 0 0)),.d (.lit (.slice none 0 0)),.d (.lit (.slice none 0 0)),.d (il 0),.d (il 0),.d (il 0),.d (.lit (.slice none 0 0)),.d (il 0),.d (il 0),.d (il 0),.d (il 0),.d (il 0),.d (il 0),.d (il 0),.d (il 0),.d (il 0),.d (il 0),.d (il 0),.d (il 0),.d (il 0),.d (il 0),.d (il 0),.d (il 0),.d (il 0),.d (il 0),.d (il 0),.d (il 0),.d (il 0),.d (il 0),.d (il 0),.d (il 0),.d (il 0),.d (il 0),.d (il 0),.d (il 0),.d (il 0),.d (il 0),.d (il 0),.d (il 0),.d (il 0),.d (il 0),.d (il 0),.d (il 0),.d (il 0)]),
 (43,[il 3,.lit (.slice none 0 0),.lit (.slice none 0 0),.lit (.slice none 0 0),il 0,il 0,il 0,.lit (.slice none 0 0),il 0,il 0,il 0,il 0,il 0,il 0,il 0,il 0,il 0,il 0,il 0,il 0,il 0,il 0,il 0,il 0,il 0,il 0,il 0,il 0,il 0,il 0,il 0,il 0,il 0,il 0,il 0,il 0,il 0,il 0,il 0,il 0,il 0,il 0,il 0,il 0,il 2,il 3,il 2,il 1,il 1,.lit (.slice none 0 0)],[.d (il 3),.d (.lit (.slice none 0 0)),.d (.lit (.slice none 0 0)),.d (.lit (.slice none 0 0)),.d (il 0),.d (il 0),.d (il 0),.d (.lit (.slice none 0 0)),.d (il 0),.d (il 0),.d (il 0),.d (il 0),.d (il 0),.d (il 0),.d (il 0),.d (il 0),.d (il 0),.d (il 0),.d (il 0),.d (il 0),.d (il 0),.d (il 0),.d (il 1),.d (il 0),.d (il 0),.d (il 0),.d (il 0),.d (il 0),.d (il 0),.d (il 0),.d (il 0),.d (il 0),.d (il 0),.d (il 0),.d (il 0),.d (il 0),.d (il 0),.d (il 0),.d (il 0),.d (il 0),.d (il 0),.d (il 0),.d (il 0),.d (il 0),.d (.sl 6 [[il 3,il 2,il 2,il 0,il 0,.lit (.slice none 0 0)]]),.d (il 0)]),
 (43,[il 2,.sl 3 [[il 0,il 21,sD T0]],.sl 3 [[il 0,il 21,sD T1]],.sl 3 [[il 0,il 21,sD T2]],il 1,il 1,il 1,.sl 8 [[il 2,il 0,il 5,il 10,il 12,il 0,il 0,sD TK]],il 0,il 0,il 0,il 0,il 0,il 0,il 0,il 0,il 0,il 0,il 0,il 0,il 0,il 0,il 0,il 0,il 0,il 0,il 0,il 0,il 0,il 0,il 0,il 0,il 0,il 0,il 0,il 0,il 0,il 0,il 0,il 0,il 0,il 0,il 0,il 0,il 3,il 2,il 2,il 0,il 0,.lit (.slice none 0 0)],[.d (il 2),.d (.sl 3 [[il 0,il 21,sD T0]]),.d (.sl 3 [[il 0,il 21,sD T1]]),.d (.sl 3 [[il 0,il 21,sD T2]]),.d (il 1),.d (il 1),.d (il 1),.d (.sl 8 [[il 2,il 0,il 5,il 10,il 12,il 0,il 0,sD TK]]),.d (il 0),.d (il 0),.d (il 0),.d (il 0),.d (il 0),.d (il 0),.d (il 0),.d (il 0),.d (il 0),.d (il 0),.d (il 0),.d (il 0),.d (il 0),.d (il 0),.d (il 0),.d (il 0),.d (il 0),.d (il 0),.d (il 0),.d (il 0),.d (il 0),.d (il 0),.d (il 0),.d (il 0),.d (il 0),.d (il 0),.d (il 0),.d (il 0),.d (il 0),.d (il 0),.d (il 0),.d (il 0),.d (il 0),.d (il 0),.d (il 0),.d (il 0),.d (.sl 6 [[il 2,il 3,il 2,il 1,il 0,.sl 8 [[il 2,il 0,il 5,il 10,il 12,il 0,il 0,sD TK]]]]),.d (il 0)]),
 (43,[il 3,.lit (.slice none 0 0),.lit (.slice none 0 0),.lit (.slice none 0 0),il 0,il 0,il 0,.lit (.slice none 0 0),il 0,il 0,il 0,il 0,il 0,il 0,il 0,il 0,il 0,il 0,il 0,il 0,il 0,il 0,il 1,il 0,il 0,il 0,il 0,il 0,il 0,il 0,il 0,il 0,il 0,il 0,il 0,il 0,il 0,il 0,il 0,il 0,il 0,il 0,il 0,il 0,il 2,il 3,il 2,il 1,il 0,.sl 8 [[il 2,il 0,il 5,il 10,il 12,il 0,il 0,sD TK]]],[.d (il 3),.d (.sl 3 [[il 0,il 21,sD T0]]),.d (.sl 3 [[il 0,il 21,sD T1]]),.d (.sl 3 [[il 0,il 21,sD T2]]),.d (il 1),.d (il 1),.d (il 1),.d (.sl 8 [[il 2,il 0,il 5,il 10,il 12,il 0,il 0,sD TK]]),.d (il 0),.d (il 0),.d (il 0),.d (il 0),.d (il 0),.d (il 0),.d (il 0),.d (il 0),.d (il 0),.d (il 0),.d (il 0),.d (il 0),.d (il 0),.d (il 0),.d (il 1),.d (il 0),.d (il 0),.d (il 0),.d (il 0),.d (il 0),.d (il 0),.d (il 0),.d (il 0),.d (il 0),.d (il 0),.d (il 0),.d (il 0),.d (il 0),.d (il 0),.d (il 0),.d (il 0),.d (il 0),.d (il 0),.d (il 0),.d (il 0),.d (il 0),.d (.lit (.slice none 0 0)),.d (il 0)])]
noncomputable def allT:List Ent→Prop
 | []=>True
 | e::r=>FN 14 e.1 e.2.1=some (0,e.2.2)∧allT r
theorem allT_mem:∀ {l:List Ent} {e:Ent},allT l→e∈l→FN 14 e.1 e.2.1=some (0,e.2.2)
 | x::r,e,h,he=>by
  rcases List.mem_cons.1 he with rfl | he
  ·exact h.1
  ·exact allT_mem h.2 he
theorem tab_ok:allT tabS:=⟨ve80,ve13,ve15a,ve15b,ve15c,ve18a,ve18b,ve21,ve29a,ve23a,ve29b,ve23b,ve27,ve29c,ve23c,ve37a,ve39,ve41,ve37b,ve43a,ve43b,ve43c,trivial⟩
def FnC (f:Nat) (xs:List D):Out:=match tabS.find? fun e=>Nat.beq e.1 f&&lsEq (dEq 4) e.2.1 xs with
 | some e=>some (0,e.2.2)
 | none=>none
theorem FnC_FN {f:Nat} {xs:List D} {o:Nat×List Yr} (h:FnC f xs=some o):FN 14 f xs=some o:=by
 unfold FnC at h
 split at h
 ·rename_i e he
  have h1:=List.find?_some he
  simp only [Bool.and_eq_true] at h1
  have h2:=allT_mem tab_ok (List.mem_of_find?_eq_some he)
  rw [Nat.eq_of_beq_eq_true h1.1,lsEq_eq (fun a b h=>dEq_eq 4 a b h) h1.2] at h2
  rw [h2,h]
 ·cases h
theorem FnC_ok:FnOK Tryz.prog (cf3 tb Tryz.prog) FnC:=fun f sh xs vs j ys rs h1 h2 h3 h4=>FN_ok 14 f sh xs vs j ys rs h1 h2 (FnC_FN h3) h4
theorem FnC_okM:FmOK Tryz.prog (cf3 tb Tryz.prog) FnC:=fun f ms xs zs h1 h2=>FN_okM 14 f ms xs zs h1 (FnC_FN h2)
theorem g20:G20 (real FnC (FnDof Tryz.prog (cf3 tb Tryz.prog) FnC) M0)=some (0,[.d (bl true)]):=by kernel_rfl
theorem sane_sc:SC Tryz.prog 20 [] (.one (.d (bl true))) :=
 fun3_sc (T:=tb) (P:=Tryz.prog) mixP FnC_ok FnC_okM spOK (fuel:=400) (m0:=M0) (xs:=[]) (j:=0) (ys:=[.d (bl true)]) (rs:=[(false,[.d])]) (by rw [prR];exact (G20_eq _).trans g20) (by decide) (sh:=[]) rfl rfl rfl
end Go.VE
namespace Go.VE
open Go.RowKit Go.Proofs
set_option maxRecDepth 100000
theorem o3 {n:Nat} {ds:List D} (h:HasT Tryz.prog (n+1) 3 ds):∃ z,ds=[il z]∧-9223372036854775808≤z∧z≤9223372036854775807:=h.int Tryz.underlying3
theorem o9 {n:Nat} {ds:List D} (h:HasT Tryz.prog (n+1) 9 ds):∃ s,ds=[sD s]∧s.length≤140737488351232:=by
 obtain ⟨s,rfl,hs⟩:=HasT.str Tryz.underlying9 h
 refine ⟨s.data.toList,?_,?_⟩
 ·show _=[D.lit (.string ⟨s.data.toList.toArray⟩)]
  rw [←hk_list s]
 ·have e:s.data.toList.length=s.size:=by simp only [Array.length_toList];rfl
  rw [e];exact hs
theorem o23 {n:Nat} {ds:List D} (h:HasT Tryz.prog (n+2) 23 ds):∃ a b,ds=[il a,il b]:=by
 obtain ⟨_,_,rfl,h1,_,_,rfl,h2,rfl⟩:=h.struct Tryz.underlying23 rfl
 obtain ⟨x,rfl,_⟩:=o3 h1
 obtain ⟨y,rfl,_⟩:=o3 h2
 exact ⟨x,y,rfl⟩
theorem o25 {n:Nat} {ds:List D} (h:HasT Tryz.prog (n+3) 25 ds):∃ r:Rec,ds=recR r∧r.tx.length≤140737488351232:=by
 obtain ⟨_,_,rfl,h1,_,_,rfl,h2,_,_,rfl,h3,_,_,rfl,h4,_,_,rfl,h5,_,_,rfl,h6,rfl⟩:=h.struct Tryz.underlying25 rfl
 obtain ⟨a,b,rfl⟩:=o23 h1
 obtain ⟨c,rfl,_⟩:=o3 h2
 obtain ⟨d,rfl,_⟩:=o3 h3
 obtain ⟨e,rfl,_⟩:=o3 h4
 obtain ⟨f,g,rfl⟩:=o23 h5
 obtain ⟨t,rfl,ht⟩:=o9 h6
 exact ⟨⟨a,b,c,d,e,f,g,t⟩,rfl,ht⟩
noncomputable def FnS (n:Nat) (f:Nat) (xs:List D):Out:=if f=20∧xs=[] then some (0,[.d (bl true)]) else FN n f xs
theorem FnS_ok (n:Nat):FnOK Tryz.prog (cf3 tb Tryz.prog) (FnS n):=by
 intro f sh xs vs j ys rs h1 h2 h3 h4
 unfold FnS at h3
 split at h3
 ·rename_i hc
  obtain ⟨rfl,rfl⟩:=hc
  simp only [Option.some.injEq,Prod.mk.injEq] at h3
  obtain ⟨rfl,rfl⟩:=h3
  have e1:(cf3 tb Tryz.prog).ash 20=some []:=rfl
  rw [e1] at h1
  cases h1
  cases h2
  have e2:((cf3 tb Tryz.prog).rsk 20)[0]?=some [(false,[.d])]:=rfl
  rw [e2] at h4
  cases h4
  exact sane_sc
 ·exact FN_ok n f sh xs vs j ys rs h1 h2 h3 h4
theorem FnS_20 (n:Nat):FnS n 20 []=some (0,[.d (bl true)]):=by simp [FnS]
theorem FnS_ne {n f:Nat} {xs:List D} {o:Out} (h:FN n f xs=o) (hf:f≠20):FnS n f xs=o:=by rw [←h];simp [FnS,hf]
theorem FnS_okM (n:Nat):FmOK Tryz.prog (cf3 tb Tryz.prog) (FnS n):=fun f ms xs zs h1 h2=>by
 rw [FnS_ne rfl (by omega)] at h2
 exact FN_okM n f ms xs zs h1 h2
end Go.VE
namespace Go.VE
open Go.RowKit Go.Proofs Go.Lib
set_option maxRecDepth 100000
def withinB (a b:List Rec):Bool:=a.all fun r=>b.find? (fun x=>sameI x r)==some r
theorem l61 (n:Nat) (a b:Option (List Rec)) (hla:(a.getD []).length≤4611686018427387904) (c124:∀ p no,FN n 124 [dR b,il p,il no]=some (0,[.d (il (fdZ (fdx p no (b.getD []))))])) :
  loopR [L61_0 (RP n)] M0 0 [.d (dR b),.d (dR a),.d (il (a.getD []).length),.d (il 0)]=(match withinB (a.getD []) (b.getD []) with
   | true=>some (0,[])
   | false=>some (1,[.d (bl false)])):=by
 have:=range_loop (β:=Unit) (a.getD []) hla (L61_0 (RP n)) (fun i _=>[.d (dR b),.d (dR a),.d (il (a.getD []).length),.d (il i)]) (fun _ _=>True)
  (fun _ t _=>match withinB t (b.getD []) with
   | true=>some (0,[])
   | false=>some (1,[.d (bl false)])) ?_ ?_ M0 () trivial (M0_big hla)
 ·exact this
 ·intro _ k _
  simp only [L61_0,r_ld0,r_lds,r_lss,Int.lt_irrefl,decide_false,Bool.false_eq_true,if_false,r_cond,r_out]
  rfl
 ·intro i c t _ k hi hd hlt hw _ ih
  have hlt':(i:Int) < ((a.getD []).length:Int):=by omega
  have ih':=ih () trivial
  rw [cast1] at ih'
  have cc:=c124 c.p c.no
  have hf:=fdx_find c (b.getD [])
  have ew:withinB (c::t) (b.getD [])=(((b.getD []).find? fun x=>sameI x c)==some c&&withinB t (b.getD [])):=rfl
  rw [ew]
  cases hx:fdx c.p c.no (b.getD []) with
  | none =>
   rw [hx] at hf cc
   simp only at hf
   simp only [fdZ] at cc
   rw [hf]
   simp only [L61_0,r_ld0,r_lds,r_lss,hlt',decide_true,if_true,r_cond,rowR hi,cR0,cR1,r_call,cc,r_bnd0,r_liti,r_litb,show ((-1:Int) < 0) by decide,r_out]
   rfl
  | some j =>
   rw [hx] at hf cc
   simp only at hf
   simp only [fdZ] at cc
   obtain ⟨x,hj,hf⟩:=hf
   rw [hf]
   have hnj:¬ ((j:Int) < 0):=by omega
   simp only [L61_0,r_ld0,r_lds,r_lss,hlt',decide_true,if_true,r_cond,rowR hi,cR0,cR1,cR2,cR3,cR4,cR5,cR6,cR7,r_call,cc,r_bnd0,r_liti,r_litb,hnj,decide_false,Bool.false_eq_true,if_false,rowR hj,eqR,r_out,r_add,hw,ih']
   by_cases he:x=c
   ·have e:(some x==some c)=true:=by simp [he]
    simp only [he,decide_true,Bool.not_true,Bool.false_eq_true,if_false,BEq.rfl,Bool.true_and]
   ·have e:(some x==some c)=false:=by simp [he]
    rw [e]
    simp only [he,decide_false,Bool.not_false,if_true,Bool.false_and]
theorem s61 (n:Nat) (a b:Option (List Rec)) (hla:(a.getD []).length≤4611686018427387904) (hlb:(b.getD []).length≤4611686018427387904):FN (n+2) 61 [dR a,dR b]=some (0,[.d (bl (withinB (a.getD []) (b.getD [])))]):=by
 have l:=l61 (n+1) a b hla fun p no=>s124 n b p no hlb
 rw [F61]
 simp only [G61,lenL,r_loop,r_liti,l,r_litb]
 cases withinB (a.getD []) (b.getD [])<;>rfl
theorem within_of {a b:List Rec} (hb:isLog b=true) (h:∀ r∈a,r∈b):withinB a b=true:=by
 unfold withinB
 rw [List.all_eq_true]
 intro r hr
 have hm:=h r hr
 cases hf:b.find? fun x=>sameI x r with
 | none=>exact absurd (same_refl r) (List.find?_eq_none.1 hf r hm)
 | some x =>
  have hs:sameI x r=true:=List.find?_some (p:=fun x=>sameI x r) hf
  rw [same_eq hb (List.mem_of_find?_eq_some hf) hm hs]
  simp
section
variable {Fn:Nat→List D→Out} {FnD:D→List Sh→List D→Out}
theorem l10_0 (a:Option (List Rec)) (a1 e c:D) (no:Nat) (hl:(a.getD []).length≤60) (acc:List Rec) (hacc:acc.length≤3600) :
  loopR [L10_0 (real Fn FnD M0)] M0 0 [.d (dR a),.d a1,.d e,.n acc.length,.d (il no),.d (il (((a.getD []).length:Int) - 1)),.r (acc.map recR),.d c] =
   some (0,[.d (dR a),.d a1,.d e,.n (acc++((a.getD []).reverse.filter fun r=>decide (r.no=(no:Int)))).length,.d (il no),.r ((acc++((a.getD []).reverse.filter fun r=>decide (r.no=(no:Int)))).map recR),.d c]):=by
 have:=loop_ms (σ:=Nat×List Rec) [L10_0 (real Fn FnD M0)] (fun s=>(0,[.d (dR a),.d a1,.d e,.n s.2.length,.d (il no),.d (il ((s.1:Int) - 1)),.r (s.2.map recR),.d c])) (fun s=>s.1) (fun s=>s.1≤(a.getD []).length∧s.2.length+s.1≤3660)
  (fun s=>some (0,[.d (dR a),.d a1,.d e,.n (s.2++(((a.getD []).take s.1).reverse.filter fun r=>decide (r.no=(no:Int)))).length,.d (il no),.r ((s.2++(((a.getD []).take s.1).reverse.filter fun r=>decide (r.no=(no:Int)))).map recR),.d c])) ?_ M0 ((a.getD []).length,acc) ⟨Nat.le_refl _,by simp only;omega⟩ (by simp only [M0];omega)
 ·simpa using this
 ·rintro ⟨j,acc⟩ k ⟨h1,h2⟩ ih
  refine ⟨_,rfl,?_⟩
  simp only at h1 h2 ⊢
  cases j with
  | zero =>
   have h0:¬ ((0:Int)≤(((0:Nat):Int) - 1)):=by decide
   simp only [L10_0,r_ld0,r_lds,r_ln0,r_lns,r_lr0,r_lrs,r_geq,h0,decide_false,Bool.false_eq_true,if_false,r_liti,r_cond,r_out,List.take_zero,List.reverse_nil,List.filter_nil,List.append_nil]
  | succ j =>
   obtain ⟨x,hx⟩:∃ x,(a.getD [])[j]?=some x:=⟨(a.getD [])[j]'(by omega),by simp⟩
   have e0:(((j+1:Nat):Int) - 1)=(j:Int):=by omega
   have w1:IntKind.i64.wrap ((j:Int) - 1)=(j:Int) - 1:=wrap_id (by omega) (by omega)
   have et:((a.getD []).take (j+1)).reverse=x::((a.getD []).take j).reverse:=by rw [take_snoc hx,List.reverse_append];rfl
   have hm:(acc.map recR).length=acc.length:=List.length_map _
   have f1:(acc.length+1)*72≤140737488355328∧acc.length+1≤9223372036854775807:=by omega
   rw [e0,et]
   by_cases hn:x.no=(no:Int)
   ·have ih':=ih (j,acc++[x]) ⟨by simp only;omega,by simp only [List.length_append,List.length_singleton];omega⟩ (by simp only;omega)
    have hd:decide (x.no=(no:Int))=true:=decide_eq_true hn
    have step:L10_0 (real Fn FnD M0) k [.d (dR a),.d a1,.d e,.n acc.length,.d (il no),.d (il (j:Int)),.r (acc.map recR),.d c]=k 0 [.d (dR a),.d a1,.d e,.n (acc++[x]).length,.d (il no),.d (il ((j:Int) - 1)),.r ((acc++[x]).map recR),.d c]:=by
     rw [List.length_append,List.map_append]
     simp only [L10_0,r_ld0,r_lds,r_ln0,r_lns,r_lr0,r_lrs,r_geq,show (0:Int)≤(j:Int) by omega,decide_true,if_true,r_liti,r_cond,rowR hx,cR0,cR1,cR2,cR3,cR4,cR5,cR6,cR7,r_eql,hd,r_natN,r_rows,r_len,List.length_cons,List.length_nil,Nat.zero_add,r_eqN,hm,r_seg0,List.take_succ_cons,List.take_zero,r_addN,r_fitsg,if_pos f1,r_sub,w1,r_app]
     rfl
    rw [List.filter_cons,if_pos hd,step]
    simp only at ih'
    rw [ih',List.append_assoc,List.singleton_append]
   ·have ih':=ih (j,acc) ⟨by simp only;omega,by simp only;omega⟩ (by simp only;omega)
    rw [List.filter_cons,if_neg (by simpa using hn)]
    simp only [L10_0,r_ld0,r_lds,r_ln0,r_lns,r_lr0,r_lrs,r_geq,show (0:Int)≤(j:Int) by omega,decide_true,if_true,r_liti,r_cond,rowR hx,cR1,r_eql,hn,decide_false,Bool.false_eq_true,if_false,r_sub,w1]
    exact ih'
theorem turns_len (a:List Rec) (ha:a.length≤60):∀ m,((List.range m).flatMap fun no:Nat=>a.reverse.filter fun r=>decide (r.no=(no:Int))).length≤60*m
 | 0=>by simp
 | m+1=>by
  have h:=turns_len a ha m
  rw [List.range_succ,List.flatMap_append,List.length_append]
  have h2:=List.length_filter_le (fun r:Rec=>decide (r.no=(m:Int))) a.reverse
  rw [List.length_reverse] at h2
  simp only [List.flatMap_cons,List.flatMap_nil,List.append_nil]
  omega
theorem l10_1 (a:Option (List Rec)) (a1 e c:D) (hl:(a.getD []).length≤60) :
  loopR [L10_1 (real Fn FnD M0)] M0 0 [.d (dR a),.d a1,.d e,.n 0,.d (il 0),.r [],.d c]=some (0,[.d (dR a),.d a1,.d e,.n (turnsL (a.getD [])).length,.r ((turnsL (a.getD [])).map recR),.d c]):=by
 have key:∀ i,i≤60→True:=fun _ _=>trivial
 have:=cnt_loop (β:=List Rec) 60 (by omega) (L10_1 (real Fn FnD M0)) (fun i acc=>[.d (dR a),.d a1,.d e,.n acc.length,.d (il i),.r (acc.map recR),.d c]) (fun i acc=>acc=(List.range i).flatMap fun no:Nat=>(a.getD []).reverse.filter fun r=>decide (r.no=(no:Int)))
  (fun _ _=>some (0,[.d (dR a),.d a1,.d e,.n (turnsL (a.getD [])).length,.r ((turnsL (a.getD [])).map recR),.d c])) ?_ ?_ [] rfl
 ·exact this
 ·rintro acc k rfl
  simp only [L10_1,r_ld0,r_lds,r_ln0,r_lns,r_lr0,r_lrs,r_lss,show ¬ (((60:Nat):Int) < 60) by decide,decide_false,Bool.false_eq_true,if_false,r_liti,r_cond,r_out]
  rfl
 ·rintro i acc k hi rfl hw ih
  have hlt:(i:Int) < 60:=by omega
  have hal:=turns_len (a.getD []) hl i
  have l:=l10_0 (Fn:=Fn) (FnD:=FnD) a a1 e c i hl _ (show ((List.range i).flatMap fun no:Nat=>(a.getD []).reverse.filter fun r=>decide (r.no=(no:Int))).length≤3600 by omega)
  have w1:IntKind.i64.wrap (((a.getD []).length:Int) - 1)=((a.getD []).length:Int) - 1:=wrap_id (by omega) (by omega)
  have ih':=ih _ (by rw [List.range_succ,List.flatMap_append,List.flatMap_singleton])
  rw [cast1] at ih'
  simp only [L10_1,r_ld0,r_lds,r_ln0,r_lns,r_lr0,r_lrs,r_lss,hlt,decide_true,if_true,r_liti,r_cond,lenL,r_sub,w1,r_loop,l,r_bnd0,r_add,hw]
  exact ih'
end
end Go.VE
namespace Go.VE
open Go.RowKit Go.Proofs Go.Lib
set_option maxRecDepth 100000
theorem joinZ_book {a b:List Rec} (ha:isBook a) (hb:isBook b):joinZ a b=joinP a b:=by
 unfold joinZ
 rw [if_pos (by rw [(bookB_iff a).2 ha,(bookB_iff b).2 hb];rfl),joinJ_P ha.1]
theorem joinP_err (a b:List Rec):(joinP a b).2=0∨(joinP a b).2=82∨(joinP a b).2=2:=by
 unfold joinP
 split
 ·exact .inr (.inl rfl)
 ·split
  ·exact .inr (.inr rfl)
  ·exact .inl rfl
theorem joinP_len {a b:List Rec} (ha:isBook a) (hb:isBook b):(joinP a b).1.length≤60:=by
 unfold joinP
 split
 ·simp
 ·split
  ·simp
  ·rename_i h
   have hj:=joined_log ha.1 hb.1 (by omega)
   rw [(srt_perm hj).length_eq]
   omega
theorem lawJoins {Fn:Nat→List D→Out} {FnD:D→List Sh→List D→Out} (a b:Option (List Rec)) (ha:(a.getD []).length≤4611686018427387904) (hb:(b.getD []).length≤4611686018427387904) (h20:Fn 20 []=some (0,[.d (bl true)]))
  (h57:∀ o,(o.getD []).length≤4611686018427387904→Fn 57 [dR o]=some (0,[.d (il (chkZ (bookB (o.getD []))))]))
  (h60:∀ o,(o.getD []).length≤4611686018427387904→Fn 60 [dR o]=some (0,[.d (il (chkZ (bookB (o.getD []))))]))
  (h58:∀ a b,(a.getD []).length≤4611686018427387904→(b.getD []).length≤4611686018427387904→∃ q,Fn 58 [dR a,dR b]=some (0,[.d (dR q),.d (il (joinZ (a.getD []) (b.getD [])).2)])∧q.getD []=(joinZ (a.getD []) (b.getD [])).1)
  (h26:∀ a b,(a.getD []).length≤4611686018427387904→Fn 26 [dR a,dR b]=some (0,[.d (bl (decide (a.getD []=b.getD [])))]))
  (h59:∀ o,(o.getD []).length≤4611686018427387904→∃ q,Fn 59 [dR o]=some (0,[.d (dR q),.d (il (srtZ (o.getD [])).2)])∧q.getD []=(srtZ (o.getD [])).1)
  (h61:∀ a b,(a.getD []).length≤4611686018427387904→(b.getD []).length≤4611686018427387904→Fn 61 [dR a,dR b]=some (0,[.d (bl (withinB (a.getD []) (b.getD [])))])) :
  G10 (real Fn FnD M0) (dR a) (dR b)=some (0,[.d (bl true)]):=by
 have k0:chkZ true=0:=rfl
 have k1:chkZ false=81:=rfl
 have ca:=h57 a ha
 have cb:=h57 b hb
 by_cases hba:bookB (a.getD [])=true
 ·rw [hba,k0] at ca
  by_cases hbb:bookB (b.getD [])=true
  ·rw [hbb,k0] at cb
   have hA:=(bookB_iff _).1 hba
   have hB:=(bookB_iff _).1 hbb
   have l60:=log_len hA.1
   obtain ⟨q,e1,e2⟩:=h58 a b ha hb
   obtain ⟨p,e3,e4⟩:=h58 b a hb ha
   obtain ⟨o,e5,e6⟩:=h58 a a ha ha
   rw [joinZ_book hA hB] at e1 e2
   rw [joinZ_book hB hA,joinP_symm hB.1 hA.1] at e3 e4
   rw [joinZ_book hA hA,join_within hA.1 hA.1 (fun _ h=>h),book_srt hA] at e5 e6
   have hql:=joinP_len hA hB
   have hqp:q.getD []=p.getD []:=by rw [e2,e4]
   have c1:=h26 q p (by rw [e2];omega)
   rw [hqp,decide_eq_true rfl] at c1
   have c2:=h26 o a (by rw [e6];simp only;omega)
   rw [show o.getD []=a.getD [] from e6,decide_eq_true rfl] at c2
   have lt:=l10_1 (Fn:=Fn) (FnD:=FnD) a (dR b) (il (joinP (a.getD []) (b.getD [])).2) (dR q) l60
   obtain ⟨tl,ts⟩:=turns_log hA
   have htl:=log_len tl
   have hopn:((opN (turnsL (a.getD []))).getD [])=turnsL (a.getD []):=opN_get _
   obtain ⟨s,e7,e8⟩:=h59 (opN (turnsL (a.getD []))) (by rw [hopn];omega)
   rw [hopn] at e7 e8
   unfold srtZ at e7 e8
   rw [if_pos tl,ts] at e7 e8
   have c3:=h26 s a (by rw [e8];simp only;omega)
   rw [show s.getD []=a.getD [] from e8,decide_eq_true rfl] at c3
   have hm:((turnsL (a.getD [])).map recR).length=(turnsL (a.getD [])).length:=List.length_map _
   rcases joinP_err (a.getD []) (b.getD []) with he | he | he
   ·have hbk:=join_parts hA.1 hB.1 (c:=(joinP (a.getD []) (b.getD [])).1) (Prod.ext rfl he)
    obtain ⟨hC,hac,hbc⟩:=hbk
    rw [←e2] at hC hac hbc
    rw [he] at e1 e3 lt
    have hlq:(q.getD []).length≤4611686018427387904:=by rw [e2];omega
    obtain ⟨t,e9,e10⟩:=h58 q b hlq hb
    rw [joinZ_book hC hB,join_within hC.1 hB.1 hbc,book_srt hC] at e9 e10
    have c4:=h26 t q (by rw [e10];exact hlq)
    rw [show t.getD []=q.getD [] from e10,decide_eq_true rfl] at c4
    have c5:=h60 q hlq
    rw [(bookB_iff _).2 hC,k0] at c5
    have c6:=h61 a q ha hlq
    rw [within_of hC.1 hac] at c6
    have c7:=h61 b q hb hlq
    rw [within_of hC.1 hbc] at c7
    simp only [G10,r_call,ca,cb,e1,e3,e5,c1,c2,r_bnd0,r_ld0,r_lds,r_neq,ne_eq,not_true,decide_false,Bool.false_eq_true,if_false,r_cond,r_not,Bool.not_true,r_loop,r_natN,r_liti,r_rows,lt,r_ln0,r_lns,r_lr0,r_lrs,r_len,hm,r_eqN,if_true,slNm,e7,c3,e9,c4,c5,c6,c7,r_eql,decide_true,h20,r_out]
   ·rw [he] at e1 e3 lt
    simp only [G10,r_call,ca,cb,e1,e3,e5,c1,c2,r_bnd0,r_ld0,r_lds,r_neq,ne_eq,not_true,decide_false,Bool.false_eq_true,if_false,r_cond,r_not,Bool.not_true,r_loop,r_natN,r_liti,r_rows,lt,r_ln0,r_lns,r_lr0,r_lrs,r_len,hm,r_eqN,if_true,slNm,e7,c3,r_eql,decide_true,show ¬ ((82:Int)=0) by decide,not_false_eq_true,h20,r_out]
   ·rw [he] at e1 e3 lt
    simp only [G10,r_call,ca,cb,e1,e3,e5,c1,c2,r_bnd0,r_ld0,r_lds,r_neq,ne_eq,not_true,decide_false,Bool.false_eq_true,if_false,r_cond,r_not,Bool.not_true,r_loop,r_natN,r_liti,r_rows,lt,r_ln0,r_lns,r_lr0,r_lrs,r_len,hm,r_eqN,if_true,slNm,e7,c3,r_eql,decide_true,show ¬ ((2:Int)=0) by decide,show ¬ ((2:Int)=82) by decide,not_false_eq_true,h20,r_out]
  ·rw [Bool.not_eq_true] at hbb
   rw [hbb,k1] at cb
   simp only [G10,r_call,ca,cb,r_bnd0,r_ld0,r_neq,ne_eq,not_true,show ¬ ((81:Int)=0) by decide,not_false_eq_true,decide_true,decide_false,Bool.false_eq_true,if_false,if_true,r_cond,r_liti,h20,r_out]
 ·rw [Bool.not_eq_true] at hba
  rw [hba,k1] at ca
  simp only [G10,r_call,ca,r_bnd0,r_ld0,r_neq,ne_eq,show ¬ ((81:Int)=0) by decide,not_false_eq_true,decide_true,if_true,r_cond,r_liti,h20,r_out]
theorem opt_rows {α:Type} {f:α→List D}:∀ {o:Option Rr},(∀ r∈o.getD [],∃ c,r=f c)→∃ q:Option (List α),o=q.map (·.map f)
 | none,_=>⟨none,rfl⟩
 | some rows,h=>by
  obtain ⟨l,hl⟩:=rows_map (f:=f) (rows:=rows) h
  exact ⟨some l,by rw [hl];rfl⟩
theorem oL {α:Type} {f:α→List D} {n t e c b:Nat} {ds:List D} (hu:Tryz.prog.underlying t=some (.slice e)) (hc:Tryz.prog.cellsOf e=c) (hb:Tryz.prog.bytesOf e=b) (he:∀ r,HasT Tryz.prog n e r→∃ x,r=f x) (h:HasT Tryz.prog (n+1) t ds):∃ o,ds=[dL c f o]∧(o.getD []).length*b≤140737488351232:=by
 obtain ⟨o,rfl,h1,h2⟩:=h.sl hu hc hb
 obtain ⟨q,rfl⟩:=opt_rows (f:=f) fun r hr=>he r (h2 r hr)
 refine ⟨q,rfl,?_⟩
 cases q with
 | none=>simp
 | some l=>simpa using h1
theorem o44 {n:Nat} {ds:List D} (h:HasT Tryz.prog (n+4) 44 ds):∃ o:Option (List Rec),ds=[dR o]∧(o.getD []).length≤4611686018427387904:=by
 obtain ⟨o,h1,h2⟩:=oL (c:=8) (b:=72) Tryz.underlying44 (by kernel_rfl) (by kernel_rfl) (fun r h=>(o25 h).imp fun _ h=>h.1) h
 exact ⟨o,h1,by omega⟩
theorem o120 {n:Nat} {ds:List D} (h:HasT Tryz.prog (n+5) 120 ds):∃ o:Option (List Rec),ds=[dR o]∧(o.getD []).length≤4611686018427387904:=by
 obtain ⟨_,_,rfl,h1,rfl⟩:=h.struct Tryz.underlying120 rfl
 obtain ⟨o,rfl,ho⟩:=o44 h1
 exact ⟨o,rfl,ho⟩
theorem bookJoins_sc (vds:List VD) (h:VTs Tryz.prog 8 [120,120] vds):SC Tryz.prog 10 vds (.one (.d (bl true))):=by
 obtain ⟨_,_,rfl,h1,h⟩:=VTs_cons h
 obtain ⟨_,_,rfl,h2,h⟩:=VTs_cons h
 cases VTs_nil h
 obtain ⟨_,rfl,k1⟩:=h1.agg_ Tryz.underlying120
 obtain ⟨_,rfl,k2⟩:=h2.agg_ Tryz.underlying120
 obtain ⟨a,rfl,ha⟩:=o120 k1
 obtain ⟨b,rfl,hb⟩:=o120 k2
 refine lawSC (T:=tb) (fuel:=400) (m0:=M0) (xs:=[dR a,dR b]) mixP (FnS_ok 20) (FnS_okM 20) spOK (by decide) (sh:=[.agg 1,.agg 1]) rfl rfl rfl ?_
 rw [G10_eq]
 refine lawJoins a b ha hb (FnS_20 20) (fun o h=>FnS_ne (s57 13 o h) (by decide)) (fun o h=>FnS_ne (s60 13 o h) (by decide)) (fun a b h1 h2=>?_) (fun a b h=>FnS_ne (s26 19 a b h) (by decide)) (fun o h=>?_) (fun a b h1 h2=>FnS_ne (s61 18 a b h1 h2) (by decide))
 ·obtain ⟨q,e1,e2⟩:=s58 12 a b h1 h2
  exact ⟨q,FnS_ne e1 (by decide),e2⟩
 ·obtain ⟨q,e1,e2⟩:=s59 13 o h
  exact ⟨q,FnS_ne e1 (by decide),e2⟩
end Go.VE
namespace Go.Proofs.YtipddjojdgapiaaGreatDoor
open Go.VE Go.RowKit Go.ChangeShapes Go.WideShapes
set_option maxRecDepth 100000
theorem bookJoins_lifted (os:Os) (started:os.Started) (H:Type) (enc:TypeId×Value→H) :
  ReturnsInHanded {} Tryz.checked os 10 .any (fun w args=>(Rows.bookJoinsSpec.pre enc Tryz.prog Tryz.f10 [] false w args∧laidMetH Tryz.prog laid5 w)∧sizedMet enc Tryz.prog Tryz.f10 (OpenSpec.ofChange Rows.bookJoinsSpec) false w args) (Rows.bookJoinsSpec.post enc Tryz.prog Tryz.f10 false true false false) :=
 lawInY (C:=Tryz.checked) (n:=8) (tb:=4) (X:=fun w _=>laidMetH Tryz.prog laid5 w) (fun _ _ _ hh h=>h.of_heap hh) own started (by kernel_rfl) Tryz.func10
  (ChangeSpec.witness_shaped (enc:=enc) (C:=Tryz.checked) (os:=os) (X:=fun w _=>laidMetH Tryz.prog laid5 w) false (World.laidAll Tryz.prog os laid5) #[.agg #[.slice none 0 0],.agg #[.slice none 0 0]] 8 rfl (World.shaped_of_ZipB (by kernel_rfl) (by kernel_rfl)) (by kernel_rfl) (by kernel_rfl) (by kernel_rfl) (door_met os _))
  laidOut (by kernel_rfl) (by kernel_rfl) Tryz.underlying4 rfl
  (fun ds hd=>by
   rw [show Tryz.f10.params.toList=[120,120] by kernel_rfl] at hd
   match ds,hd with
   | [a,b],_=>rfl)
  (fun W args vds hsh hX h hv=>calls_of (bookJoins_sc vds (by
   have e:Tryz.f10.params.toList=[120,120]:=by kernel_rfl
   rw [e] at h;exact h)) hsh hX hv)
theorem bookJoins_row:Rows.BookJoinsSaid :=
 OpenClaim.holds_of_wide 10 Tryz.f10 rfl rfl rfl rfl rfl rfl rfl ⟨rfl,rfl,rfl,rfl,rfl⟩ rfl rfl rfl rfl rfl (by kernel_rfl) Tryz.func10 (by kernel_rfl)
  (of_decide_eq_true (by kernel_rfl)) (by unfold Func.isWrapper;first | (rw [if_pos (by decide +kernel)];kernel_rfl) | (rw [if_neg (by decide +kernel)];exact ⟨rfl,rfl⟩))
  (fun os started H enc _=>bookJoins_lifted os started H enc)
theorem bookJoins_holds:Rows.BookJoinsCardSaid :=
 Claim7.holds_tied_plain_at .later [] [.data,.data,.data,.sentinel,.sentinel] true (true, "d6cf3fcbdfa60de4d88a7efdcb7981466a561c4e3c6cf77be3be945176882af7") true
  bookJoins_row (fun _ h=>by cases h) (by kernel_rfl) (fun _ h=>by cases h) bookJoins_row_tie rfl ⟨rfl,rfl⟩ (by kernel_rfl) rfl
  (fun f fn hf hfn=>by
   obtain rfl:f=10:=Option.some.inj ((show Tryz.prog.funcNamed "leazing/leazinglaw08.BookJoins" = some 10 by kernel_rfl).symm.trans hf) |>.symm
   obtain rfl:fn=Tryz.f10:=(Option.some.inj (Tryz.func10.symm.trans hfn)).symm
   exact ⟨by kernel_rfl,fun j t ht=>by
    rw [Tryz.params10] at ht
    have hm:t∈[120,120]:=by simpa using Array.mem_of_getElem? ht
    have hall:([120,120].all fun u=>!Tryz.prog.wantsStandIn u)=true:=by kernel_rfl
    exact (show Tryz.prog.wantsStandIn t=false by simpa using List.all_eq_true.1 hall t hm)⟩)
  (by kernel_rfl)
#print axioms bookJoins_holds
end Go.Proofs.YtipddjojdgapiaaGreatDoor
