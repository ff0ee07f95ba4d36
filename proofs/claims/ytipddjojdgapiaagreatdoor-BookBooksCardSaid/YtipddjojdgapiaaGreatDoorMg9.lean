/- The statement BookBooks: Sort, Add, Join and Have answer what the reference's answer, for any books, any list of records and any record. -/
import Derived.Test.YtipddjojdgapiaaGreatDoorMg0
import Derived.Test.YtipddjojdgapiaaGreatDoorMg8
namespace Go.Proofs.YtipddjojdgapiaaGreatDoor
open Go.VE Go.RowKit Go.ChangeShapes Go.WideShapes
set_option maxRecDepth 100000
theorem bookBooks_lifted (os:Os) (started:os.Started) (H:Type) (enc:TypeId×Value→H) :
  ReturnsInHanded {} Tryz.checked os 12 .any (fun w args=>(Rows.bookBooksSpec.pre enc Tryz.prog Tryz.f12 [] false w args∧laidMetH Tryz.prog laid5 w)∧sizedMet enc Tryz.prog Tryz.f12 (OpenSpec.ofChange Rows.bookBooksSpec) false w args) (Rows.bookBooksSpec.post enc Tryz.prog Tryz.f12 false true false false) :=
 lawInY (C:=Tryz.checked) (n:=8) (tb:=4) (X:=fun w _=>laidMetH Tryz.prog laid5 w) (fun _ _ _ hh h=>h.of_heap hh) own started (by kernel_rfl) Tryz.func12
  (ChangeSpec.witness_shaped (enc:=enc) (C:=Tryz.checked) (os:=os) (X:=fun w _=>laidMetH Tryz.prog laid5 w) false (World.laidAll Tryz.prog os laid5) #[.agg #[.slice none 0 0],.agg #[.slice none 0 0],.agg #[.slice none 0 0,.int .i64 0,.int .i64 0,.int .i64 0,.int .i64 0,.int .i64 0,.int .i64 0,.int .i64 0,.string ⟨#[]⟩]] 8 rfl (World.shaped_of_ZipB (by kernel_rfl) (by kernel_rfl)) (by kernel_rfl) (by kernel_rfl) (by kernel_rfl) (door_met os _))
  laidOut (by kernel_rfl) (by kernel_rfl) Tryz.underlying4 rfl
  (fun ds hd=>by
   rw [show Tryz.f12.params.toList=[120,120,46] by kernel_rfl] at hd
   match ds,hd with
   | [a,b,c],_=>rfl)
  (fun W args vds hsh hX h hv=>calls_of (bookBooks_sc vds (by
   have e:Tryz.f12.params.toList=[120,120,46]:=by kernel_rfl
   rw [e] at h;exact h)) hsh hX hv)
theorem bookBooks_row:Rows.BookBooksSaid :=
 OpenClaim.holds_of_wide 12 Tryz.f12 rfl rfl rfl rfl rfl rfl rfl ⟨rfl,rfl,rfl,rfl,rfl⟩ rfl rfl rfl rfl rfl (by kernel_rfl) Tryz.func12 (by kernel_rfl)
  (of_decide_eq_true (by kernel_rfl)) (by unfold Func.isWrapper;first | (rw [if_pos (by decide +kernel)];kernel_rfl) | (rw [if_neg (by decide +kernel)];exact ⟨rfl,rfl⟩))
  (fun os started H enc _=>bookBooks_lifted os started H enc)
theorem bookBooks_holds:Rows.BookBooksCardSaid :=
 Claim7.holds_tied_plain_at .later [] [.data,.data,.data,.sentinel,.sentinel] true (true, "d6cf3fcbdfa60de4d88a7efdcb7981466a561c4e3c6cf77be3be945176882af7") true
  bookBooks_row (fun _ h=>by cases h) (by kernel_rfl) (fun _ h=>by cases h) bookBooks_row_tie rfl ⟨rfl,rfl⟩ (by kernel_rfl) rfl
  (fun f fn hf hfn=>by
   obtain rfl:f=12:=Option.some.inj ((show Tryz.prog.funcNamed "leazing/leazinglaw08.BookBooks" = some 12 by kernel_rfl).symm.trans hf) |>.symm
   obtain rfl:fn=Tryz.f12:=(Option.some.inj (Tryz.func12.symm.trans hfn)).symm
   exact ⟨by kernel_rfl,fun j t ht=>by
    rw [Tryz.params12] at ht
    have hm:t∈[120,120,46]:=by simpa using Array.mem_of_getElem? ht
    have hall:([120,120,46].all fun u=>!Tryz.prog.wantsStandIn u)=true:=by kernel_rfl
    exact (show Tryz.prog.wantsStandIn t=false by simpa using List.all_eq_true.1 hall t hm)⟩)
  (by kernel_rfl)
end Go.Proofs.YtipddjojdgapiaaGreatDoor
