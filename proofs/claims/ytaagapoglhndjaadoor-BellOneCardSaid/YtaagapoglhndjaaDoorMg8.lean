/- BellOne: the evaluator of the program's functions, its proof, and the law. -/
import Derived.Test.YtaagapoglhndjaaDoorMh
import Derived.Test.YtaagapoglhndjaaDoorMg7
import Derived.Test.YtaagapoglhndjaaDoorCards
import Derived.Test.YtaagapoglhndjaaDoorTie
import Derived.SevenTiedAt
import Derived.ProofKit
import Derived.LaidMore
import Derived.Stop.Joined
namespace Go.Proofs.YtaagapoglhndjaaDoor
open Go.VE Go.RowKit Go.ChangeShapes Go.WideShapes
set_option maxRecDepth 100000
theorem own:ownKnob Tryd.prog.godebug=none:=by kernel_rfl
theorem qjm:laidOutB Tryd.prog=true:=by kernel_rfl
abbrev qh1:List (String×DataW Unit):=[("math/bits.deBruijn32tab",Rows.laid_math_bits_deBruijn32tab),("math/bits.deBruijn64tab",Rows.laid_math_bits_deBruijn64tab),("internal/strconv.uint64pow10",Rows.laid_internal_strconv_uint64pow10)]
theorem qhA (os:Os) (args:Array Value):laidMetH Tryd.prog qh1 ((World.doorLaid Tryd.prog 400 os).forCall (fun _ _=>0) ⟨#[],args,[]⟩).memory :=
 laidMetH_of_parts3 (fuel:=8) (laidMet_of_run' 8 (by kernel_rfl) (by kernel_rfl)) (by kernel_rfl) (by kernel_rfl)
theorem q7U (hsc:∀ vds,VTs Tryd.prog 8 Tryd.f7.params.toList vds→SC Tryd.prog 7 vds (.one (.d (bl true)))) (os:Os) (started:os.Started) (H:Type) (enc:TypeId×Value→H) :
  ReturnsInHanded {} Tryd.checked os 7 .any (fun w args=>(Rows.bellOneSpec.pre enc Tryd.prog Tryd.f7 [] false w args∧laidMetH Tryd.prog qh1 w)∧sizedMet enc Tryd.prog Tryd.f7 (OpenSpec.ofChange Rows.bellOneSpec) false w args) (Rows.bellOneSpec.post enc Tryd.prog Tryd.f7 false true false false) :=
 lawInX (C:=Tryd.checked) (n:=8) (tb:=4) (X:=fun w _=>laidMetH Tryd.prog qh1 w) (fun _ _ _ hh h=>h.of_heap hh) own started (by kernel_rfl) Tryd.func7
  (ChangeSpec.witness_shaped (enc:=enc) (C:=Tryd.checked) (os:=os) (X:=fun w _=>laidMetH Tryd.prog qh1 w) false (World.doorLaid Tryd.prog 400 os) #[.slice none 0 0] 8 rfl (World.shaped_of_RefB (by kernel_rfl) (by kernel_rfl)) (by kernel_rfl) (by kernel_rfl) (by kernel_rfl) (qhA os _))
  qjm (by kernel_rfl) (by kernel_rfl) Tryd.underlying4 rfl
  (fun ds hd=>by
   rw [show Tryd.f7.params.toList=[60] by kernel_rfl] at hd
   match ds,hd with
   | [a],_=>rfl)
  hsc
theorem qbj (hsc:∀ vds,VTs Tryd.prog 8 Tryd.f7.params.toList vds→SC Tryd.prog 7 vds (.one (.d (bl true)))):Rows.BellOneSaid :=
 OpenClaim.holds_of_wide 7 Tryd.f7 rfl rfl rfl rfl rfl rfl rfl ⟨rfl,rfl,rfl,rfl,rfl⟩ rfl rfl rfl rfl rfl (by kernel_rfl) Tryd.func7 (by kernel_rfl)
  (of_decide_eq_true (by kernel_rfl)) (by unfold Func.isWrapper;first | (rw [if_pos (by decide +kernel)];kernel_rfl) | (rw [if_neg (by decide +kernel)];exact ⟨rfl,rfl⟩))
  (fun os started H enc _=>q7U hsc os started H enc)
theorem qak (hsc:∀ vds,VTs Tryd.prog 8 Tryd.f7.params.toList vds→SC Tryd.prog 7 vds (.one (.d (bl true)))):Rows.BellOneCardSaid :=
 Claim7.holds_tied_plain_at .later [] [.data,.data,.data] true (true, "c63727e6b2ca268bab9231e264516db7b1e83e0cab08a551e4a85ab0b113b8db") false
  (qbj hsc) (fun _ h=>by cases h) (by kernel_rfl) (fun _ h=>by cases h) bellOne_row_tie rfl ⟨rfl,rfl⟩ (by kernel_rfl) rfl
  (fun f fn hf hfn=>by
   obtain rfl:f=7:=Option.some.inj ((show Tryd.prog.funcNamed "leazing/leazinglaw09.BellOne" = some 7 by kernel_rfl).symm.trans hf) |>.symm
   obtain rfl:fn=Tryd.f7:=(Option.some.inj (Tryd.func7.symm.trans hfn)).symm
   exact ⟨by kernel_rfl,fun j t ht=>by
    rw [Tryd.params7] at ht
    have hm:t∈[60]:=by simpa using Array.mem_of_getElem? ht
    have hall:([60].all fun u=>!Tryd.prog.wantsStandIn u)=true:=by kernel_rfl
    exact (show Tryd.prog.wantsStandIn t=false by simpa using List.all_eq_true.1 hall t hm)⟩)
  (by kernel_rfl)
theorem bellOne_holds:Rows.BellOneCardSaid:=qak fun vds h=>qd9 vds (by
 have e:Tryd.f7.params.toList=[60]:=by kernel_rfl
 rw [e] at h;exact h)
#print axioms bellOne_holds
end Go.Proofs.YtaagapoglhndjaaDoor
