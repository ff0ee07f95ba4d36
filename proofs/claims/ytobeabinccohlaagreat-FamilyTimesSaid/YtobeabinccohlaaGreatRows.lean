/-
  No cell of these rows narrows 'for every input' (looked for: loops, veiled, ifaces, maps, wideKeys, modest, calm, conditions, laid).
  DERIVED. THE GIVEN ROWS OF THIS SEAT. 9 by the template 'for every input the law returns true; each argument reads behind the call as it read before'; 0 by the template 'total and deterministic' (their statements: YtobeabinccohlaaGreatTotals.lean).
  GIVEN WITH THE SEED: the statements are not yours to turn. If you find one false, say at which input.
  Laid BY PROGRAM, IN A SANDBOX (cutbox-rows.mjs): the forced cells as the released guide's own fill.sh prints them over the translation bff427c8a4e0b13e… (all of the seat's roots in one cut). By AI agents, Wed Nov 11 2026. No macro, syntax, notation, axiom, sorry.
-/
import Derived.Test.YtobeabinccohlaaGreatChecked
import GoSem.Claim
import GoSem.ClaimJoined
import GoSem.ClaimMapViews
import Derived.JoinedTies
import Derived.KernelRfl
namespace Go.Proofs.YtobeabinccohlaaGreat
/- THE CELL 'sum', in the pinned program and in every row, IS THE sha256 OF THE DUMP (.gsa) THAT YtobeabinccohlaaGreatProg.lean LOADS. Nothing in Lean hashes anything: it is a label: what it is worth is what the hold of that sum in a sandbox is worth. -/
noncomputable def Tryz.pinned : Pinned := { name := "ytobeabinccohlaagreat", sum := "bff427c8a4e0b13ef98e0a7f3e573c97276aa79fe345cbb5aadd865b2f550c41", checked := Tryz.checked }
namespace Rows
def none {H : Type} : Left H := { results := [], args := [] }

/-- 'leazinglaw03.FamilyGleans': WHATEVER THE INPUT: true; the input reads as it did. -/
def familyGleansSpec : ChangeSpec := { name := "familyGleans", fn := fun _ => fun
  | [d1, d2] => { results := [.lit (.bool true)], args := [d1, d2] }
  | _ => none }
def familyGleansRow : OpenClaim := { program := "ytobeabinccohlaagreat", sum := "bff427c8a4e0b13ef98e0a7f3e573c97276aa79fe345cbb5aadd865b2f550c41", func := "leazing/leazinglaw03.FamilyGleans", spec := "familyGleans", inPlace := ["slices.overlaps[int]"], unfollowed := true, recurses := true, apart := false }
def FamilyGleansSaid : Prop := familyGleansRow.holds Tryz.pinned (OpenSpec.ofChange familyGleansSpec)

/-- ITS FALSE NEIGHBOUR: 'it returns false'. Refute it at one input. -/
def familyGleansWrong : ChangeSpec := { name := "familyGleans", fn := fun _ => fun
  | [d1, d2] => { results := [.lit (.bool false)], args := [d1, d2] }
  | _ => none }
def FamilyGleansWrongFalsely : Prop := familyGleansRow.holds Tryz.pinned (OpenSpec.ofChange familyGleansWrong)

/-- 'leazinglaw03.FamilyNarrow': WHATEVER THE INPUT: true; the input reads as it did. -/
def familyNarrowSpec : ChangeSpec := { name := "familyNarrow", fn := fun _ => fun
  | [d1, d2, d3] => { results := [.lit (.bool true)], args := [d1, d2, d3] }
  | _ => none }
def familyNarrowRow : OpenClaim := { program := "ytobeabinccohlaagreat", sum := "bff427c8a4e0b13ef98e0a7f3e573c97276aa79fe345cbb5aadd865b2f550c41", func := "leazing/leazinglaw03.FamilyNarrow", spec := "familyNarrow", inPlace := ["slices.overlaps[int]"], unfollowed := true, recurses := true, apart := false }
def FamilyNarrowSaid : Prop := familyNarrowRow.holds Tryz.pinned (OpenSpec.ofChange familyNarrowSpec)

/-- ITS FALSE NEIGHBOUR: 'it returns false'. Refute it at one input. -/
def familyNarrowWrong : ChangeSpec := { name := "familyNarrow", fn := fun _ => fun
  | [d1, d2, d3] => { results := [.lit (.bool false)], args := [d1, d2, d3] }
  | _ => none }
def FamilyNarrowWrongFalsely : Prop := familyNarrowRow.holds Tryz.pinned (OpenSpec.ofChange familyNarrowWrong)

/-- 'leazinglaw03.FamilyHeads': WHATEVER THE INPUT: true; the input reads as it did. -/
def familyHeadsSpec : ChangeSpec := { name := "familyHeads", fn := fun _ => fun
  | [d1, d2, d3] => { results := [.lit (.bool true)], args := [d1, d2, d3] }
  | _ => none }
def familyHeadsRow : OpenClaim := { program := "ytobeabinccohlaagreat", sum := "bff427c8a4e0b13ef98e0a7f3e573c97276aa79fe345cbb5aadd865b2f550c41", func := "leazing/leazinglaw03.FamilyHeads", spec := "familyHeads", inPlace := ["slices.overlaps[int]"], unfollowed := true, recurses := true, apart := false }
def FamilyHeadsSaid : Prop := familyHeadsRow.holds Tryz.pinned (OpenSpec.ofChange familyHeadsSpec)

/-- ITS FALSE NEIGHBOUR: 'it returns false'. Refute it at one input. -/
def familyHeadsWrong : ChangeSpec := { name := "familyHeads", fn := fun _ => fun
  | [d1, d2, d3] => { results := [.lit (.bool false)], args := [d1, d2, d3] }
  | _ => none }
def FamilyHeadsWrongFalsely : Prop := familyHeadsRow.holds Tryz.pinned (OpenSpec.ofChange familyHeadsWrong)

/-- 'leazinglaw03.FamilyOne': WHATEVER THE INPUT: true; the input reads as it did. -/
def familyOneSpec : ChangeSpec := { name := "familyOne", fn := fun _ => fun
  | [d1, d2, d3] => { results := [.lit (.bool true)], args := [d1, d2, d3] }
  | _ => none }
def familyOneRow : OpenClaim := { program := "ytobeabinccohlaagreat", sum := "bff427c8a4e0b13ef98e0a7f3e573c97276aa79fe345cbb5aadd865b2f550c41", func := "leazing/leazinglaw03.FamilyOne", spec := "familyOne", inPlace := ["slices.overlaps[int]"], unfollowed := true, recurses := true, apart := false }
def FamilyOneSaid : Prop := familyOneRow.holds Tryz.pinned (OpenSpec.ofChange familyOneSpec)

/-- ITS FALSE NEIGHBOUR: 'it returns false'. Refute it at one input. -/
def familyOneWrong : ChangeSpec := { name := "familyOne", fn := fun _ => fun
  | [d1, d2, d3] => { results := [.lit (.bool false)], args := [d1, d2, d3] }
  | _ => none }
def FamilyOneWrongFalsely : Prop := familyOneRow.holds Tryz.pinned (OpenSpec.ofChange familyOneWrong)

/-- 'leazinglaw03.FamilyKnown': WHATEVER THE INPUT: true; the input reads as it did. -/
def familyKnownSpec : ChangeSpec := { name := "familyKnown", fn := fun _ => fun
  | [d1, d2, d3] => { results := [.lit (.bool true)], args := [d1, d2, d3] }
  | _ => none }
def familyKnownRow : OpenClaim := { program := "ytobeabinccohlaagreat", sum := "bff427c8a4e0b13ef98e0a7f3e573c97276aa79fe345cbb5aadd865b2f550c41", func := "leazing/leazinglaw03.FamilyKnown", spec := "familyKnown", inPlace := ["slices.overlaps[int]"], unfollowed := true, recurses := true, apart := false }
def FamilyKnownSaid : Prop := familyKnownRow.holds Tryz.pinned (OpenSpec.ofChange familyKnownSpec)

/-- ITS FALSE NEIGHBOUR: 'it returns false'. Refute it at one input. -/
def familyKnownWrong : ChangeSpec := { name := "familyKnown", fn := fun _ => fun
  | [d1, d2, d3] => { results := [.lit (.bool false)], args := [d1, d2, d3] }
  | _ => none }
def FamilyKnownWrongFalsely : Prop := familyKnownRow.holds Tryz.pinned (OpenSpec.ofChange familyKnownWrong)

/-- 'leazinglaw03.FamilyTrue': WHATEVER THE INPUT: true; the input reads as it did. -/
def familyTrueSpec : ChangeSpec := { name := "familyTrue", fn := fun _ => fun
  | [d1, d2, d3] => { results := [.lit (.bool true)], args := [d1, d2, d3] }
  | _ => none }
def familyTrueRow : OpenClaim := { program := "ytobeabinccohlaagreat", sum := "bff427c8a4e0b13ef98e0a7f3e573c97276aa79fe345cbb5aadd865b2f550c41", func := "leazing/leazinglaw03.FamilyTrue", spec := "familyTrue", inPlace := ["slices.overlaps[int]"], unfollowed := true, recurses := true, apart := false }
def FamilyTrueSaid : Prop := familyTrueRow.holds Tryz.pinned (OpenSpec.ofChange familyTrueSpec)

/-- ITS FALSE NEIGHBOUR: 'it returns false'. Refute it at one input. -/
def familyTrueWrong : ChangeSpec := { name := "familyTrue", fn := fun _ => fun
  | [d1, d2, d3] => { results := [.lit (.bool false)], args := [d1, d2, d3] }
  | _ => none }
def FamilyTrueWrongFalsely : Prop := familyTrueRow.holds Tryz.pinned (OpenSpec.ofChange familyTrueWrong)

/-- 'leazinglaw03.FamilyChecks': WHATEVER THE INPUT: true; the input reads as it did. -/
def familyChecksSpec : ChangeSpec := { name := "familyChecks", fn := fun _ => fun
  | [d1, d2] => { results := [.lit (.bool true)], args := [d1, d2] }
  | _ => none }
def familyChecksRow : OpenClaim := { program := "ytobeabinccohlaagreat", sum := "bff427c8a4e0b13ef98e0a7f3e573c97276aa79fe345cbb5aadd865b2f550c41", func := "leazing/leazinglaw03.FamilyChecks", spec := "familyChecks", inPlace := ["slices.overlaps[leazing/api.Bond]", "slices.overlaps[int]"], unfollowed := true, recurses := true, apart := false }
def FamilyChecksSaid : Prop := familyChecksRow.holds Tryz.pinned (OpenSpec.ofChange familyChecksSpec)

/-- ITS FALSE NEIGHBOUR: 'it returns false'. Refute it at one input. -/
def familyChecksWrong : ChangeSpec := { name := "familyChecks", fn := fun _ => fun
  | [d1, d2] => { results := [.lit (.bool false)], args := [d1, d2] }
  | _ => none }
def FamilyChecksWrongFalsely : Prop := familyChecksRow.holds Tryz.pinned (OpenSpec.ofChange familyChecksWrong)

/-- 'leazinglaw03.FamilyAtOnce': WHATEVER THE INPUT: true; the input reads as it did. -/
def familyAtOnceSpec : ChangeSpec := { name := "familyAtOnce", fn := fun _ => fun
  | [d1, d2] => { results := [.lit (.bool true)], args := [d1, d2] }
  | _ => none }
def familyAtOnceRow : OpenClaim := { program := "ytobeabinccohlaagreat", sum := "bff427c8a4e0b13ef98e0a7f3e573c97276aa79fe345cbb5aadd865b2f550c41", func := "leazing/leazinglaw03.FamilyAtOnce", spec := "familyAtOnce", inPlace := ["slices.overlaps[int]"], unfollowed := true, recurses := true, apart := false }
def FamilyAtOnceSaid : Prop := familyAtOnceRow.holds Tryz.pinned (OpenSpec.ofChange familyAtOnceSpec)

/-- ITS FALSE NEIGHBOUR: 'it returns false'. Refute it at one input. -/
def familyAtOnceWrong : ChangeSpec := { name := "familyAtOnce", fn := fun _ => fun
  | [d1, d2] => { results := [.lit (.bool false)], args := [d1, d2] }
  | _ => none }
def FamilyAtOnceWrongFalsely : Prop := familyAtOnceRow.holds Tryz.pinned (OpenSpec.ofChange familyAtOnceWrong)

/-- 'leazinglaw03.FamilyTimes': WHATEVER THE INPUT: true; the input reads as it did. -/
def familyTimesSpec : ChangeSpec := { name := "familyTimes", fn := fun _ => fun
  | [d1, d2, d3] => { results := [.lit (.bool true)], args := [d1, d2, d3] }
  | _ => none }
def familyTimesRow : OpenClaim := { program := "ytobeabinccohlaagreat", sum := "bff427c8a4e0b13ef98e0a7f3e573c97276aa79fe345cbb5aadd865b2f550c41", func := "leazing/leazinglaw03.FamilyTimes", spec := "familyTimes", inPlace := ["slices.overlaps[int]"], unfollowed := true, recurses := true, apart := false }
def FamilyTimesSaid : Prop := familyTimesRow.holds Tryz.pinned (OpenSpec.ofChange familyTimesSpec)

/-- ITS FALSE NEIGHBOUR: 'it returns false'. Refute it at one input. -/
def familyTimesWrong : ChangeSpec := { name := "familyTimes", fn := fun _ => fun
  | [d1, d2, d3] => { results := [.lit (.bool false)], args := [d1, d2, d3] }
  | _ => none }
def FamilyTimesWrongFalsely : Prop := familyTimesRow.holds Tryz.pinned (OpenSpec.ofChange familyTimesWrong)

/- THE SECOND FORM. 'bulk': how many values and letters a reading holds, each counted each time it is reached (what is shared counts as often as it is met; a slice's spare places count too). A statement '..UptoSaid' is the law's where the arguments, and the package variables that the reading takes, are together of bulk at most 1048576: NARROWER than '..Said'. Prove '..Said' where nothing that the law and all that it calls make is longer than what came in: it says more and counts as full. Else prove '..UptoSaid'. A law counts once. -/
mutual
def uptoBulk {H : Type} : DataW H → Nat
  | .lit (.string bytes) => bytes.length + 1
  | .lit _ => 1
  | .nil => 1
  | .ptr d => uptoBulk d + 1
  | .slice elems spare => uptoBulkAll elems + uptoBulkAll spare + 1
  | .agg parts => uptoBulkAll parts + 1
  | .iface _ d => uptoBulk d + 1
  | .map entries => uptoBulkEntries entries + 1
  | .held _ => 1
def uptoBulkAll {H : Type} : List (DataW H) → Nat
  | [] => 0
  | d :: r => uptoBulk d + uptoBulkAll r
def uptoBulkEntries {H : Type} : List (Lit × DataW H) → Nat
  | [] => 0
  | x :: r => uptoBulkEntry x + uptoBulkEntries r
def uptoBulkEntry {H : Type} : Lit × DataW H → Nat
  | (.string bytes, d) => bytes.length + uptoBulk d + 1
  | (_, d) => uptoBulk d + 1
 end
def uptoSmall : (H : Type) → List (DataW H) → Bool := fun _ ds => decide (uptoBulkAll ds ≤ 1048576)
def OpenSpec.upto (s : _root_.Go.ChangeSpec) : _root_.Go.OpenSpec := { _root_.Go.OpenSpec.ofChange s with cond := some uptoSmall }

/-- 'leazinglaw03.FamilyGleans', WHERE WHAT IT READS IS OF BULK AT MOST 1048576: true; the input reads as it did. -/
def familyGleansUptoRow : OpenClaim := { program := "ytobeabinccohlaagreat", sum := "bff427c8a4e0b13ef98e0a7f3e573c97276aa79fe345cbb5aadd865b2f550c41", func := "leazing/leazinglaw03.FamilyGleans", spec := "familyGleans", inPlace := ["slices.overlaps[int]"], unfollowed := true, recurses := true, apart := false, narrowed := true }
def FamilyGleansUptoSaid : Prop := familyGleansUptoRow.holds Tryz.pinned (OpenSpec.upto familyGleansSpec)

/-- 'leazinglaw03.FamilyNarrow', WHERE WHAT IT READS IS OF BULK AT MOST 1048576: true; the input reads as it did. -/
def familyNarrowUptoRow : OpenClaim := { program := "ytobeabinccohlaagreat", sum := "bff427c8a4e0b13ef98e0a7f3e573c97276aa79fe345cbb5aadd865b2f550c41", func := "leazing/leazinglaw03.FamilyNarrow", spec := "familyNarrow", inPlace := ["slices.overlaps[int]"], unfollowed := true, recurses := true, apart := false, narrowed := true }
def FamilyNarrowUptoSaid : Prop := familyNarrowUptoRow.holds Tryz.pinned (OpenSpec.upto familyNarrowSpec)

/-- 'leazinglaw03.FamilyHeads', WHERE WHAT IT READS IS OF BULK AT MOST 1048576: true; the input reads as it did. -/
def familyHeadsUptoRow : OpenClaim := { program := "ytobeabinccohlaagreat", sum := "bff427c8a4e0b13ef98e0a7f3e573c97276aa79fe345cbb5aadd865b2f550c41", func := "leazing/leazinglaw03.FamilyHeads", spec := "familyHeads", inPlace := ["slices.overlaps[int]"], unfollowed := true, recurses := true, apart := false, narrowed := true }
def FamilyHeadsUptoSaid : Prop := familyHeadsUptoRow.holds Tryz.pinned (OpenSpec.upto familyHeadsSpec)

/-- 'leazinglaw03.FamilyOne', WHERE WHAT IT READS IS OF BULK AT MOST 1048576: true; the input reads as it did. -/
def familyOneUptoRow : OpenClaim := { program := "ytobeabinccohlaagreat", sum := "bff427c8a4e0b13ef98e0a7f3e573c97276aa79fe345cbb5aadd865b2f550c41", func := "leazing/leazinglaw03.FamilyOne", spec := "familyOne", inPlace := ["slices.overlaps[int]"], unfollowed := true, recurses := true, apart := false, narrowed := true }
def FamilyOneUptoSaid : Prop := familyOneUptoRow.holds Tryz.pinned (OpenSpec.upto familyOneSpec)

/-- 'leazinglaw03.FamilyKnown', WHERE WHAT IT READS IS OF BULK AT MOST 1048576: true; the input reads as it did. -/
def familyKnownUptoRow : OpenClaim := { program := "ytobeabinccohlaagreat", sum := "bff427c8a4e0b13ef98e0a7f3e573c97276aa79fe345cbb5aadd865b2f550c41", func := "leazing/leazinglaw03.FamilyKnown", spec := "familyKnown", inPlace := ["slices.overlaps[int]"], unfollowed := true, recurses := true, apart := false, narrowed := true }
def FamilyKnownUptoSaid : Prop := familyKnownUptoRow.holds Tryz.pinned (OpenSpec.upto familyKnownSpec)

/-- 'leazinglaw03.FamilyTrue', WHERE WHAT IT READS IS OF BULK AT MOST 1048576: true; the input reads as it did. -/
def familyTrueUptoRow : OpenClaim := { program := "ytobeabinccohlaagreat", sum := "bff427c8a4e0b13ef98e0a7f3e573c97276aa79fe345cbb5aadd865b2f550c41", func := "leazing/leazinglaw03.FamilyTrue", spec := "familyTrue", inPlace := ["slices.overlaps[int]"], unfollowed := true, recurses := true, apart := false, narrowed := true }
def FamilyTrueUptoSaid : Prop := familyTrueUptoRow.holds Tryz.pinned (OpenSpec.upto familyTrueSpec)

/-- 'leazinglaw03.FamilyChecks', WHERE WHAT IT READS IS OF BULK AT MOST 1048576: true; the input reads as it did. -/
def familyChecksUptoRow : OpenClaim := { program := "ytobeabinccohlaagreat", sum := "bff427c8a4e0b13ef98e0a7f3e573c97276aa79fe345cbb5aadd865b2f550c41", func := "leazing/leazinglaw03.FamilyChecks", spec := "familyChecks", inPlace := ["slices.overlaps[leazing/api.Bond]", "slices.overlaps[int]"], unfollowed := true, recurses := true, apart := false, narrowed := true }
def FamilyChecksUptoSaid : Prop := familyChecksUptoRow.holds Tryz.pinned (OpenSpec.upto familyChecksSpec)

/-- 'leazinglaw03.FamilyAtOnce', WHERE WHAT IT READS IS OF BULK AT MOST 1048576: true; the input reads as it did. -/
def familyAtOnceUptoRow : OpenClaim := { program := "ytobeabinccohlaagreat", sum := "bff427c8a4e0b13ef98e0a7f3e573c97276aa79fe345cbb5aadd865b2f550c41", func := "leazing/leazinglaw03.FamilyAtOnce", spec := "familyAtOnce", inPlace := ["slices.overlaps[int]"], unfollowed := true, recurses := true, apart := false, narrowed := true }
def FamilyAtOnceUptoSaid : Prop := familyAtOnceUptoRow.holds Tryz.pinned (OpenSpec.upto familyAtOnceSpec)

/-- 'leazinglaw03.FamilyTimes', WHERE WHAT IT READS IS OF BULK AT MOST 1048576: true; the input reads as it did. -/
def familyTimesUptoRow : OpenClaim := { program := "ytobeabinccohlaagreat", sum := "bff427c8a4e0b13ef98e0a7f3e573c97276aa79fe345cbb5aadd865b2f550c41", func := "leazing/leazinglaw03.FamilyTimes", spec := "familyTimes", inPlace := ["slices.overlaps[int]"], unfollowed := true, recurses := true, apart := false, narrowed := true }
def FamilyTimesUptoSaid : Prop := familyTimesUptoRow.holds Tryz.pinned (OpenSpec.upto familyTimesSpec)

end Rows
end Go.Proofs.YtobeabinccohlaaGreat
