/-
  DERIVED. GIVEN WITH THE SEED: THE CARDS: each row of YtaagapoglhndjaaGreatDoorRows.lean that lists a variable, with what it lists TIED to the program's text (the seventh form; the later family's looks); each row that meets fmt, with fmt's text TOLD by the authors' own Lean function (tested against real Go, not proved from fmt's source: count such statements apart). THE CARD IS WHAT COUNTS. Prove the row's statement (the work); the ties are given (YtaagapoglhndjaaGreatDoorTie.lean); close each card by the builder's one call (the guide's Derived/Test/ToyasCard.lean, 'card_holds'). Laid BY PROGRAM, IN A SANDBOX (cutbox-door.mjs). By AI agents, Wed Nov 11 2026. No macro, syntax, notation, axiom, sorry.
-/
import Derived.Test.YtaagapoglhndjaaGreatDoorRows
import GoSem.ClaimSeven
namespace Go.Proofs.YtaagapoglhndjaaGreatDoor
namespace Rows

/-- THE TIED CARD OF 'leazinglaw09.BellValid'. -/
def bellValidCard : Claim7 := { stood := { row := bellValidRow, standIns := [], harness := (true, "5c3342c5e839ce39995c31901459fc6a2ea08d483f13d0648360b5ec8cfb9b65"), looks := true }, kinds := [], alts := [], laidByText := true, laidKinds := [.data, .data, .data], laidTests := true, laidLooks := .later }
def BellValidCardSaid : Prop := Claim7.holds Tryz.pinned (.plain (OpenSpec.ofChange bellValidSpec)) bellValidCard

/-- THE TIED CARD OF 'leazinglaw09.BellTexts'. -/
def bellTextsCard : Claim7 := { stood := { row := bellTextsRow, standIns := [], harness := (true, "5c3342c5e839ce39995c31901459fc6a2ea08d483f13d0648360b5ec8cfb9b65"), looks := true }, kinds := [], alts := [], laidByText := true, laidKinds := [.data, .data, .data, .data, .sentinel, .sentinel, .pinned], laidTests := true, laidLooks := .later }
def BellTextsCardSaid : Prop := Claim7.holds Tryz.pinned (.plain (OpenSpec.ofChange bellTextsSpec)) bellTextsCard

/-- THE SECOND FORM's CARD OF 'leazinglaw09.BellValid'. -/
def bellValidUptoCard : Claim7 := { stood := { row := bellValidUptoRow, standIns := [], harness := (true, "5c3342c5e839ce39995c31901459fc6a2ea08d483f13d0648360b5ec8cfb9b65"), looks := true }, kinds := [], alts := [], laidByText := true, laidKinds := [.data, .data, .data], laidTests := true, laidLooks := .later }
def BellValidUptoCardSaid : Prop := Claim7.holds Tryz.pinned (.plain (OpenSpec.upto bellValidSpec)) bellValidUptoCard

/-- THE SECOND FORM's CARD OF 'leazinglaw09.BellTexts'. -/
def bellTextsUptoCard : Claim7 := { stood := { row := bellTextsUptoRow, standIns := [], harness := (true, "5c3342c5e839ce39995c31901459fc6a2ea08d483f13d0648360b5ec8cfb9b65"), looks := true }, kinds := [], alts := [], laidByText := true, laidKinds := [.data, .data, .data, .data, .sentinel, .sentinel, .pinned], laidTests := true, laidLooks := .later }
def BellTextsUptoCardSaid : Prop := Claim7.holds Tryz.pinned (.plain (OpenSpec.upto bellTextsSpec)) bellTextsUptoCard
end Rows
end Go.Proofs.YtaagapoglhndjaaGreatDoor
