/-
  DERIVED. GIVEN WITH THE SEED: THE CARDS: each row of YtaagapoglhndjaaDoorRows.lean that lists a variable, with what it lists TIED to the program's text (the seventh form; the later family's looks); each row that meets fmt, with fmt's text TOLD by the authors' own Lean function (tested against real Go, not proved from fmt's source: count such statements apart). THE CARD IS WHAT COUNTS. Prove the row's statement (the work); the ties are given (YtaagapoglhndjaaDoorTie.lean); close each card by the builder's one call (the guide's Derived/Test/ToyasCard.lean, 'card_holds'). Laid BY PROGRAM, IN A SANDBOX (cutbox-door.mjs). By AI agents, Wed Nov 11 2026. No macro, syntax, notation, axiom, sorry.
-/
import Derived.Test.YtaagapoglhndjaaDoorRows
import GoSem.ClaimSeven
namespace Go.Proofs.YtaagapoglhndjaaDoor
namespace Rows

/-- THE TIED CARD OF 'leazinglaw09.BellChecks'. -/
def bellChecksCard : Claim7 := { stood := { row := bellChecksRow, standIns := [], harness := (true, "c63727e6b2ca268bab9231e264516db7b1e83e0cab08a551e4a85ab0b113b8db"), looks := false }, kinds := [], alts := [], laidByText := true, laidKinds := [.data, .data, .data], laidTests := true, laidLooks := .later }
def BellChecksCardSaid : Prop := Claim7.holds Tryd.pinned (.plain (OpenSpec.ofChange bellChecksSpec)) bellChecksCard

/-- THE TIED CARD OF 'leazinglaw09.BellActs'. -/
def bellActsCard : Claim7 := { stood := { row := bellActsRow, standIns := [], harness := (true, "c63727e6b2ca268bab9231e264516db7b1e83e0cab08a551e4a85ab0b113b8db"), looks := false }, kinds := [], alts := [], laidByText := true, laidKinds := [.data, .data, .data], laidTests := true, laidLooks := .later }
def BellActsCardSaid : Prop := Claim7.holds Tryd.pinned (.plain (OpenSpec.ofChange bellActsSpec)) bellActsCard

/-- THE TIED CARD OF 'leazinglaw09.BellTells'. -/
def bellTellsCard : Claim7 := { stood := { row := bellTellsRow, standIns := [], harness := (true, "c63727e6b2ca268bab9231e264516db7b1e83e0cab08a551e4a85ab0b113b8db"), looks := false }, kinds := [], alts := [], laidByText := true, laidKinds := [.data, .data, .data], laidTests := true, laidLooks := .later }
def BellTellsCardSaid : Prop := Claim7.holds Tryd.pinned (.plain (OpenSpec.ofChange bellTellsSpec)) bellTellsCard

/-- THE TIED CARD OF 'leazinglaw09.BellBooks'. -/
def bellBooksCard : Claim7 := { stood := { row := bellBooksRow, standIns := [], harness := (true, "c63727e6b2ca268bab9231e264516db7b1e83e0cab08a551e4a85ab0b113b8db"), looks := false }, kinds := [], alts := [], laidByText := true, laidKinds := [.data, .data, .data], laidTests := true, laidLooks := .later }
def BellBooksCardSaid : Prop := Claim7.holds Tryd.pinned (.plain (OpenSpec.ofChange bellBooksSpec)) bellBooksCard

/-- THE TIED CARD OF 'leazinglaw09.BellOne'. -/
def bellOneCard : Claim7 := { stood := { row := bellOneRow, standIns := [], harness := (true, "c63727e6b2ca268bab9231e264516db7b1e83e0cab08a551e4a85ab0b113b8db"), looks := false }, kinds := [], alts := [], laidByText := true, laidKinds := [.data, .data, .data], laidTests := true, laidLooks := .later }
def BellOneCardSaid : Prop := Claim7.holds Tryd.pinned (.plain (OpenSpec.ofChange bellOneSpec)) bellOneCard

/-- THE TIED CARD OF 'leazinglaw09.BellEnds'. -/
def bellEndsCard : Claim7 := { stood := { row := bellEndsRow, standIns := [], harness := (true, "c63727e6b2ca268bab9231e264516db7b1e83e0cab08a551e4a85ab0b113b8db"), looks := false }, kinds := [], alts := [], laidByText := true, laidKinds := [.data, .data, .data], laidTests := true, laidLooks := .later }
def BellEndsCardSaid : Prop := Claim7.holds Tryd.pinned (.plain (OpenSpec.ofChange bellEndsSpec)) bellEndsCard

/-- THE SECOND FORM's CARD OF 'leazinglaw09.BellChecks'. -/
def bellChecksUptoCard : Claim7 := { stood := { row := bellChecksUptoRow, standIns := [], harness := (true, "c63727e6b2ca268bab9231e264516db7b1e83e0cab08a551e4a85ab0b113b8db"), looks := false }, kinds := [], alts := [], laidByText := true, laidKinds := [.data, .data, .data], laidTests := true, laidLooks := .later }
def BellChecksUptoCardSaid : Prop := Claim7.holds Tryd.pinned (.plain (OpenSpec.upto bellChecksSpec)) bellChecksUptoCard

/-- THE SECOND FORM's CARD OF 'leazinglaw09.BellActs'. -/
def bellActsUptoCard : Claim7 := { stood := { row := bellActsUptoRow, standIns := [], harness := (true, "c63727e6b2ca268bab9231e264516db7b1e83e0cab08a551e4a85ab0b113b8db"), looks := false }, kinds := [], alts := [], laidByText := true, laidKinds := [.data, .data, .data], laidTests := true, laidLooks := .later }
def BellActsUptoCardSaid : Prop := Claim7.holds Tryd.pinned (.plain (OpenSpec.upto bellActsSpec)) bellActsUptoCard

/-- THE SECOND FORM's CARD OF 'leazinglaw09.BellTells'. -/
def bellTellsUptoCard : Claim7 := { stood := { row := bellTellsUptoRow, standIns := [], harness := (true, "c63727e6b2ca268bab9231e264516db7b1e83e0cab08a551e4a85ab0b113b8db"), looks := false }, kinds := [], alts := [], laidByText := true, laidKinds := [.data, .data, .data], laidTests := true, laidLooks := .later }
def BellTellsUptoCardSaid : Prop := Claim7.holds Tryd.pinned (.plain (OpenSpec.upto bellTellsSpec)) bellTellsUptoCard

/-- THE SECOND FORM's CARD OF 'leazinglaw09.BellBooks'. -/
def bellBooksUptoCard : Claim7 := { stood := { row := bellBooksUptoRow, standIns := [], harness := (true, "c63727e6b2ca268bab9231e264516db7b1e83e0cab08a551e4a85ab0b113b8db"), looks := false }, kinds := [], alts := [], laidByText := true, laidKinds := [.data, .data, .data], laidTests := true, laidLooks := .later }
def BellBooksUptoCardSaid : Prop := Claim7.holds Tryd.pinned (.plain (OpenSpec.upto bellBooksSpec)) bellBooksUptoCard

/-- THE SECOND FORM's CARD OF 'leazinglaw09.BellOne'. -/
def bellOneUptoCard : Claim7 := { stood := { row := bellOneUptoRow, standIns := [], harness := (true, "c63727e6b2ca268bab9231e264516db7b1e83e0cab08a551e4a85ab0b113b8db"), looks := false }, kinds := [], alts := [], laidByText := true, laidKinds := [.data, .data, .data], laidTests := true, laidLooks := .later }
def BellOneUptoCardSaid : Prop := Claim7.holds Tryd.pinned (.plain (OpenSpec.upto bellOneSpec)) bellOneUptoCard

/-- THE SECOND FORM's CARD OF 'leazinglaw09.BellEnds'. -/
def bellEndsUptoCard : Claim7 := { stood := { row := bellEndsUptoRow, standIns := [], harness := (true, "c63727e6b2ca268bab9231e264516db7b1e83e0cab08a551e4a85ab0b113b8db"), looks := false }, kinds := [], alts := [], laidByText := true, laidKinds := [.data, .data, .data], laidTests := true, laidLooks := .later }
def BellEndsUptoCardSaid : Prop := Claim7.holds Tryd.pinned (.plain (OpenSpec.upto bellEndsSpec)) bellEndsUptoCard
end Rows
end Go.Proofs.YtaagapoglhndjaaDoor
