/-
  DERIVED. GIVEN WITH THE SEED: THE CARDS: each row of YtipddjojdgapiaaGreatDoorRows.lean that lists a variable, with what it lists TIED to the program's text (the seventh form; the later family's looks); each row that meets fmt, with fmt's text TOLD by the authors' own Lean function (tested against real Go, not proved from fmt's source: count such statements apart). THE CARD IS WHAT COUNTS. Prove the row's statement (the work); the ties are given (YtipddjojdgapiaaGreatDoorTie.lean); close each card by the builder's one call (the guide's Derived/Test/ToyasCard.lean, 'card_holds'). Laid BY PROGRAM, IN A SANDBOX (cutbox-door.mjs). By AI agents, Wed Nov 11 2026. No macro, syntax, notation, axiom, sorry.
-/
import Derived.Test.YtipddjojdgapiaaGreatDoorRows
import GoSem.ClaimSeven
namespace Go.Proofs.YtipddjojdgapiaaGreatDoor
namespace Rows

/-- THE TIED CARD OF 'leazinglaw08.BookStrips'. -/
def bookStripsCard : Claim7 := { stood := { row := bookStripsRow, standIns := [], harness := (true, "d6cf3fcbdfa60de4d88a7efdcb7981466a561c4e3c6cf77be3be945176882af7"), looks := true }, kinds := [], alts := [], laidByText := true, laidKinds := [.data, .data, .data, .sentinel, .sentinel], laidTests := true, laidLooks := .later }
def BookStripsCardSaid : Prop := Claim7.holds Tryz.pinned (.plain (OpenSpec.ofChange bookStripsSpec)) bookStripsCard

/-- THE TIED CARD OF 'leazinglaw08.BookBounds'. -/
def bookBoundsCard : Claim7 := { stood := { row := bookBoundsRow, standIns := [], harness := (true, "d6cf3fcbdfa60de4d88a7efdcb7981466a561c4e3c6cf77be3be945176882af7"), looks := true }, kinds := [], alts := [], laidByText := true, laidKinds := [.data, .data, .data, .sentinel, .sentinel], laidTests := true, laidLooks := .later }
def BookBoundsCardSaid : Prop := Claim7.holds Tryz.pinned (.plain (OpenSpec.ofChange bookBoundsSpec)) bookBoundsCard

/-- THE TIED CARD OF 'leazinglaw08.BookTorn'. -/
def bookTornCard : Claim7 := { stood := { row := bookTornRow, standIns := [], harness := (true, "d6cf3fcbdfa60de4d88a7efdcb7981466a561c4e3c6cf77be3be945176882af7"), looks := true }, kinds := [], alts := [], laidByText := true, laidKinds := [.data, .data, .data, .sentinel, .sentinel], laidTests := true, laidLooks := .later }
def BookTornCardSaid : Prop := Claim7.holds Tryz.pinned (.plain (OpenSpec.ofChange bookTornSpec)) bookTornCard

/-- THE TIED CARD OF 'leazinglaw08.BookThirds'. -/
def bookThirdsCard : Claim7 := { stood := { row := bookThirdsRow, standIns := [], harness := (true, "d6cf3fcbdfa60de4d88a7efdcb7981466a561c4e3c6cf77be3be945176882af7"), looks := true }, kinds := [], alts := [], laidByText := true, laidKinds := [.data, .data, .data, .sentinel, .sentinel], laidTests := true, laidLooks := .later }
def BookThirdsCardSaid : Prop := Claim7.holds Tryz.pinned (.plain (OpenSpec.ofChange bookThirdsSpec)) bookThirdsCard

/-- THE TIED CARD OF 'leazinglaw08.BookParishes'. -/
def bookParishesCard : Claim7 := { stood := { row := bookParishesRow, standIns := [], harness := (true, "d6cf3fcbdfa60de4d88a7efdcb7981466a561c4e3c6cf77be3be945176882af7"), looks := true }, kinds := [], alts := [], laidByText := true, laidKinds := [.data, .data, .data, .sentinel, .sentinel], laidTests := true, laidLooks := .later }
def BookParishesCardSaid : Prop := Claim7.holds Tryz.pinned (.plain (OpenSpec.ofChange bookParishesSpec)) bookParishesCard

/-- THE TIED CARD OF 'leazinglaw08.BookLetters'. -/
def bookLettersCard : Claim7 := { stood := { row := bookLettersRow, standIns := [], harness := (true, "d6cf3fcbdfa60de4d88a7efdcb7981466a561c4e3c6cf77be3be945176882af7"), looks := true }, kinds := [], alts := [], laidByText := true, laidKinds := [.data, .data, .data, .sentinel, .sentinel], laidTests := true, laidLooks := .later }
def BookLettersCardSaid : Prop := Claim7.holds Tryz.pinned (.plain (OpenSpec.ofChange bookLettersSpec)) bookLettersCard

/-- THE TIED CARD OF 'leazinglaw08.BookTexts'. -/
def bookTextsCard : Claim7 := { stood := { row := bookTextsRow, standIns := [], harness := (true, "d6cf3fcbdfa60de4d88a7efdcb7981466a561c4e3c6cf77be3be945176882af7"), looks := true }, kinds := [], alts := [], laidByText := true, laidKinds := [.data, .data, .data, .sentinel, .sentinel], laidTests := true, laidLooks := .later }
def BookTextsCardSaid : Prop := Claim7.holds Tryz.pinned (.plain (OpenSpec.ofChange bookTextsSpec)) bookTextsCard

/-- THE TIED CARD OF 'leazinglaw08.BookJoins'. -/
def bookJoinsCard : Claim7 := { stood := { row := bookJoinsRow, standIns := [], harness := (true, "d6cf3fcbdfa60de4d88a7efdcb7981466a561c4e3c6cf77be3be945176882af7"), looks := true }, kinds := [], alts := [], laidByText := true, laidKinds := [.data, .data, .data, .sentinel, .sentinel], laidTests := true, laidLooks := .later }
def BookJoinsCardSaid : Prop := Claim7.holds Tryz.pinned (.plain (OpenSpec.ofChange bookJoinsSpec)) bookJoinsCard

/-- THE TIED CARD OF 'leazinglaw08.BookEqual'. -/
def bookEqualCard : Claim7 := { stood := { row := bookEqualRow, standIns := [], harness := (true, "d6cf3fcbdfa60de4d88a7efdcb7981466a561c4e3c6cf77be3be945176882af7"), looks := true }, kinds := [], alts := [], laidByText := true, laidKinds := [.data, .data, .data, .sentinel, .sentinel], laidTests := true, laidLooks := .later }
def BookEqualCardSaid : Prop := Claim7.holds Tryz.pinned (.plain (OpenSpec.ofChange bookEqualSpec)) bookEqualCard

/-- THE TIED CARD OF 'leazinglaw08.BookBooks'. -/
def bookBooksCard : Claim7 := { stood := { row := bookBooksRow, standIns := [], harness := (true, "d6cf3fcbdfa60de4d88a7efdcb7981466a561c4e3c6cf77be3be945176882af7"), looks := true }, kinds := [], alts := [], laidByText := true, laidKinds := [.data, .data, .data, .sentinel, .sentinel], laidTests := true, laidLooks := .later }
def BookBooksCardSaid : Prop := Claim7.holds Tryz.pinned (.plain (OpenSpec.ofChange bookBooksSpec)) bookBooksCard

/-- THE SECOND FORM's CARD OF 'leazinglaw08.BookStrips'. -/
def bookStripsUptoCard : Claim7 := { stood := { row := bookStripsUptoRow, standIns := [], harness := (true, "d6cf3fcbdfa60de4d88a7efdcb7981466a561c4e3c6cf77be3be945176882af7"), looks := true }, kinds := [], alts := [], laidByText := true, laidKinds := [.data, .data, .data, .sentinel, .sentinel], laidTests := true, laidLooks := .later }
def BookStripsUptoCardSaid : Prop := Claim7.holds Tryz.pinned (.plain (OpenSpec.upto bookStripsSpec)) bookStripsUptoCard

/-- THE SECOND FORM's CARD OF 'leazinglaw08.BookBounds'. -/
def bookBoundsUptoCard : Claim7 := { stood := { row := bookBoundsUptoRow, standIns := [], harness := (true, "d6cf3fcbdfa60de4d88a7efdcb7981466a561c4e3c6cf77be3be945176882af7"), looks := true }, kinds := [], alts := [], laidByText := true, laidKinds := [.data, .data, .data, .sentinel, .sentinel], laidTests := true, laidLooks := .later }
def BookBoundsUptoCardSaid : Prop := Claim7.holds Tryz.pinned (.plain (OpenSpec.upto bookBoundsSpec)) bookBoundsUptoCard

/-- THE SECOND FORM's CARD OF 'leazinglaw08.BookTorn'. -/
def bookTornUptoCard : Claim7 := { stood := { row := bookTornUptoRow, standIns := [], harness := (true, "d6cf3fcbdfa60de4d88a7efdcb7981466a561c4e3c6cf77be3be945176882af7"), looks := true }, kinds := [], alts := [], laidByText := true, laidKinds := [.data, .data, .data, .sentinel, .sentinel], laidTests := true, laidLooks := .later }
def BookTornUptoCardSaid : Prop := Claim7.holds Tryz.pinned (.plain (OpenSpec.upto bookTornSpec)) bookTornUptoCard

/-- THE SECOND FORM's CARD OF 'leazinglaw08.BookThirds'. -/
def bookThirdsUptoCard : Claim7 := { stood := { row := bookThirdsUptoRow, standIns := [], harness := (true, "d6cf3fcbdfa60de4d88a7efdcb7981466a561c4e3c6cf77be3be945176882af7"), looks := true }, kinds := [], alts := [], laidByText := true, laidKinds := [.data, .data, .data, .sentinel, .sentinel], laidTests := true, laidLooks := .later }
def BookThirdsUptoCardSaid : Prop := Claim7.holds Tryz.pinned (.plain (OpenSpec.upto bookThirdsSpec)) bookThirdsUptoCard

/-- THE SECOND FORM's CARD OF 'leazinglaw08.BookParishes'. -/
def bookParishesUptoCard : Claim7 := { stood := { row := bookParishesUptoRow, standIns := [], harness := (true, "d6cf3fcbdfa60de4d88a7efdcb7981466a561c4e3c6cf77be3be945176882af7"), looks := true }, kinds := [], alts := [], laidByText := true, laidKinds := [.data, .data, .data, .sentinel, .sentinel], laidTests := true, laidLooks := .later }
def BookParishesUptoCardSaid : Prop := Claim7.holds Tryz.pinned (.plain (OpenSpec.upto bookParishesSpec)) bookParishesUptoCard

/-- THE SECOND FORM's CARD OF 'leazinglaw08.BookLetters'. -/
def bookLettersUptoCard : Claim7 := { stood := { row := bookLettersUptoRow, standIns := [], harness := (true, "d6cf3fcbdfa60de4d88a7efdcb7981466a561c4e3c6cf77be3be945176882af7"), looks := true }, kinds := [], alts := [], laidByText := true, laidKinds := [.data, .data, .data, .sentinel, .sentinel], laidTests := true, laidLooks := .later }
def BookLettersUptoCardSaid : Prop := Claim7.holds Tryz.pinned (.plain (OpenSpec.upto bookLettersSpec)) bookLettersUptoCard

/-- THE SECOND FORM's CARD OF 'leazinglaw08.BookTexts'. -/
def bookTextsUptoCard : Claim7 := { stood := { row := bookTextsUptoRow, standIns := [], harness := (true, "d6cf3fcbdfa60de4d88a7efdcb7981466a561c4e3c6cf77be3be945176882af7"), looks := true }, kinds := [], alts := [], laidByText := true, laidKinds := [.data, .data, .data, .sentinel, .sentinel], laidTests := true, laidLooks := .later }
def BookTextsUptoCardSaid : Prop := Claim7.holds Tryz.pinned (.plain (OpenSpec.upto bookTextsSpec)) bookTextsUptoCard

/-- THE SECOND FORM's CARD OF 'leazinglaw08.BookJoins'. -/
def bookJoinsUptoCard : Claim7 := { stood := { row := bookJoinsUptoRow, standIns := [], harness := (true, "d6cf3fcbdfa60de4d88a7efdcb7981466a561c4e3c6cf77be3be945176882af7"), looks := true }, kinds := [], alts := [], laidByText := true, laidKinds := [.data, .data, .data, .sentinel, .sentinel], laidTests := true, laidLooks := .later }
def BookJoinsUptoCardSaid : Prop := Claim7.holds Tryz.pinned (.plain (OpenSpec.upto bookJoinsSpec)) bookJoinsUptoCard

/-- THE SECOND FORM's CARD OF 'leazinglaw08.BookEqual'. -/
def bookEqualUptoCard : Claim7 := { stood := { row := bookEqualUptoRow, standIns := [], harness := (true, "d6cf3fcbdfa60de4d88a7efdcb7981466a561c4e3c6cf77be3be945176882af7"), looks := true }, kinds := [], alts := [], laidByText := true, laidKinds := [.data, .data, .data, .sentinel, .sentinel], laidTests := true, laidLooks := .later }
def BookEqualUptoCardSaid : Prop := Claim7.holds Tryz.pinned (.plain (OpenSpec.upto bookEqualSpec)) bookEqualUptoCard

/-- THE SECOND FORM's CARD OF 'leazinglaw08.BookBooks'. -/
def bookBooksUptoCard : Claim7 := { stood := { row := bookBooksUptoRow, standIns := [], harness := (true, "d6cf3fcbdfa60de4d88a7efdcb7981466a561c4e3c6cf77be3be945176882af7"), looks := true }, kinds := [], alts := [], laidByText := true, laidKinds := [.data, .data, .data, .sentinel, .sentinel], laidTests := true, laidLooks := .later }
def BookBooksUptoCardSaid : Prop := Claim7.holds Tryz.pinned (.plain (OpenSpec.upto bookBooksSpec)) bookBooksUptoCard
end Rows
end Go.Proofs.YtipddjojdgapiaaGreatDoor
