/-
  DERIVED. GIVEN WITH THE SEED: THE CARDS: each row of YtlniadfidfmckaaGreatDoorRows.lean that lists a variable, with what it lists TIED to the program's text (the seventh form; the later family's looks); each row that meets fmt, with fmt's text TOLD by the authors' own Lean function (tested against real Go, not proved from fmt's source: count such statements apart). THE CARD IS WHAT COUNTS. Prove the row's statement (the work); the ties are given (YtlniadfidfmckaaGreatDoorTie.lean); close each card by the builder's one call (the guide's Derived/Test/ToyasCard.lean, 'card_holds'). Laid BY PROGRAM, IN A SANDBOX (cutbox-door.mjs). By AI agents, Wed Nov 11 2026. No macro, syntax, notation, axiom, sorry.
-/
import Derived.Test.YtlniadfidfmckaaGreatDoorRows
import GoSem.ClaimSeven
namespace Go.Proofs.YtlniadfidfmckaaGreatDoor
namespace Rows

/-- THE TIED CARD OF 'timeboundlaw04.PrintMade'. -/
def printMadeCard : Claim7 := { stood := { row := printMadeRow, standIns := [], harness := (true, "36ec01b9af3d2bd1ba76a05aabc918ec04d2765f37212fbb7ef4801aa2bc2717"), looks := true }, kinds := [], alts := [], laidByText := true, laidKinds := [.data, .data, .data, .widerDeep, .widerDeep], laidTests := true, laidLooks := .later }
def PrintMadeCardSaid : Prop := Claim7.holds Tryz.pinned (.plain (OpenSpec.ofChange printMadeSpec)) printMadeCard

/-- THE TIED CARD OF 'timeboundlaw04.PrintParses'. -/
def printParsesCard : Claim7 := { stood := { row := printParsesRow, standIns := [], harness := (true, "36ec01b9af3d2bd1ba76a05aabc918ec04d2765f37212fbb7ef4801aa2bc2717"), looks := true }, kinds := [], alts := [], laidByText := true, laidKinds := [.data, .data, .data, .widerDeep, .widerDeep, .widerDeep, .widerDeep], laidTests := true, laidLooks := .later }
def PrintParsesCardSaid : Prop := Claim7.holds Tryz.pinned (.plain (OpenSpec.ofChange printParsesSpec)) printParsesCard

/-- THE SECOND FORM's CARD OF 'timeboundlaw04.PrintMade'. -/
def printMadeUptoCard : Claim7 := { stood := { row := printMadeUptoRow, standIns := [], harness := (true, "36ec01b9af3d2bd1ba76a05aabc918ec04d2765f37212fbb7ef4801aa2bc2717"), looks := true }, kinds := [], alts := [], laidByText := true, laidKinds := [.data, .data, .data, .widerDeep, .widerDeep], laidTests := true, laidLooks := .later }
def PrintMadeUptoCardSaid : Prop := Claim7.holds Tryz.pinned (.plain (OpenSpec.upto printMadeSpec)) printMadeUptoCard

/-- THE SECOND FORM's CARD OF 'timeboundlaw04.PrintParses'. -/
def printParsesUptoCard : Claim7 := { stood := { row := printParsesUptoRow, standIns := [], harness := (true, "36ec01b9af3d2bd1ba76a05aabc918ec04d2765f37212fbb7ef4801aa2bc2717"), looks := true }, kinds := [], alts := [], laidByText := true, laidKinds := [.data, .data, .data, .widerDeep, .widerDeep, .widerDeep, .widerDeep], laidTests := true, laidLooks := .later }
def PrintParsesUptoCardSaid : Prop := Claim7.holds Tryz.pinned (.plain (OpenSpec.upto printParsesSpec)) printParsesUptoCard
end Rows
end Go.Proofs.YtlniadfidfmckaaGreatDoor
