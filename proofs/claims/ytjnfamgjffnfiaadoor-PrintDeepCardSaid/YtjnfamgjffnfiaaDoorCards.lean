/-
  DERIVED. GIVEN WITH THE SEED: THE CARDS: each row of YtjnfamgjffnfiaaDoorRows.lean that lists a variable, with what it lists TIED to the program's text (the seventh form; the later family's looks); each row that meets fmt, with fmt's text TOLD by the authors' own Lean function (tested against real Go, not proved from fmt's source: count such statements apart). THE CARD IS WHAT COUNTS. Prove the row's statement (the work); the ties are given (YtjnfamgjffnfiaaDoorTie.lean); close each card by the builder's one call (the guide's Derived/Test/ToyasCard.lean, 'card_holds'). Laid BY PROGRAM, IN A SANDBOX (cutbox-door.mjs). By AI agents, Wed Nov 11 2026. No macro, syntax, notation, axiom, sorry.
-/
import Derived.Test.YtjnfamgjffnfiaaDoorRows
import GoSem.ClaimSeven
namespace Go.Proofs.YtjnfamgjffnfiaaDoor
namespace Rows

/-- THE TIED CARD OF 'timeboundlaw04.PrintDeep'. -/
def printDeepCard : Claim7 := { stood := { row := printDeepRow, standIns := [], harness := (true, "373758a474eef7951f67365653025cc6663ff8ec2ade59bb039c88adc1a62c95"), looks := false }, kinds := [], alts := [], laidByText := true, laidKinds := [.data, .data, .data, .widerDeep, .widerDeep], laidTests := true, laidLooks := .later }
def PrintDeepCardSaid : Prop := Claim7.holds Tryd.pinned (.plain (OpenSpec.ofChange printDeepSpec)) printDeepCard

/-- THE SECOND FORM's CARD OF 'timeboundlaw04.PrintDeep'. -/
def printDeepUptoCard : Claim7 := { stood := { row := printDeepUptoRow, standIns := [], harness := (true, "373758a474eef7951f67365653025cc6663ff8ec2ade59bb039c88adc1a62c95"), looks := false }, kinds := [], alts := [], laidByText := true, laidKinds := [.data, .data, .data, .widerDeep, .widerDeep], laidTests := true, laidLooks := .later }
def PrintDeepUptoCardSaid : Prop := Claim7.holds Tryd.pinned (.plain (OpenSpec.upto printDeepSpec)) printDeepUptoCard
end Rows
end Go.Proofs.YtjnfamgjffnfiaaDoor
