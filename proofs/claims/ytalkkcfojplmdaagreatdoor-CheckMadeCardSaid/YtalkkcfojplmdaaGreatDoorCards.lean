/-
  DERIVED. GIVEN WITH THE SEED: THE CARDS: each row of YtalkkcfojplmdaaGreatDoorRows.lean that lists a variable, with what it lists TIED to the program's text (the seventh form; the later family's looks); each row that meets fmt, with fmt's text TOLD by the authors' own Lean function (tested against real Go, not proved from fmt's source: count such statements apart). THE CARD IS WHAT COUNTS. Prove the row's statement (the work); the ties are given (YtalkkcfojplmdaaGreatDoorTie.lean); close each card by the builder's one call (the guide's Derived/Test/ToyasCard.lean, 'card_holds'). Laid BY PROGRAM, IN A SANDBOX (cutbox-door.mjs). By AI agents, Wed Nov 11 2026. No macro, syntax, notation, axiom, sorry.
-/
import Derived.Test.YtalkkcfojplmdaaGreatDoorRows
import GoSem.ClaimSeven
namespace Go.Proofs.YtalkkcfojplmdaaGreatDoor
namespace Rows

/-- THE TIED CARD OF 'timeboundlaw05.CheckNames'. -/
def checkNamesCard : Claim7 := { stood := { row := checkNamesRow, standIns := [], harness := (true, "77bc4175d90c18ef11f1bbd72a9d7ae90fed0ad1c3fccd617315c4927f452086"), looks := false }, kinds := [], alts := [], laidByText := true, laidKinds := [.data, .data, .data, .widerDeep, .widerDeep], laidTests := true, laidLooks := .later }
def CheckNamesCardSaid : Prop := Claim7.holds Tryz.pinned (.plain (OpenSpec.ofChange checkNamesSpec)) checkNamesCard

/-- THE TIED CARD OF 'timeboundlaw05.CheckNear'. -/
def checkNearCard : Claim7 := { stood := { row := checkNearRow, standIns := [], harness := (true, "77bc4175d90c18ef11f1bbd72a9d7ae90fed0ad1c3fccd617315c4927f452086"), looks := false }, kinds := [], alts := [], laidByText := true, laidKinds := [.data, .data, .data, .widerDeep, .widerDeep], laidTests := true, laidLooks := .later }
def CheckNearCardSaid : Prop := Claim7.holds Tryz.pinned (.plain (OpenSpec.ofChange checkNearSpec)) checkNearCard

/-- THE TIED CARD OF 'timeboundlaw05.CheckMade'. -/
def checkMadeCard : Claim7 := { stood := { row := checkMadeRow, standIns := [], harness := (true, "77bc4175d90c18ef11f1bbd72a9d7ae90fed0ad1c3fccd617315c4927f452086"), looks := false }, kinds := [], alts := [], laidByText := true, laidKinds := [.data, .data, .data, .widerDeep, .widerDeep], laidTests := true, laidLooks := .later }
def CheckMadeCardSaid : Prop := Claim7.holds Tryz.pinned (.plain (OpenSpec.ofChange checkMadeSpec)) checkMadeCard

/-- THE TIED CARD OF 'timeboundlaw06.EvalRuns'. -/
def evalRunsCard : Claim7 := { stood := { row := evalRunsRow, standIns := [], harness := (true, "77bc4175d90c18ef11f1bbd72a9d7ae90fed0ad1c3fccd617315c4927f452086"), looks := false }, kinds := [], alts := [], laidByText := true, laidKinds := [.data, .data, .data, .widerDeep, .widerDeep], laidTests := true, laidLooks := .later }
def EvalRunsCardSaid : Prop := Claim7.holds Tryz.pinned (.plain (OpenSpec.ofChange evalRunsSpec)) evalRunsCard

/-- THE TIED CARD OF 'timeboundlaw06.EvalExprs'. -/
def evalExprsCard : Claim7 := { stood := { row := evalExprsRow, standIns := [], harness := (true, "77bc4175d90c18ef11f1bbd72a9d7ae90fed0ad1c3fccd617315c4927f452086"), looks := false }, kinds := [], alts := [], laidByText := true, laidKinds := [.data, .data, .data, .widerDeep, .widerDeep], laidTests := true, laidLooks := .later }
def EvalExprsCardSaid : Prop := Claim7.holds Tryz.pinned (.plain (OpenSpec.ofChange evalExprsSpec)) evalExprsCard

/-- THE TIED CARD OF 'timeboundlaw06.EvalCounts'. -/
def evalCountsCard : Claim7 := { stood := { row := evalCountsRow, standIns := [], harness := (true, "77bc4175d90c18ef11f1bbd72a9d7ae90fed0ad1c3fccd617315c4927f452086"), looks := false }, kinds := [], alts := [], laidByText := true, laidKinds := [.data, .data, .data, .widerDeep, .widerDeep], laidTests := true, laidLooks := .later }
def EvalCountsCardSaid : Prop := Claim7.holds Tryz.pinned (.plain (OpenSpec.ofChange evalCountsSpec)) evalCountsCard

/-- THE TIED CARD OF 'timeboundlaw06.EvalSplit'. -/
def evalSplitCard : Claim7 := { stood := { row := evalSplitRow, standIns := [], harness := (true, "77bc4175d90c18ef11f1bbd72a9d7ae90fed0ad1c3fccd617315c4927f452086"), looks := false }, kinds := [], alts := [], laidByText := true, laidKinds := [.data, .data, .data, .widerDeep, .widerDeep], laidTests := true, laidLooks := .later }
def EvalSplitCardSaid : Prop := Claim7.holds Tryz.pinned (.plain (OpenSpec.ofChange evalSplitSpec)) evalSplitCard

/-- THE TIED CARD OF 'timeboundlaw06.EvalLoops'. -/
def evalLoopsCard : Claim7 := { stood := { row := evalLoopsRow, standIns := [], harness := (true, "77bc4175d90c18ef11f1bbd72a9d7ae90fed0ad1c3fccd617315c4927f452086"), looks := false }, kinds := [], alts := [], laidByText := true, laidKinds := [.data, .data, .data, .widerDeep, .widerDeep], laidTests := true, laidLooks := .later }
def EvalLoopsCardSaid : Prop := Claim7.holds Tryz.pinned (.plain (OpenSpec.ofChange evalLoopsSpec)) evalLoopsCard

/-- THE TIED CARD OF 'timeboundlaw06.EvalApart'. -/
def evalApartCard : Claim7 := { stood := { row := evalApartRow, standIns := [], harness := (true, "77bc4175d90c18ef11f1bbd72a9d7ae90fed0ad1c3fccd617315c4927f452086"), looks := false }, kinds := [], alts := [], laidByText := true, laidKinds := [.data, .data, .data, .widerDeep, .widerDeep], laidTests := true, laidLooks := .later }
def EvalApartCardSaid : Prop := Claim7.holds Tryz.pinned (.plain (OpenSpec.ofChange evalApartSpec)) evalApartCard

/-- THE SECOND FORM's CARD OF 'timeboundlaw05.CheckNames'. -/
def checkNamesUptoCard : Claim7 := { stood := { row := checkNamesUptoRow, standIns := [], harness := (true, "77bc4175d90c18ef11f1bbd72a9d7ae90fed0ad1c3fccd617315c4927f452086"), looks := false }, kinds := [], alts := [], laidByText := true, laidKinds := [.data, .data, .data, .widerDeep, .widerDeep], laidTests := true, laidLooks := .later }
def CheckNamesUptoCardSaid : Prop := Claim7.holds Tryz.pinned (.plain (OpenSpec.upto checkNamesSpec)) checkNamesUptoCard

/-- THE SECOND FORM's CARD OF 'timeboundlaw05.CheckNear'. -/
def checkNearUptoCard : Claim7 := { stood := { row := checkNearUptoRow, standIns := [], harness := (true, "77bc4175d90c18ef11f1bbd72a9d7ae90fed0ad1c3fccd617315c4927f452086"), looks := false }, kinds := [], alts := [], laidByText := true, laidKinds := [.data, .data, .data, .widerDeep, .widerDeep], laidTests := true, laidLooks := .later }
def CheckNearUptoCardSaid : Prop := Claim7.holds Tryz.pinned (.plain (OpenSpec.upto checkNearSpec)) checkNearUptoCard

/-- THE SECOND FORM's CARD OF 'timeboundlaw05.CheckMade'. -/
def checkMadeUptoCard : Claim7 := { stood := { row := checkMadeUptoRow, standIns := [], harness := (true, "77bc4175d90c18ef11f1bbd72a9d7ae90fed0ad1c3fccd617315c4927f452086"), looks := false }, kinds := [], alts := [], laidByText := true, laidKinds := [.data, .data, .data, .widerDeep, .widerDeep], laidTests := true, laidLooks := .later }
def CheckMadeUptoCardSaid : Prop := Claim7.holds Tryz.pinned (.plain (OpenSpec.upto checkMadeSpec)) checkMadeUptoCard

/-- THE SECOND FORM's CARD OF 'timeboundlaw06.EvalRuns'. -/
def evalRunsUptoCard : Claim7 := { stood := { row := evalRunsUptoRow, standIns := [], harness := (true, "77bc4175d90c18ef11f1bbd72a9d7ae90fed0ad1c3fccd617315c4927f452086"), looks := false }, kinds := [], alts := [], laidByText := true, laidKinds := [.data, .data, .data, .widerDeep, .widerDeep], laidTests := true, laidLooks := .later }
def EvalRunsUptoCardSaid : Prop := Claim7.holds Tryz.pinned (.plain (OpenSpec.upto evalRunsSpec)) evalRunsUptoCard

/-- THE SECOND FORM's CARD OF 'timeboundlaw06.EvalExprs'. -/
def evalExprsUptoCard : Claim7 := { stood := { row := evalExprsUptoRow, standIns := [], harness := (true, "77bc4175d90c18ef11f1bbd72a9d7ae90fed0ad1c3fccd617315c4927f452086"), looks := false }, kinds := [], alts := [], laidByText := true, laidKinds := [.data, .data, .data, .widerDeep, .widerDeep], laidTests := true, laidLooks := .later }
def EvalExprsUptoCardSaid : Prop := Claim7.holds Tryz.pinned (.plain (OpenSpec.upto evalExprsSpec)) evalExprsUptoCard

/-- THE SECOND FORM's CARD OF 'timeboundlaw06.EvalCounts'. -/
def evalCountsUptoCard : Claim7 := { stood := { row := evalCountsUptoRow, standIns := [], harness := (true, "77bc4175d90c18ef11f1bbd72a9d7ae90fed0ad1c3fccd617315c4927f452086"), looks := false }, kinds := [], alts := [], laidByText := true, laidKinds := [.data, .data, .data, .widerDeep, .widerDeep], laidTests := true, laidLooks := .later }
def EvalCountsUptoCardSaid : Prop := Claim7.holds Tryz.pinned (.plain (OpenSpec.upto evalCountsSpec)) evalCountsUptoCard

/-- THE SECOND FORM's CARD OF 'timeboundlaw06.EvalSplit'. -/
def evalSplitUptoCard : Claim7 := { stood := { row := evalSplitUptoRow, standIns := [], harness := (true, "77bc4175d90c18ef11f1bbd72a9d7ae90fed0ad1c3fccd617315c4927f452086"), looks := false }, kinds := [], alts := [], laidByText := true, laidKinds := [.data, .data, .data, .widerDeep, .widerDeep], laidTests := true, laidLooks := .later }
def EvalSplitUptoCardSaid : Prop := Claim7.holds Tryz.pinned (.plain (OpenSpec.upto evalSplitSpec)) evalSplitUptoCard

/-- THE SECOND FORM's CARD OF 'timeboundlaw06.EvalLoops'. -/
def evalLoopsUptoCard : Claim7 := { stood := { row := evalLoopsUptoRow, standIns := [], harness := (true, "77bc4175d90c18ef11f1bbd72a9d7ae90fed0ad1c3fccd617315c4927f452086"), looks := false }, kinds := [], alts := [], laidByText := true, laidKinds := [.data, .data, .data, .widerDeep, .widerDeep], laidTests := true, laidLooks := .later }
def EvalLoopsUptoCardSaid : Prop := Claim7.holds Tryz.pinned (.plain (OpenSpec.upto evalLoopsSpec)) evalLoopsUptoCard

/-- THE SECOND FORM's CARD OF 'timeboundlaw06.EvalApart'. -/
def evalApartUptoCard : Claim7 := { stood := { row := evalApartUptoRow, standIns := [], harness := (true, "77bc4175d90c18ef11f1bbd72a9d7ae90fed0ad1c3fccd617315c4927f452086"), looks := false }, kinds := [], alts := [], laidByText := true, laidKinds := [.data, .data, .data, .widerDeep, .widerDeep], laidTests := true, laidLooks := .later }
def EvalApartUptoCardSaid : Prop := Claim7.holds Tryz.pinned (.plain (OpenSpec.upto evalApartSpec)) evalApartUptoCard
end Rows
end Go.Proofs.YtalkkcfojplmdaaGreatDoor
