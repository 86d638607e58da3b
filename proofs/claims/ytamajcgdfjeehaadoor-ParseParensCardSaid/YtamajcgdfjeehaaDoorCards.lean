/-
  DERIVED. GIVEN WITH THE SEED: THE CARDS: each row of YtamajcgdfjeehaaDoorRows.lean that lists a variable, with what it lists TIED to the program's text (the seventh form; the later family's looks); each row that meets fmt, with fmt's text TOLD by the authors' own Lean function (tested against real Go, not proved from fmt's source: count such statements apart). THE CARD IS WHAT COUNTS. Prove the row's statement (the work); the ties are given (YtamajcgdfjeehaaDoorTie.lean); close each card by the builder's one call (the guide's Derived/Test/ToyasCard.lean, 'card_holds'). Laid BY PROGRAM, IN A SANDBOX (cutbox-door.mjs). By AI agents, Wed Nov 11 2026. No macro, syntax, notation, axiom, sorry.
-/
import Derived.Test.YtamajcgdfjeehaaDoorRows
import GoSem.ClaimSeven
namespace Go.Proofs.YtamajcgdfjeehaaDoor
namespace Rows

/-- THE TIED CARD OF 'timeboundlaw03.ParseExprs'. -/
def parseExprsCard : Claim7 := { stood := { row := parseExprsRow, standIns := [], harness := (true, "458031196c8aca32f8165589f469602620a388fd0eded1fb38a7790e3d8e0bb1"), looks := true }, kinds := [], alts := [], laidByText := true, laidKinds := [.widerDeep, .widerDeep, .widerDeep, .widerDeep], laidTests := true, laidLooks := .later }
def ParseExprsCardSaid : Prop := Claim7.holds Tryd.pinned (.plain (OpenSpec.ofChange parseExprsSpec)) parseExprsCard

/-- THE TIED CARD OF 'timeboundlaw03.ParseParens'. -/
def parseParensCard : Claim7 := { stood := { row := parseParensRow, standIns := [], harness := (true, "458031196c8aca32f8165589f469602620a388fd0eded1fb38a7790e3d8e0bb1"), looks := true }, kinds := [], alts := [], laidByText := true, laidKinds := [.widerDeep, .widerDeep, .widerDeep, .widerDeep], laidTests := true, laidLooks := .later }
def ParseParensCardSaid : Prop := Claim7.holds Tryd.pinned (.plain (OpenSpec.ofChange parseParensSpec)) parseParensCard

/-- THE TIED CARD OF 'timeboundlaw02.TokenPrograms'. -/
def tokenProgramsCard : Claim7 := { stood := { row := tokenProgramsRow, standIns := [], harness := (true, "458031196c8aca32f8165589f469602620a388fd0eded1fb38a7790e3d8e0bb1"), looks := true }, kinds := [], alts := [], laidByText := true, laidKinds := [.data, .data, .data], laidTests := true, laidLooks := .later }
def TokenProgramsCardSaid : Prop := Claim7.holds Tryd.pinned (.plain (OpenSpec.ofChange tokenProgramsSpec)) tokenProgramsCard

/-- THE TIED CARD OF 'timeboundlaw03.ParseRaw'. -/
def parseRawCard : Claim7 := { stood := { row := parseRawRow, standIns := [], harness := (true, "458031196c8aca32f8165589f469602620a388fd0eded1fb38a7790e3d8e0bb1"), looks := true }, kinds := [], alts := [], laidByText := true, laidKinds := [.widerDeep, .widerDeep, .widerDeep, .widerDeep], laidTests := true, laidLooks := .later }
def ParseRawCardSaid : Prop := Claim7.holds Tryd.pinned (.plain (OpenSpec.ofChange parseRawSpec)) parseRawCard

/-- THE TIED CARD OF 'timeboundlaw03.ParseWords'. -/
def parseWordsCard : Claim7 := { stood := { row := parseWordsRow, standIns := [], harness := (true, "458031196c8aca32f8165589f469602620a388fd0eded1fb38a7790e3d8e0bb1"), looks := true }, kinds := [], alts := [], laidByText := true, laidKinds := [.widerDeep, .widerDeep, .widerDeep, .widerDeep], laidTests := true, laidLooks := .later }
def ParseWordsCardSaid : Prop := Claim7.holds Tryd.pinned (.plain (OpenSpec.ofChange parseWordsSpec)) parseWordsCard

/-- THE TIED CARD OF 'timeboundlaw03.ParseLines'. -/
def parseLinesCard : Claim7 := { stood := { row := parseLinesRow, standIns := [], harness := (true, "458031196c8aca32f8165589f469602620a388fd0eded1fb38a7790e3d8e0bb1"), looks := true }, kinds := [], alts := [], laidByText := true, laidKinds := [.widerDeep, .widerDeep, .widerDeep, .widerDeep], laidTests := true, laidLooks := .later }
def ParseLinesCardSaid : Prop := Claim7.holds Tryd.pinned (.plain (OpenSpec.ofChange parseLinesSpec)) parseLinesCard

/-- THE SECOND FORM's CARD OF 'timeboundlaw03.ParseExprs'. -/
def parseExprsUptoCard : Claim7 := { stood := { row := parseExprsUptoRow, standIns := [], harness := (true, "458031196c8aca32f8165589f469602620a388fd0eded1fb38a7790e3d8e0bb1"), looks := true }, kinds := [], alts := [], laidByText := true, laidKinds := [.widerDeep, .widerDeep, .widerDeep, .widerDeep], laidTests := true, laidLooks := .later }
def ParseExprsUptoCardSaid : Prop := Claim7.holds Tryd.pinned (.plain (OpenSpec.upto parseExprsSpec)) parseExprsUptoCard

/-- THE SECOND FORM's CARD OF 'timeboundlaw03.ParseParens'. -/
def parseParensUptoCard : Claim7 := { stood := { row := parseParensUptoRow, standIns := [], harness := (true, "458031196c8aca32f8165589f469602620a388fd0eded1fb38a7790e3d8e0bb1"), looks := true }, kinds := [], alts := [], laidByText := true, laidKinds := [.widerDeep, .widerDeep, .widerDeep, .widerDeep], laidTests := true, laidLooks := .later }
def ParseParensUptoCardSaid : Prop := Claim7.holds Tryd.pinned (.plain (OpenSpec.upto parseParensSpec)) parseParensUptoCard

/-- THE SECOND FORM's CARD OF 'timeboundlaw02.TokenPrograms'. -/
def tokenProgramsUptoCard : Claim7 := { stood := { row := tokenProgramsUptoRow, standIns := [], harness := (true, "458031196c8aca32f8165589f469602620a388fd0eded1fb38a7790e3d8e0bb1"), looks := true }, kinds := [], alts := [], laidByText := true, laidKinds := [.data, .data, .data], laidTests := true, laidLooks := .later }
def TokenProgramsUptoCardSaid : Prop := Claim7.holds Tryd.pinned (.plain (OpenSpec.upto tokenProgramsSpec)) tokenProgramsUptoCard

/-- THE SECOND FORM's CARD OF 'timeboundlaw03.ParseRaw'. -/
def parseRawUptoCard : Claim7 := { stood := { row := parseRawUptoRow, standIns := [], harness := (true, "458031196c8aca32f8165589f469602620a388fd0eded1fb38a7790e3d8e0bb1"), looks := true }, kinds := [], alts := [], laidByText := true, laidKinds := [.widerDeep, .widerDeep, .widerDeep, .widerDeep], laidTests := true, laidLooks := .later }
def ParseRawUptoCardSaid : Prop := Claim7.holds Tryd.pinned (.plain (OpenSpec.upto parseRawSpec)) parseRawUptoCard

/-- THE SECOND FORM's CARD OF 'timeboundlaw03.ParseWords'. -/
def parseWordsUptoCard : Claim7 := { stood := { row := parseWordsUptoRow, standIns := [], harness := (true, "458031196c8aca32f8165589f469602620a388fd0eded1fb38a7790e3d8e0bb1"), looks := true }, kinds := [], alts := [], laidByText := true, laidKinds := [.widerDeep, .widerDeep, .widerDeep, .widerDeep], laidTests := true, laidLooks := .later }
def ParseWordsUptoCardSaid : Prop := Claim7.holds Tryd.pinned (.plain (OpenSpec.upto parseWordsSpec)) parseWordsUptoCard

/-- THE SECOND FORM's CARD OF 'timeboundlaw03.ParseLines'. -/
def parseLinesUptoCard : Claim7 := { stood := { row := parseLinesUptoRow, standIns := [], harness := (true, "458031196c8aca32f8165589f469602620a388fd0eded1fb38a7790e3d8e0bb1"), looks := true }, kinds := [], alts := [], laidByText := true, laidKinds := [.widerDeep, .widerDeep, .widerDeep, .widerDeep], laidTests := true, laidLooks := .later }
def ParseLinesUptoCardSaid : Prop := Claim7.holds Tryd.pinned (.plain (OpenSpec.upto parseLinesSpec)) parseLinesUptoCard
end Rows
end Go.Proofs.YtamajcgdfjeehaaDoor
