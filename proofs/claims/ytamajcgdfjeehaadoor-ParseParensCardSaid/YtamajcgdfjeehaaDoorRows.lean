/-
  NARROWER THAN 'FOR EVERY INPUT', by the rows' own cells (each row's printed sentence says how): ParseExprs: laid · ParseParens: laid · TokenPrograms: laid · ParseRaw: laid · ParseWords: laid · ParseLines: laid.
  DERIVED. THE GIVEN ROWS OF THIS SEAT. 6 by the template 'for every input the law returns true; each argument reads behind the call as it read before'; 0 by the template 'total and deterministic' (their statements: YtamajcgdfjeehaaDoorTotals.lean).
  GIVEN WITH THE SEED: the statements are not yours to turn. If you find one false, say at which input.
  Laid BY PROGRAM, IN A SANDBOX (cutbox-rows.mjs): the forced cells as the released guide's own fill.sh prints them over the translation 5125f835bb61b75d… (all of the seat's roots in one cut). By AI agents, Wed Nov 11 2026. No macro, syntax, notation, axiom, sorry.
-/
import Derived.Test.YtamajcgdfjeehaaDoorChecked
import GoSem.Claim
import GoSem.ClaimJoined
import GoSem.ClaimMapViews
import Derived.JoinedTies
import Derived.KernelRfl
namespace Go.Proofs.YtamajcgdfjeehaaDoor
/- THE CELL 'sum', in the pinned program and in every row, IS THE sha256 OF THE DUMP (.gsa) THAT YtamajcgdfjeehaaDoorProg.lean LOADS. Nothing in Lean hashes anything: it is a label: what it is worth is what the hold of that sum in a sandbox is worth. -/
noncomputable def Tryd.pinned : Pinned := { name := "ytamajcgdfjeehaadoor", sum := "5125f835bb61b75db53bbdbd612a504b74d1f2e364ef07847686853f403b9fdc", checked := Tryd.checked }
namespace Rows
def none {H : Type} : Left H := { results := [], args := [] }

/- WHAT THE LISTED PACKAGE-LEVEL VARIABLES READ AS WHEN THE CALL BEGINS. Each datum BY PROGRAM (the guide's laid-datum.mjs) off the statement by which the dump's own 'gosem.cut.vars' lays the variable. In a bare row this is a premise. The card (YtamajcgdfjeehaaDoorCards.lean) ties it to the program's text. -/
def laid_timebound_tree_words {H : Type} : DataW H := .slice [.lit (.string [114, 101, 115, 111, 117, 114, 99, 101]), .lit (.string [115, 104, 97, 114, 101, 100]), .lit (.string [116, 97, 115, 107]), .lit (.string [112, 101, 114, 105, 111, 100]), .lit (.string [100, 101, 97, 100, 108, 105, 110, 101]), .lit (.string [112, 114, 105, 111, 114, 105, 116, 121]), .lit (.string [106, 105, 116, 116, 101, 114]), .lit (.string [105, 110, 112, 117, 116]), .lit (.string [118, 97, 114]), .lit (.string [97, 114, 114, 97, 121]), .lit (.string [109, 111, 100, 101]), .lit (.string [110, 101, 118, 101, 114]), .lit (.string [98, 111, 100, 121]), .lit (.string [101, 110, 100]), .lit (.string [105, 102]), .lit (.string [108, 97, 98, 101, 108]), .lit (.string [101, 108, 115, 101]), .lit (.string [119, 104, 105, 108, 101]), .lit (.string [109, 97, 120]), .lit (.string [108, 111, 99, 107])] []
def laid_timebound_tree_signs {H : Type} : DataW H := .agg [.lit (.string [43]), .lit (.string [45]), .lit (.string [42]), .lit (.string [47]), .lit (.string [37]), .lit (.string [38]), .lit (.string [124]), .lit (.string [94]), .lit (.string [60, 60]), .lit (.string [62, 62]), .lit (.string [60]), .lit (.string [60, 61]), .lit (.string [61, 61]), .lit (.string [33, 61])]
def laid_timebound_parse_lines {H : Type} : DataW H := .agg [.slice [.lit (.string [43]), .lit (.string [45]), .lit (.string [124]), .lit (.string [94])] [], .slice [.lit (.string [42]), .lit (.string [47]), .lit (.string [37]), .lit (.string [38]), .lit (.string [60, 60]), .lit (.string [62, 62])] []]
def laid_timebound_parse_comparisons {H : Type} : DataW H := .slice [.lit (.string [60]), .lit (.string [60, 61]), .lit (.string [61, 61]), .lit (.string [33, 61])] []
def laid_math_bits_deBruijn32tab {H : Type} : DataW H := .agg [.lit (.int .u8 0), .lit (.int .u8 1), .lit (.int .u8 28), .lit (.int .u8 2), .lit (.int .u8 29), .lit (.int .u8 14), .lit (.int .u8 24), .lit (.int .u8 3), .lit (.int .u8 30), .lit (.int .u8 22), .lit (.int .u8 20), .lit (.int .u8 15), .lit (.int .u8 25), .lit (.int .u8 17), .lit (.int .u8 4), .lit (.int .u8 8), .lit (.int .u8 31), .lit (.int .u8 27), .lit (.int .u8 13), .lit (.int .u8 23), .lit (.int .u8 21), .lit (.int .u8 19), .lit (.int .u8 16), .lit (.int .u8 7), .lit (.int .u8 26), .lit (.int .u8 12), .lit (.int .u8 18), .lit (.int .u8 6), .lit (.int .u8 11), .lit (.int .u8 5), .lit (.int .u8 10), .lit (.int .u8 9)]
def laid_math_bits_deBruijn64tab {H : Type} : DataW H := .agg [.lit (.int .u8 0), .lit (.int .u8 1), .lit (.int .u8 56), .lit (.int .u8 2), .lit (.int .u8 57), .lit (.int .u8 49), .lit (.int .u8 28), .lit (.int .u8 3), .lit (.int .u8 61), .lit (.int .u8 58), .lit (.int .u8 42), .lit (.int .u8 50), .lit (.int .u8 38), .lit (.int .u8 29), .lit (.int .u8 17), .lit (.int .u8 4), .lit (.int .u8 62), .lit (.int .u8 47), .lit (.int .u8 59), .lit (.int .u8 36), .lit (.int .u8 45), .lit (.int .u8 43), .lit (.int .u8 51), .lit (.int .u8 22), .lit (.int .u8 53), .lit (.int .u8 39), .lit (.int .u8 33), .lit (.int .u8 30), .lit (.int .u8 24), .lit (.int .u8 18), .lit (.int .u8 12), .lit (.int .u8 5), .lit (.int .u8 63), .lit (.int .u8 55), .lit (.int .u8 48), .lit (.int .u8 27), .lit (.int .u8 60), .lit (.int .u8 41), .lit (.int .u8 37), .lit (.int .u8 16), .lit (.int .u8 46), .lit (.int .u8 35), .lit (.int .u8 44), .lit (.int .u8 21), .lit (.int .u8 52), .lit (.int .u8 32), .lit (.int .u8 23), .lit (.int .u8 11), .lit (.int .u8 54), .lit (.int .u8 26), .lit (.int .u8 40), .lit (.int .u8 15), .lit (.int .u8 34), .lit (.int .u8 20), .lit (.int .u8 31), .lit (.int .u8 10), .lit (.int .u8 25), .lit (.int .u8 14), .lit (.int .u8 19), .lit (.int .u8 9), .lit (.int .u8 13), .lit (.int .u8 8), .lit (.int .u8 7), .lit (.int .u8 6)]
def laid_internal_strconv_uint64pow10 {H : Type} : DataW H := .agg [.lit (.int .u64 1), .lit (.int .u64 10), .lit (.int .u64 100), .lit (.int .u64 1000), .lit (.int .u64 10000), .lit (.int .u64 100000), .lit (.int .u64 1000000), .lit (.int .u64 10000000), .lit (.int .u64 100000000), .lit (.int .u64 1000000000), .lit (.int .u64 10000000000), .lit (.int .u64 100000000000), .lit (.int .u64 1000000000000), .lit (.int .u64 10000000000000), .lit (.int .u64 100000000000000), .lit (.int .u64 1000000000000000), .lit (.int .u64 10000000000000000), .lit (.int .u64 100000000000000000), .lit (.int .u64 1000000000000000000), .lit (.int .u64 10000000000000000000)]

/-- 'timeboundlaw03.ParseExprs': WHATEVER THE INPUT: true; the input reads as it did. -/
def parseExprsSpec : ChangeSpec := { name := "parseExprs", fn := fun _ => fun
  | [d1, d2] => { results := [.lit (.bool true)], args := [d1, d2] }
  | _ => none }
def parseExprsRow : OpenClaim := { program := "ytamajcgdfjeehaadoor", sum := "5125f835bb61b75db53bbdbd612a504b74d1f2e364ef07847686853f403b9fdc", func := "timebound/timeboundlaw03.ParseExprs", spec := "parseExprs", unfollowed := true, recurses := true, named := ["timebound/parse.comparisons", "timebound/parse.lines", "timebound/tree.words", "timebound/tree.signs"], apart := false, laid := [("timebound/tree.words", laid_timebound_tree_words), ("timebound/tree.signs", laid_timebound_tree_signs), ("timebound/parse.lines", laid_timebound_parse_lines), ("timebound/parse.comparisons", laid_timebound_parse_comparisons)] }
def ParseExprsSaid : Prop := parseExprsRow.holds Tryd.pinned (OpenSpec.ofChange parseExprsSpec)

/-- ITS FALSE NEIGHBOUR: 'it returns false'. Refute it at one input. -/
def parseExprsWrong : ChangeSpec := { name := "parseExprs", fn := fun _ => fun
  | [d1, d2] => { results := [.lit (.bool false)], args := [d1, d2] }
  | _ => none }
def ParseExprsWrongFalsely : Prop := parseExprsRow.holds Tryd.pinned (OpenSpec.ofChange parseExprsWrong)

/-- 'timeboundlaw03.ParseParens': WHATEVER THE INPUT: true; the input reads as it did. -/
def parseParensSpec : ChangeSpec := { name := "parseParens", fn := fun _ => fun
  | [d1, d2] => { results := [.lit (.bool true)], args := [d1, d2] }
  | _ => none }
def parseParensRow : OpenClaim := { program := "ytamajcgdfjeehaadoor", sum := "5125f835bb61b75db53bbdbd612a504b74d1f2e364ef07847686853f403b9fdc", func := "timebound/timeboundlaw03.ParseParens", spec := "parseParens", unfollowed := true, recurses := true, named := ["timebound/parse.comparisons", "timebound/parse.lines", "timebound/tree.words", "timebound/tree.signs"], apart := false, laid := [("timebound/tree.words", laid_timebound_tree_words), ("timebound/tree.signs", laid_timebound_tree_signs), ("timebound/parse.lines", laid_timebound_parse_lines), ("timebound/parse.comparisons", laid_timebound_parse_comparisons)] }
def ParseParensSaid : Prop := parseParensRow.holds Tryd.pinned (OpenSpec.ofChange parseParensSpec)

/-- ITS FALSE NEIGHBOUR: 'it returns false'. Refute it at one input. -/
def parseParensWrong : ChangeSpec := { name := "parseParens", fn := fun _ => fun
  | [d1, d2] => { results := [.lit (.bool false)], args := [d1, d2] }
  | _ => none }
def ParseParensWrongFalsely : Prop := parseParensRow.holds Tryd.pinned (OpenSpec.ofChange parseParensWrong)

/-- 'timeboundlaw02.TokenPrograms': WHATEVER THE INPUT: true; the input reads as it did. -/
def tokenProgramsSpec : ChangeSpec := { name := "tokenPrograms", fn := fun _ => fun
  | [d1, d2, d3, d4] => { results := [.lit (.bool true)], args := [d1, d2, d3, d4] }
  | _ => none }
def tokenProgramsRow : OpenClaim := { program := "ytamajcgdfjeehaadoor", sum := "5125f835bb61b75db53bbdbd612a504b74d1f2e364ef07847686853f403b9fdc", func := "timebound/timeboundlaw02.TokenPrograms", spec := "tokenPrograms", unfollowed := true, recurses := true, named := ["internal/strconv.uint64pow10", "math/bits.deBruijn32tab", "math/bits.deBruijn64tab"], apart := false, laid := [("math/bits.deBruijn32tab", laid_math_bits_deBruijn32tab), ("math/bits.deBruijn64tab", laid_math_bits_deBruijn64tab), ("internal/strconv.uint64pow10", laid_internal_strconv_uint64pow10)] }
def TokenProgramsSaid : Prop := tokenProgramsRow.holds Tryd.pinned (OpenSpec.ofChange tokenProgramsSpec)

/-- ITS FALSE NEIGHBOUR: 'it returns false'. Refute it at one input. -/
def tokenProgramsWrong : ChangeSpec := { name := "tokenPrograms", fn := fun _ => fun
  | [d1, d2, d3, d4] => { results := [.lit (.bool false)], args := [d1, d2, d3, d4] }
  | _ => none }
def TokenProgramsWrongFalsely : Prop := tokenProgramsRow.holds Tryd.pinned (OpenSpec.ofChange tokenProgramsWrong)

/-- 'timeboundlaw03.ParseRaw': WHATEVER THE INPUT: true; the input reads as it did. -/
def parseRawSpec : ChangeSpec := { name := "parseRaw", fn := fun _ => fun
  | [d] => { results := [.lit (.bool true)], args := [d] }
  | _ => none }
def parseRawRow : OpenClaim := { program := "ytamajcgdfjeehaadoor", sum := "5125f835bb61b75db53bbdbd612a504b74d1f2e364ef07847686853f403b9fdc", func := "timebound/timeboundlaw03.ParseRaw", spec := "parseRaw", unfollowed := true, recurses := true, named := ["timebound/tree.words", "timebound/parse.comparisons", "timebound/parse.lines", "timebound/tree.signs"], apart := false, laid := [("timebound/tree.words", laid_timebound_tree_words), ("timebound/tree.signs", laid_timebound_tree_signs), ("timebound/parse.lines", laid_timebound_parse_lines), ("timebound/parse.comparisons", laid_timebound_parse_comparisons)] }
def ParseRawSaid : Prop := parseRawRow.holds Tryd.pinned (OpenSpec.ofChange parseRawSpec)

/-- ITS FALSE NEIGHBOUR: 'it returns false'. Refute it at one input. -/
def parseRawWrong : ChangeSpec := { name := "parseRaw", fn := fun _ => fun
  | [d] => { results := [.lit (.bool false)], args := [d] }
  | _ => none }
def ParseRawWrongFalsely : Prop := parseRawRow.holds Tryd.pinned (OpenSpec.ofChange parseRawWrong)

/-- 'timeboundlaw03.ParseWords': WHATEVER THE INPUT: true; the input reads as it did. -/
def parseWordsSpec : ChangeSpec := { name := "parseWords", fn := fun _ => fun
  | [d1, d2] => { results := [.lit (.bool true)], args := [d1, d2] }
  | _ => none }
def parseWordsRow : OpenClaim := { program := "ytamajcgdfjeehaadoor", sum := "5125f835bb61b75db53bbdbd612a504b74d1f2e364ef07847686853f403b9fdc", func := "timebound/timeboundlaw03.ParseWords", spec := "parseWords", unfollowed := true, recurses := true, named := ["timebound/tree.words", "timebound/parse.comparisons", "timebound/parse.lines", "timebound/tree.signs"], apart := false, laid := [("timebound/tree.words", laid_timebound_tree_words), ("timebound/tree.signs", laid_timebound_tree_signs), ("timebound/parse.lines", laid_timebound_parse_lines), ("timebound/parse.comparisons", laid_timebound_parse_comparisons)] }
def ParseWordsSaid : Prop := parseWordsRow.holds Tryd.pinned (OpenSpec.ofChange parseWordsSpec)

/-- ITS FALSE NEIGHBOUR: 'it returns false'. Refute it at one input. -/
def parseWordsWrong : ChangeSpec := { name := "parseWords", fn := fun _ => fun
  | [d1, d2] => { results := [.lit (.bool false)], args := [d1, d2] }
  | _ => none }
def ParseWordsWrongFalsely : Prop := parseWordsRow.holds Tryd.pinned (OpenSpec.ofChange parseWordsWrong)

/-- 'timeboundlaw03.ParseLines': WHATEVER THE INPUT: true; the input reads as it did. -/
def parseLinesSpec : ChangeSpec := { name := "parseLines", fn := fun _ => fun
  | [d1, d2, d3, d4, d5] => { results := [.lit (.bool true)], args := [d1, d2, d3, d4, d5] }
  | _ => none }
def parseLinesRow : OpenClaim := { program := "ytamajcgdfjeehaadoor", sum := "5125f835bb61b75db53bbdbd612a504b74d1f2e364ef07847686853f403b9fdc", func := "timebound/timeboundlaw03.ParseLines", spec := "parseLines", unfollowed := true, recurses := true, named := ["timebound/parse.comparisons", "timebound/parse.lines", "timebound/tree.words", "timebound/tree.signs"], apart := false, laid := [("timebound/tree.words", laid_timebound_tree_words), ("timebound/tree.signs", laid_timebound_tree_signs), ("timebound/parse.lines", laid_timebound_parse_lines), ("timebound/parse.comparisons", laid_timebound_parse_comparisons)] }
def ParseLinesSaid : Prop := parseLinesRow.holds Tryd.pinned (OpenSpec.ofChange parseLinesSpec)

/-- ITS FALSE NEIGHBOUR: 'it returns false'. Refute it at one input. -/
def parseLinesWrong : ChangeSpec := { name := "parseLines", fn := fun _ => fun
  | [d1, d2, d3, d4, d5] => { results := [.lit (.bool false)], args := [d1, d2, d3, d4, d5] }
  | _ => none }
def ParseLinesWrongFalsely : Prop := parseLinesRow.holds Tryd.pinned (OpenSpec.ofChange parseLinesWrong)

/- THE SECOND FORM. 'bulk': how many values and letters a reading holds, each counted each time it is reached (what is shared counts as often as it is met; a slice's spare places count too). A statement '..UptoSaid' is the law's where the arguments, and the package variables that the reading takes, are together of bulk at most 1048576: NARROWER than '..Said'. Prove '..Said' where nothing that the law and all that it calls make is longer than what came in: it says more and counts as full. Else prove '..UptoSaid'. A law counts once. -/
mutual
def uptoBulk {H : Type} : DataW H → Nat
  | .lit (.string bytes) => bytes.length + 1
  | .lit _ => 1
  | .nil => 1
  | .ptr d => uptoBulk d + 1
  | .slice elems spare => uptoBulkAll elems + uptoBulkAll spare + 1
  | .agg parts => uptoBulkAll parts + 1
  | .iface _ d => uptoBulk d + 1
  | .map entries => uptoBulkEntries entries + 1
  | .held _ => 1
def uptoBulkAll {H : Type} : List (DataW H) → Nat
  | [] => 0
  | d :: r => uptoBulk d + uptoBulkAll r
def uptoBulkEntries {H : Type} : List (Lit × DataW H) → Nat
  | [] => 0
  | x :: r => uptoBulkEntry x + uptoBulkEntries r
def uptoBulkEntry {H : Type} : Lit × DataW H → Nat
  | (.string bytes, d) => bytes.length + uptoBulk d + 1
  | (_, d) => uptoBulk d + 1
 end
def uptoSmall : (H : Type) → List (DataW H) → Bool := fun _ ds => decide (uptoBulkAll ds ≤ 1048576)
def OpenSpec.upto (s : _root_.Go.ChangeSpec) : _root_.Go.OpenSpec := { _root_.Go.OpenSpec.ofChange s with cond := some uptoSmall }

/-- 'timeboundlaw03.ParseExprs', WHERE WHAT IT READS IS OF BULK AT MOST 1048576: true; the input reads as it did. -/
def parseExprsUptoRow : OpenClaim := { program := "ytamajcgdfjeehaadoor", sum := "5125f835bb61b75db53bbdbd612a504b74d1f2e364ef07847686853f403b9fdc", func := "timebound/timeboundlaw03.ParseExprs", spec := "parseExprs", unfollowed := true, recurses := true, named := ["timebound/parse.comparisons", "timebound/parse.lines", "timebound/tree.words", "timebound/tree.signs"], apart := false, laid := [("timebound/tree.words", laid_timebound_tree_words), ("timebound/tree.signs", laid_timebound_tree_signs), ("timebound/parse.lines", laid_timebound_parse_lines), ("timebound/parse.comparisons", laid_timebound_parse_comparisons)], narrowed := true }
def ParseExprsUptoSaid : Prop := parseExprsUptoRow.holds Tryd.pinned (OpenSpec.upto parseExprsSpec)

/-- 'timeboundlaw03.ParseParens', WHERE WHAT IT READS IS OF BULK AT MOST 1048576: true; the input reads as it did. -/
def parseParensUptoRow : OpenClaim := { program := "ytamajcgdfjeehaadoor", sum := "5125f835bb61b75db53bbdbd612a504b74d1f2e364ef07847686853f403b9fdc", func := "timebound/timeboundlaw03.ParseParens", spec := "parseParens", unfollowed := true, recurses := true, named := ["timebound/parse.comparisons", "timebound/parse.lines", "timebound/tree.words", "timebound/tree.signs"], apart := false, laid := [("timebound/tree.words", laid_timebound_tree_words), ("timebound/tree.signs", laid_timebound_tree_signs), ("timebound/parse.lines", laid_timebound_parse_lines), ("timebound/parse.comparisons", laid_timebound_parse_comparisons)], narrowed := true }
def ParseParensUptoSaid : Prop := parseParensUptoRow.holds Tryd.pinned (OpenSpec.upto parseParensSpec)

/-- 'timeboundlaw02.TokenPrograms', WHERE WHAT IT READS IS OF BULK AT MOST 1048576: true; the input reads as it did. -/
def tokenProgramsUptoRow : OpenClaim := { program := "ytamajcgdfjeehaadoor", sum := "5125f835bb61b75db53bbdbd612a504b74d1f2e364ef07847686853f403b9fdc", func := "timebound/timeboundlaw02.TokenPrograms", spec := "tokenPrograms", unfollowed := true, recurses := true, named := ["internal/strconv.uint64pow10", "math/bits.deBruijn32tab", "math/bits.deBruijn64tab"], apart := false, laid := [("math/bits.deBruijn32tab", laid_math_bits_deBruijn32tab), ("math/bits.deBruijn64tab", laid_math_bits_deBruijn64tab), ("internal/strconv.uint64pow10", laid_internal_strconv_uint64pow10)], narrowed := true }
def TokenProgramsUptoSaid : Prop := tokenProgramsUptoRow.holds Tryd.pinned (OpenSpec.upto tokenProgramsSpec)

/-- 'timeboundlaw03.ParseRaw', WHERE WHAT IT READS IS OF BULK AT MOST 1048576: true; the input reads as it did. -/
def parseRawUptoRow : OpenClaim := { program := "ytamajcgdfjeehaadoor", sum := "5125f835bb61b75db53bbdbd612a504b74d1f2e364ef07847686853f403b9fdc", func := "timebound/timeboundlaw03.ParseRaw", spec := "parseRaw", unfollowed := true, recurses := true, named := ["timebound/tree.words", "timebound/parse.comparisons", "timebound/parse.lines", "timebound/tree.signs"], apart := false, laid := [("timebound/tree.words", laid_timebound_tree_words), ("timebound/tree.signs", laid_timebound_tree_signs), ("timebound/parse.lines", laid_timebound_parse_lines), ("timebound/parse.comparisons", laid_timebound_parse_comparisons)], narrowed := true }
def ParseRawUptoSaid : Prop := parseRawUptoRow.holds Tryd.pinned (OpenSpec.upto parseRawSpec)

/-- 'timeboundlaw03.ParseWords', WHERE WHAT IT READS IS OF BULK AT MOST 1048576: true; the input reads as it did. -/
def parseWordsUptoRow : OpenClaim := { program := "ytamajcgdfjeehaadoor", sum := "5125f835bb61b75db53bbdbd612a504b74d1f2e364ef07847686853f403b9fdc", func := "timebound/timeboundlaw03.ParseWords", spec := "parseWords", unfollowed := true, recurses := true, named := ["timebound/tree.words", "timebound/parse.comparisons", "timebound/parse.lines", "timebound/tree.signs"], apart := false, laid := [("timebound/tree.words", laid_timebound_tree_words), ("timebound/tree.signs", laid_timebound_tree_signs), ("timebound/parse.lines", laid_timebound_parse_lines), ("timebound/parse.comparisons", laid_timebound_parse_comparisons)], narrowed := true }
def ParseWordsUptoSaid : Prop := parseWordsUptoRow.holds Tryd.pinned (OpenSpec.upto parseWordsSpec)

/-- 'timeboundlaw03.ParseLines', WHERE WHAT IT READS IS OF BULK AT MOST 1048576: true; the input reads as it did. -/
def parseLinesUptoRow : OpenClaim := { program := "ytamajcgdfjeehaadoor", sum := "5125f835bb61b75db53bbdbd612a504b74d1f2e364ef07847686853f403b9fdc", func := "timebound/timeboundlaw03.ParseLines", spec := "parseLines", unfollowed := true, recurses := true, named := ["timebound/parse.comparisons", "timebound/parse.lines", "timebound/tree.words", "timebound/tree.signs"], apart := false, laid := [("timebound/tree.words", laid_timebound_tree_words), ("timebound/tree.signs", laid_timebound_tree_signs), ("timebound/parse.lines", laid_timebound_parse_lines), ("timebound/parse.comparisons", laid_timebound_parse_comparisons)], narrowed := true }
def ParseLinesUptoSaid : Prop := parseLinesUptoRow.holds Tryd.pinned (OpenSpec.upto parseLinesSpec)

end Rows
end Go.Proofs.YtamajcgdfjeehaaDoor
