/-
  NARROWER THAN 'FOR EVERY INPUT', by the rows' own cells (each row's printed sentence says how): ParseLines: laid.
  DERIVED. THE GIVEN ROWS OF THIS SEAT. 1 by the template 'for every input the law returns true; each argument reads behind the call as it read before'; 0 by the template 'total and deterministic' (their statements: YtlniadfidfmckaaDoorTotals.lean).
  GIVEN WITH THE SEED: the statements are not yours to turn. If you find one false, say at which input.
  Laid BY PROGRAM, IN A SANDBOX (cutbox-rows.mjs): the forced cells as the released guide's own fill.sh prints them over the translation db661b897d5afd59… (all of the seat's roots in one cut). By AI agents, Wed Nov 11 2026. No macro, syntax, notation, axiom, sorry.
-/
import Derived.Test.YtlniadfidfmckaaDoorChecked
import GoSem.Claim
import GoSem.ClaimJoined
import GoSem.ClaimMapViews
import Derived.JoinedTies
import Derived.KernelRfl
namespace Go.Proofs.YtlniadfidfmckaaDoor
/- THE CELL 'sum', in the pinned program and in every row, IS THE sha256 OF THE DUMP (.gsa) THAT YtlniadfidfmckaaDoorProg.lean LOADS. Nothing in Lean hashes anything: it is a label: what it is worth is what the hold of that sum in a sandbox is worth. -/
noncomputable def Tryd.pinned : Pinned := { name := "ytlniadfidfmckaadoor", sum := "db661b897d5afd5904f47a3576c22353ade17864ccb6cb629fd02c9546c3828e", checked := Tryd.checked }
namespace Rows
def none {H : Type} : Left H := { results := [], args := [] }

/- WHAT THE LISTED PACKAGE-LEVEL VARIABLES READ AS WHEN THE CALL BEGINS. Each datum BY PROGRAM (the guide's laid-datum.mjs) off the statement by which the dump's own 'gosem.cut.vars' lays the variable. In a bare row this is a premise. The card (YtlniadfidfmckaaDoorCards.lean) ties it to the program's text. -/
def laid_timebound_tree_words {H : Type} : DataW H := .slice [.lit (.string [114, 101, 115, 111, 117, 114, 99, 101]), .lit (.string [115, 104, 97, 114, 101, 100]), .lit (.string [116, 97, 115, 107]), .lit (.string [112, 101, 114, 105, 111, 100]), .lit (.string [100, 101, 97, 100, 108, 105, 110, 101]), .lit (.string [112, 114, 105, 111, 114, 105, 116, 121]), .lit (.string [106, 105, 116, 116, 101, 114]), .lit (.string [105, 110, 112, 117, 116]), .lit (.string [118, 97, 114]), .lit (.string [97, 114, 114, 97, 121]), .lit (.string [109, 111, 100, 101]), .lit (.string [110, 101, 118, 101, 114]), .lit (.string [98, 111, 100, 121]), .lit (.string [101, 110, 100]), .lit (.string [105, 102]), .lit (.string [108, 97, 98, 101, 108]), .lit (.string [101, 108, 115, 101]), .lit (.string [119, 104, 105, 108, 101]), .lit (.string [109, 97, 120]), .lit (.string [108, 111, 99, 107])] []
def laid_timebound_tree_signs {H : Type} : DataW H := .agg [.lit (.string [43]), .lit (.string [45]), .lit (.string [42]), .lit (.string [47]), .lit (.string [37]), .lit (.string [38]), .lit (.string [124]), .lit (.string [94]), .lit (.string [60, 60]), .lit (.string [62, 62]), .lit (.string [60]), .lit (.string [60, 61]), .lit (.string [61, 61]), .lit (.string [33, 61])]
def laid_timebound_parse_lines {H : Type} : DataW H := .agg [.slice [.lit (.string [43]), .lit (.string [45]), .lit (.string [124]), .lit (.string [94])] [], .slice [.lit (.string [42]), .lit (.string [47]), .lit (.string [37]), .lit (.string [38]), .lit (.string [60, 60]), .lit (.string [62, 62])] []]
def laid_timebound_parse_comparisons {H : Type} : DataW H := .slice [.lit (.string [60]), .lit (.string [60, 61]), .lit (.string [61, 61]), .lit (.string [33, 61])] []

/-- 'timeboundlaw03.ParseLines': WHATEVER THE INPUT: true; the input reads as it did. -/
def parseLinesSpec : ChangeSpec := { name := "parseLines", fn := fun _ => fun
  | [d1, d2, d3, d4, d5] => { results := [.lit (.bool true)], args := [d1, d2, d3, d4, d5] }
  | _ => none }
def parseLinesRow : OpenClaim := { program := "ytlniadfidfmckaadoor", sum := "db661b897d5afd5904f47a3576c22353ade17864ccb6cb629fd02c9546c3828e", func := "timebound/timeboundlaw03.ParseLines", spec := "parseLines", unfollowed := true, recurses := true, named := ["timebound/parse.comparisons", "timebound/parse.lines", "timebound/tree.words", "timebound/tree.signs"], apart := false, laid := [("timebound/tree.words", laid_timebound_tree_words), ("timebound/tree.signs", laid_timebound_tree_signs), ("timebound/parse.lines", laid_timebound_parse_lines), ("timebound/parse.comparisons", laid_timebound_parse_comparisons)] }
def ParseLinesSaid : Prop := parseLinesRow.holds Tryd.pinned (OpenSpec.ofChange parseLinesSpec)

/-- ITS FALSE NEIGHBOUR: 'it returns false'. Refute it at one input. -/
def parseLinesWrong : ChangeSpec := { name := "parseLines", fn := fun _ => fun
  | [d1, d2, d3, d4, d5] => { results := [.lit (.bool false)], args := [d1, d2, d3, d4, d5] }
  | _ => none }
def ParseLinesWrongFalsely : Prop := parseLinesRow.holds Tryd.pinned (OpenSpec.ofChange parseLinesWrong)

/- THE SECOND FORM. 'bulk': how many values and letters a reading holds, each counted each time it is reached (what is shared counts as often as it is met; a slice's spare places count too). A statement '..UptoSaid' is the law's where the arguments, and the package variables that the reading takes, are together of bulk at most 1048576: NARROWER than '..Said'. Prove '..Said' where nothing that the law and all that it calls make is longer than what came in: it says more and counts as full. Else prove '..UptoSaid'. A law counts once. -/
mutual
def uptoBulk {H : Type} : DataW H → Nat
  | .lit (.string bytes) => bytes.length + 1
  | .lit _ => 1
  | .nil => 1
  | .ptr d => uptoBulk d + 1
  | .slice elems spare => uptoBulkAll elems + uptoBulkAll spare + 1
  | .agg parts => uptoBulkAll parts + 1
  | .iface _ d => uptoBulk d + 1
  | .map entries => uptoBulkEntries entries + 1
  | .held _ => 1
def uptoBulkAll {H : Type} : List (DataW H) → Nat
  | [] => 0
  | d :: r => uptoBulk d + uptoBulkAll r
def uptoBulkEntries {H : Type} : List (Lit × DataW H) → Nat
  | [] => 0
  | x :: r => uptoBulkEntry x + uptoBulkEntries r
def uptoBulkEntry {H : Type} : Lit × DataW H → Nat
  | (.string bytes, d) => bytes.length + uptoBulk d + 1
  | (_, d) => uptoBulk d + 1
 end
def uptoSmall : (H : Type) → List (DataW H) → Bool := fun _ ds => decide (uptoBulkAll ds ≤ 1048576)
def OpenSpec.upto (s : _root_.Go.ChangeSpec) : _root_.Go.OpenSpec := { _root_.Go.OpenSpec.ofChange s with cond := some uptoSmall }

/-- 'timeboundlaw03.ParseLines', WHERE WHAT IT READS IS OF BULK AT MOST 1048576: true; the input reads as it did. -/
def parseLinesUptoRow : OpenClaim := { program := "ytlniadfidfmckaadoor", sum := "db661b897d5afd5904f47a3576c22353ade17864ccb6cb629fd02c9546c3828e", func := "timebound/timeboundlaw03.ParseLines", spec := "parseLines", unfollowed := true, recurses := true, named := ["timebound/parse.comparisons", "timebound/parse.lines", "timebound/tree.words", "timebound/tree.signs"], apart := false, laid := [("timebound/tree.words", laid_timebound_tree_words), ("timebound/tree.signs", laid_timebound_tree_signs), ("timebound/parse.lines", laid_timebound_parse_lines), ("timebound/parse.comparisons", laid_timebound_parse_comparisons)], narrowed := true }
def ParseLinesUptoSaid : Prop := parseLinesUptoRow.holds Tryd.pinned (OpenSpec.upto parseLinesSpec)

end Rows
end Go.Proofs.YtlniadfidfmckaaDoor
