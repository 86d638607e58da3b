/-
  NARROWER THAN 'FOR EVERY INPUT', by the rows' own cells (each row's printed sentence says how): CheckNames: laid · CheckNear: laid · CheckMade: laid · EvalRuns: laid · EvalExprs: laid · EvalCounts: laid · EvalSplit: laid · EvalLoops: laid · EvalApart: laid.
  DERIVED. THE GIVEN ROWS OF THIS SEAT. 9 by the template 'for every input the law returns true; each argument reads behind the call as it read before'; 0 by the template 'total and deterministic' (their statements: YtalkkcfojplmdaaGreatDoorTotals.lean).
  GIVEN WITH THE SEED: the statements are not yours to turn. If you find one false, say at which input.
  Laid BY PROGRAM, IN A SANDBOX (cutbox-rows.mjs): the forced cells as the released guide's own fill.sh prints them over the translation 66b4df1757956074… (all of the seat's roots in one cut). By AI agents, Wed Nov 11 2026. No macro, syntax, notation, axiom, sorry.
-/
import Derived.Test.YtalkkcfojplmdaaGreatDoorChecked
import GoSem.Claim
import GoSem.ClaimJoined
import GoSem.ClaimMapViews
import Derived.JoinedTies
import Derived.KernelRfl
namespace Go.Proofs.YtalkkcfojplmdaaGreatDoor
/- THE CELL 'sum', in the pinned program and in every row, IS THE sha256 OF THE DUMP (.gsa) THAT YtalkkcfojplmdaaGreatDoorProg.lean LOADS. Nothing in Lean hashes anything: it is a label: what it is worth is what the hold of that sum in a sandbox is worth. -/
noncomputable def Tryz.pinned : Pinned := { name := "ytalkkcfojplmdaagreatdoor", sum := "66b4df1757956074b454a13b07466e6aa88814a86512705ef0c3535c8e994a67", checked := Tryz.checked }
namespace Rows
def none {H : Type} : Left H := { results := [], args := [] }

/- WHAT THE LISTED PACKAGE-LEVEL VARIABLES READ AS WHEN THE CALL BEGINS. Each datum BY PROGRAM (the guide's laid-datum.mjs) off the statement by which the dump's own 'gosem.cut.vars' lays the variable. In a bare row this is a premise. The card (YtalkkcfojplmdaaGreatDoorCards.lean) ties it to the program's text. -/
def laid_math_bits_deBruijn32tab {H : Type} : DataW H := .agg [.lit (.int .u8 0), .lit (.int .u8 1), .lit (.int .u8 28), .lit (.int .u8 2), .lit (.int .u8 29), .lit (.int .u8 14), .lit (.int .u8 24), .lit (.int .u8 3), .lit (.int .u8 30), .lit (.int .u8 22), .lit (.int .u8 20), .lit (.int .u8 15), .lit (.int .u8 25), .lit (.int .u8 17), .lit (.int .u8 4), .lit (.int .u8 8), .lit (.int .u8 31), .lit (.int .u8 27), .lit (.int .u8 13), .lit (.int .u8 23), .lit (.int .u8 21), .lit (.int .u8 19), .lit (.int .u8 16), .lit (.int .u8 7), .lit (.int .u8 26), .lit (.int .u8 12), .lit (.int .u8 18), .lit (.int .u8 6), .lit (.int .u8 11), .lit (.int .u8 5), .lit (.int .u8 10), .lit (.int .u8 9)]
def laid_math_bits_deBruijn64tab {H : Type} : DataW H := .agg [.lit (.int .u8 0), .lit (.int .u8 1), .lit (.int .u8 56), .lit (.int .u8 2), .lit (.int .u8 57), .lit (.int .u8 49), .lit (.int .u8 28), .lit (.int .u8 3), .lit (.int .u8 61), .lit (.int .u8 58), .lit (.int .u8 42), .lit (.int .u8 50), .lit (.int .u8 38), .lit (.int .u8 29), .lit (.int .u8 17), .lit (.int .u8 4), .lit (.int .u8 62), .lit (.int .u8 47), .lit (.int .u8 59), .lit (.int .u8 36), .lit (.int .u8 45), .lit (.int .u8 43), .lit (.int .u8 51), .lit (.int .u8 22), .lit (.int .u8 53), .lit (.int .u8 39), .lit (.int .u8 33), .lit (.int .u8 30), .lit (.int .u8 24), .lit (.int .u8 18), .lit (.int .u8 12), .lit (.int .u8 5), .lit (.int .u8 63), .lit (.int .u8 55), .lit (.int .u8 48), .lit (.int .u8 27), .lit (.int .u8 60), .lit (.int .u8 41), .lit (.int .u8 37), .lit (.int .u8 16), .lit (.int .u8 46), .lit (.int .u8 35), .lit (.int .u8 44), .lit (.int .u8 21), .lit (.int .u8 52), .lit (.int .u8 32), .lit (.int .u8 23), .lit (.int .u8 11), .lit (.int .u8 54), .lit (.int .u8 26), .lit (.int .u8 40), .lit (.int .u8 15), .lit (.int .u8 34), .lit (.int .u8 20), .lit (.int .u8 31), .lit (.int .u8 10), .lit (.int .u8 25), .lit (.int .u8 14), .lit (.int .u8 19), .lit (.int .u8 9), .lit (.int .u8 13), .lit (.int .u8 8), .lit (.int .u8 7), .lit (.int .u8 6)]
def laid_internal_strconv_uint64pow10 {H : Type} : DataW H := .agg [.lit (.int .u64 1), .lit (.int .u64 10), .lit (.int .u64 100), .lit (.int .u64 1000), .lit (.int .u64 10000), .lit (.int .u64 100000), .lit (.int .u64 1000000), .lit (.int .u64 10000000), .lit (.int .u64 100000000), .lit (.int .u64 1000000000), .lit (.int .u64 10000000000), .lit (.int .u64 100000000000), .lit (.int .u64 1000000000000), .lit (.int .u64 10000000000000), .lit (.int .u64 100000000000000), .lit (.int .u64 1000000000000000), .lit (.int .u64 10000000000000000), .lit (.int .u64 100000000000000000), .lit (.int .u64 1000000000000000000), .lit (.int .u64 10000000000000000000)]
def laid_timebound_tree_words {H : Type} : DataW H := .slice [.lit (.string [114, 101, 115, 111, 117, 114, 99, 101]), .lit (.string [115, 104, 97, 114, 101, 100]), .lit (.string [116, 97, 115, 107]), .lit (.string [112, 101, 114, 105, 111, 100]), .lit (.string [100, 101, 97, 100, 108, 105, 110, 101]), .lit (.string [112, 114, 105, 111, 114, 105, 116, 121]), .lit (.string [106, 105, 116, 116, 101, 114]), .lit (.string [105, 110, 112, 117, 116]), .lit (.string [118, 97, 114]), .lit (.string [97, 114, 114, 97, 121]), .lit (.string [109, 111, 100, 101]), .lit (.string [110, 101, 118, 101, 114]), .lit (.string [98, 111, 100, 121]), .lit (.string [101, 110, 100]), .lit (.string [105, 102]), .lit (.string [108, 97, 98, 101, 108]), .lit (.string [101, 108, 115, 101]), .lit (.string [119, 104, 105, 108, 101]), .lit (.string [109, 97, 120]), .lit (.string [108, 111, 99, 107])] []
def laid_timebound_tree_signs {H : Type} : DataW H := .agg [.lit (.string [43]), .lit (.string [45]), .lit (.string [42]), .lit (.string [47]), .lit (.string [37]), .lit (.string [38]), .lit (.string [124]), .lit (.string [94]), .lit (.string [60, 60]), .lit (.string [62, 62]), .lit (.string [60]), .lit (.string [60, 61]), .lit (.string [61, 61]), .lit (.string [33, 61])]

/-- 'timeboundlaw05.CheckNames': WHATEVER THE INPUT: true; the input reads as it did. -/
def checkNamesSpec : ChangeSpec := { name := "checkNames", fn := fun _ => fun
  | [d] => { results := [.lit (.bool true)], args := [d] }
  | _ => none }
def checkNamesRow : OpenClaim := { program := "ytalkkcfojplmdaagreatdoor", sum := "66b4df1757956074b454a13b07466e6aa88814a86512705ef0c3535c8e994a67", func := "timebound/timeboundlaw05.CheckNames", spec := "checkNames", inPlace := ["internal/abi.NoEscape", "internal/bytealg.MakeNoZero"], unfollowed := true, recurses := true, named := ["timebound/tree.words", "timebound/tree.signs", "internal/strconv.uint64pow10", "math/bits.deBruijn32tab", "math/bits.deBruijn64tab"], apart := false, laid := [("math/bits.deBruijn32tab", laid_math_bits_deBruijn32tab), ("math/bits.deBruijn64tab", laid_math_bits_deBruijn64tab), ("internal/strconv.uint64pow10", laid_internal_strconv_uint64pow10), ("timebound/tree.words", laid_timebound_tree_words), ("timebound/tree.signs", laid_timebound_tree_signs)] }
def CheckNamesSaid : Prop := checkNamesRow.holds Tryz.pinned (OpenSpec.ofChange checkNamesSpec)

/-- ITS FALSE NEIGHBOUR: 'it returns false'. Refute it at one input. -/
def checkNamesWrong : ChangeSpec := { name := "checkNames", fn := fun _ => fun
  | [d] => { results := [.lit (.bool false)], args := [d] }
  | _ => none }
def CheckNamesWrongFalsely : Prop := checkNamesRow.holds Tryz.pinned (OpenSpec.ofChange checkNamesWrong)

/-- 'timeboundlaw05.CheckNear': WHATEVER THE INPUT: true; the input reads as it did. -/
def checkNearSpec : ChangeSpec := { name := "checkNear", fn := fun _ => fun
  | [d1, d2, d3] => { results := [.lit (.bool true)], args := [d1, d2, d3] }
  | _ => none }
def checkNearRow : OpenClaim := { program := "ytalkkcfojplmdaagreatdoor", sum := "66b4df1757956074b454a13b07466e6aa88814a86512705ef0c3535c8e994a67", func := "timebound/timeboundlaw05.CheckNear", spec := "checkNear", inPlace := ["internal/abi.NoEscape", "internal/bytealg.MakeNoZero"], unfollowed := true, recurses := true, named := ["timebound/tree.words", "timebound/tree.signs", "internal/strconv.uint64pow10", "math/bits.deBruijn32tab", "math/bits.deBruijn64tab"], apart := false, laid := [("math/bits.deBruijn32tab", laid_math_bits_deBruijn32tab), ("math/bits.deBruijn64tab", laid_math_bits_deBruijn64tab), ("internal/strconv.uint64pow10", laid_internal_strconv_uint64pow10), ("timebound/tree.words", laid_timebound_tree_words), ("timebound/tree.signs", laid_timebound_tree_signs)] }
def CheckNearSaid : Prop := checkNearRow.holds Tryz.pinned (OpenSpec.ofChange checkNearSpec)

/-- ITS FALSE NEIGHBOUR: 'it returns false'. Refute it at one input. -/
def checkNearWrong : ChangeSpec := { name := "checkNear", fn := fun _ => fun
  | [d1, d2, d3] => { results := [.lit (.bool false)], args := [d1, d2, d3] }
  | _ => none }
def CheckNearWrongFalsely : Prop := checkNearRow.holds Tryz.pinned (OpenSpec.ofChange checkNearWrong)

/-- 'timeboundlaw05.CheckMade': WHATEVER THE INPUT: true; the input reads as it did. -/
def checkMadeSpec : ChangeSpec := { name := "checkMade", fn := fun _ => fun
  | [d1, d2] => { results := [.lit (.bool true)], args := [d1, d2] }
  | _ => none }
def checkMadeRow : OpenClaim := { program := "ytalkkcfojplmdaagreatdoor", sum := "66b4df1757956074b454a13b07466e6aa88814a86512705ef0c3535c8e994a67", func := "timebound/timeboundlaw05.CheckMade", spec := "checkMade", inPlace := ["internal/abi.NoEscape", "internal/bytealg.MakeNoZero"], unfollowed := true, recurses := true, named := ["timebound/tree.words", "timebound/tree.signs", "internal/strconv.uint64pow10", "math/bits.deBruijn32tab", "math/bits.deBruijn64tab"], apart := false, laid := [("math/bits.deBruijn32tab", laid_math_bits_deBruijn32tab), ("math/bits.deBruijn64tab", laid_math_bits_deBruijn64tab), ("internal/strconv.uint64pow10", laid_internal_strconv_uint64pow10), ("timebound/tree.words", laid_timebound_tree_words), ("timebound/tree.signs", laid_timebound_tree_signs)] }
def CheckMadeSaid : Prop := checkMadeRow.holds Tryz.pinned (OpenSpec.ofChange checkMadeSpec)

/-- ITS FALSE NEIGHBOUR: 'it returns false'. Refute it at one input. -/
def checkMadeWrong : ChangeSpec := { name := "checkMade", fn := fun _ => fun
  | [d1, d2] => { results := [.lit (.bool false)], args := [d1, d2] }
  | _ => none }
def CheckMadeWrongFalsely : Prop := checkMadeRow.holds Tryz.pinned (OpenSpec.ofChange checkMadeWrong)

/-- 'timeboundlaw06.EvalRuns': WHATEVER THE INPUT: true; the input reads as it did. -/
def evalRunsSpec : ChangeSpec := { name := "evalRuns", fn := fun _ => fun
  | [d1, d2, d3, d4] => { results := [.lit (.bool true)], args := [d1, d2, d3, d4] }
  | _ => none }
def evalRunsRow : OpenClaim := { program := "ytalkkcfojplmdaagreatdoor", sum := "66b4df1757956074b454a13b07466e6aa88814a86512705ef0c3535c8e994a67", func := "timebound/timeboundlaw06.EvalRuns", spec := "evalRuns", inPlace := ["internal/abi.NoEscape", "internal/bytealg.MakeNoZero"], unfollowed := true, recurses := true, named := ["timebound/tree.words", "timebound/tree.signs", "internal/strconv.uint64pow10", "math/bits.deBruijn32tab", "math/bits.deBruijn64tab"], apart := false, laid := [("math/bits.deBruijn32tab", laid_math_bits_deBruijn32tab), ("math/bits.deBruijn64tab", laid_math_bits_deBruijn64tab), ("internal/strconv.uint64pow10", laid_internal_strconv_uint64pow10), ("timebound/tree.words", laid_timebound_tree_words), ("timebound/tree.signs", laid_timebound_tree_signs)] }
def EvalRunsSaid : Prop := evalRunsRow.holds Tryz.pinned (OpenSpec.ofChange evalRunsSpec)

/-- ITS FALSE NEIGHBOUR: 'it returns false'. Refute it at one input. -/
def evalRunsWrong : ChangeSpec := { name := "evalRuns", fn := fun _ => fun
  | [d1, d2, d3, d4] => { results := [.lit (.bool false)], args := [d1, d2, d3, d4] }
  | _ => none }
def EvalRunsWrongFalsely : Prop := evalRunsRow.holds Tryz.pinned (OpenSpec.ofChange evalRunsWrong)

/-- 'timeboundlaw06.EvalExprs': WHATEVER THE INPUT: true; the input reads as it did. -/
def evalExprsSpec : ChangeSpec := { name := "evalExprs", fn := fun _ => fun
  | [d1, d2, d3, d4, d5, d6, d7, d8] => { results := [.lit (.bool true)], args := [d1, d2, d3, d4, d5, d6, d7, d8] }
  | _ => none }
def evalExprsRow : OpenClaim := { program := "ytalkkcfojplmdaagreatdoor", sum := "66b4df1757956074b454a13b07466e6aa88814a86512705ef0c3535c8e994a67", func := "timebound/timeboundlaw06.EvalExprs", spec := "evalExprs", inPlace := ["internal/abi.NoEscape", "internal/bytealg.MakeNoZero"], unfollowed := true, recurses := true, named := ["timebound/tree.words", "timebound/tree.signs", "internal/strconv.uint64pow10", "math/bits.deBruijn32tab", "math/bits.deBruijn64tab"], apart := false, laid := [("math/bits.deBruijn32tab", laid_math_bits_deBruijn32tab), ("math/bits.deBruijn64tab", laid_math_bits_deBruijn64tab), ("internal/strconv.uint64pow10", laid_internal_strconv_uint64pow10), ("timebound/tree.words", laid_timebound_tree_words), ("timebound/tree.signs", laid_timebound_tree_signs)] }
def EvalExprsSaid : Prop := evalExprsRow.holds Tryz.pinned (OpenSpec.ofChange evalExprsSpec)

/-- ITS FALSE NEIGHBOUR: 'it returns false'. Refute it at one input. -/
def evalExprsWrong : ChangeSpec := { name := "evalExprs", fn := fun _ => fun
  | [d1, d2, d3, d4, d5, d6, d7, d8] => { results := [.lit (.bool false)], args := [d1, d2, d3, d4, d5, d6, d7, d8] }
  | _ => none }
def EvalExprsWrongFalsely : Prop := evalExprsRow.holds Tryz.pinned (OpenSpec.ofChange evalExprsWrong)

/-- 'timeboundlaw06.EvalCounts': WHATEVER THE INPUT: true; the input reads as it did. -/
def evalCountsSpec : ChangeSpec := { name := "evalCounts", fn := fun _ => fun
  | [d1, d2, d3] => { results := [.lit (.bool true)], args := [d1, d2, d3] }
  | _ => none }
def evalCountsRow : OpenClaim := { program := "ytalkkcfojplmdaagreatdoor", sum := "66b4df1757956074b454a13b07466e6aa88814a86512705ef0c3535c8e994a67", func := "timebound/timeboundlaw06.EvalCounts", spec := "evalCounts", inPlace := ["internal/abi.NoEscape", "internal/bytealg.MakeNoZero"], unfollowed := true, recurses := true, named := ["timebound/tree.words", "timebound/tree.signs", "internal/strconv.uint64pow10", "math/bits.deBruijn32tab", "math/bits.deBruijn64tab"], apart := false, laid := [("math/bits.deBruijn32tab", laid_math_bits_deBruijn32tab), ("math/bits.deBruijn64tab", laid_math_bits_deBruijn64tab), ("internal/strconv.uint64pow10", laid_internal_strconv_uint64pow10), ("timebound/tree.words", laid_timebound_tree_words), ("timebound/tree.signs", laid_timebound_tree_signs)] }
def EvalCountsSaid : Prop := evalCountsRow.holds Tryz.pinned (OpenSpec.ofChange evalCountsSpec)

/-- ITS FALSE NEIGHBOUR: 'it returns false'. Refute it at one input. -/
def evalCountsWrong : ChangeSpec := { name := "evalCounts", fn := fun _ => fun
  | [d1, d2, d3] => { results := [.lit (.bool false)], args := [d1, d2, d3] }
  | _ => none }
def EvalCountsWrongFalsely : Prop := evalCountsRow.holds Tryz.pinned (OpenSpec.ofChange evalCountsWrong)

/-- 'timeboundlaw06.EvalSplit': WHATEVER THE INPUT: true; the input reads as it did. -/
def evalSplitSpec : ChangeSpec := { name := "evalSplit", fn := fun _ => fun
  | [d1, d2] => { results := [.lit (.bool true)], args := [d1, d2] }
  | _ => none }
def evalSplitRow : OpenClaim := { program := "ytalkkcfojplmdaagreatdoor", sum := "66b4df1757956074b454a13b07466e6aa88814a86512705ef0c3535c8e994a67", func := "timebound/timeboundlaw06.EvalSplit", spec := "evalSplit", inPlace := ["internal/abi.NoEscape", "internal/bytealg.MakeNoZero"], unfollowed := true, recurses := true, named := ["timebound/tree.words", "timebound/tree.signs", "internal/strconv.uint64pow10", "math/bits.deBruijn32tab", "math/bits.deBruijn64tab"], apart := false, laid := [("math/bits.deBruijn32tab", laid_math_bits_deBruijn32tab), ("math/bits.deBruijn64tab", laid_math_bits_deBruijn64tab), ("internal/strconv.uint64pow10", laid_internal_strconv_uint64pow10), ("timebound/tree.words", laid_timebound_tree_words), ("timebound/tree.signs", laid_timebound_tree_signs)] }
def EvalSplitSaid : Prop := evalSplitRow.holds Tryz.pinned (OpenSpec.ofChange evalSplitSpec)

/-- ITS FALSE NEIGHBOUR: 'it returns false'. Refute it at one input. -/
def evalSplitWrong : ChangeSpec := { name := "evalSplit", fn := fun _ => fun
  | [d1, d2] => { results := [.lit (.bool false)], args := [d1, d2] }
  | _ => none }
def EvalSplitWrongFalsely : Prop := evalSplitRow.holds Tryz.pinned (OpenSpec.ofChange evalSplitWrong)

/-- 'timeboundlaw06.EvalLoops': WHATEVER THE INPUT: true; the input reads as it did. -/
def evalLoopsSpec : ChangeSpec := { name := "evalLoops", fn := fun _ => fun
  | [d1, d2, d3, d4] => { results := [.lit (.bool true)], args := [d1, d2, d3, d4] }
  | _ => none }
def evalLoopsRow : OpenClaim := { program := "ytalkkcfojplmdaagreatdoor", sum := "66b4df1757956074b454a13b07466e6aa88814a86512705ef0c3535c8e994a67", func := "timebound/timeboundlaw06.EvalLoops", spec := "evalLoops", inPlace := ["internal/abi.NoEscape", "internal/bytealg.MakeNoZero"], unfollowed := true, recurses := true, named := ["timebound/tree.words", "timebound/tree.signs", "internal/strconv.uint64pow10", "math/bits.deBruijn32tab", "math/bits.deBruijn64tab"], apart := false, laid := [("math/bits.deBruijn32tab", laid_math_bits_deBruijn32tab), ("math/bits.deBruijn64tab", laid_math_bits_deBruijn64tab), ("internal/strconv.uint64pow10", laid_internal_strconv_uint64pow10), ("timebound/tree.words", laid_timebound_tree_words), ("timebound/tree.signs", laid_timebound_tree_signs)] }
def EvalLoopsSaid : Prop := evalLoopsRow.holds Tryz.pinned (OpenSpec.ofChange evalLoopsSpec)

/-- ITS FALSE NEIGHBOUR: 'it returns false'. Refute it at one input. -/
def evalLoopsWrong : ChangeSpec := { name := "evalLoops", fn := fun _ => fun
  | [d1, d2, d3, d4] => { results := [.lit (.bool false)], args := [d1, d2, d3, d4] }
  | _ => none }
def EvalLoopsWrongFalsely : Prop := evalLoopsRow.holds Tryz.pinned (OpenSpec.ofChange evalLoopsWrong)

/-- 'timeboundlaw06.EvalApart': WHATEVER THE INPUT: true; the input reads as it did. -/
def evalApartSpec : ChangeSpec := { name := "evalApart", fn := fun _ => fun
  | [d1, d2] => { results := [.lit (.bool true)], args := [d1, d2] }
  | _ => none }
def evalApartRow : OpenClaim := { program := "ytalkkcfojplmdaagreatdoor", sum := "66b4df1757956074b454a13b07466e6aa88814a86512705ef0c3535c8e994a67", func := "timebound/timeboundlaw06.EvalApart", spec := "evalApart", inPlace := ["internal/abi.NoEscape", "internal/bytealg.MakeNoZero"], unfollowed := true, recurses := true, named := ["timebound/tree.words", "timebound/tree.signs", "internal/strconv.uint64pow10", "math/bits.deBruijn32tab", "math/bits.deBruijn64tab"], apart := false, laid := [("math/bits.deBruijn32tab", laid_math_bits_deBruijn32tab), ("math/bits.deBruijn64tab", laid_math_bits_deBruijn64tab), ("internal/strconv.uint64pow10", laid_internal_strconv_uint64pow10), ("timebound/tree.words", laid_timebound_tree_words), ("timebound/tree.signs", laid_timebound_tree_signs)] }
def EvalApartSaid : Prop := evalApartRow.holds Tryz.pinned (OpenSpec.ofChange evalApartSpec)

/-- ITS FALSE NEIGHBOUR: 'it returns false'. Refute it at one input. -/
def evalApartWrong : ChangeSpec := { name := "evalApart", fn := fun _ => fun
  | [d1, d2] => { results := [.lit (.bool false)], args := [d1, d2] }
  | _ => none }
def EvalApartWrongFalsely : Prop := evalApartRow.holds Tryz.pinned (OpenSpec.ofChange evalApartWrong)

/- THE SECOND FORM. 'bulk': how many values and letters a reading holds, each counted each time it is reached (what is shared counts as often as it is met; a slice's spare places count too). A statement '..UptoSaid' is the law's where the arguments, and the package variables that the reading takes, are together of bulk at most 1048576: NARROWER than '..Said'. Prove '..Said' where nothing that the law and all that it calls make is longer than what came in: it says more and counts as full. Else prove '..UptoSaid'. A law counts once. -/
mutual
def uptoBulk {H : Type} : DataW H → Nat
  | .lit (.string bytes) => bytes.length + 1
  | .lit _ => 1
  | .nil => 1
  | .ptr d => uptoBulk d + 1
  | .slice elems spare => uptoBulkAll elems + uptoBulkAll spare + 1
  | .agg parts => uptoBulkAll parts + 1
  | .iface _ d => uptoBulk d + 1
  | .map entries => uptoBulkEntries entries + 1
  | .held _ => 1
def uptoBulkAll {H : Type} : List (DataW H) → Nat
  | [] => 0
  | d :: r => uptoBulk d + uptoBulkAll r
def uptoBulkEntries {H : Type} : List (Lit × DataW H) → Nat
  | [] => 0
  | x :: r => uptoBulkEntry x + uptoBulkEntries r
def uptoBulkEntry {H : Type} : Lit × DataW H → Nat
  | (.string bytes, d) => bytes.length + uptoBulk d + 1
  | (_, d) => uptoBulk d + 1
 end
def uptoSmall : (H : Type) → List (DataW H) → Bool := fun _ ds => decide (uptoBulkAll ds ≤ 1048576)
def OpenSpec.upto (s : _root_.Go.ChangeSpec) : _root_.Go.OpenSpec := { _root_.Go.OpenSpec.ofChange s with cond := some uptoSmall }

/-- 'timeboundlaw05.CheckNames', WHERE WHAT IT READS IS OF BULK AT MOST 1048576: true; the input reads as it did. -/
def checkNamesUptoRow : OpenClaim := { program := "ytalkkcfojplmdaagreatdoor", sum := "66b4df1757956074b454a13b07466e6aa88814a86512705ef0c3535c8e994a67", func := "timebound/timeboundlaw05.CheckNames", spec := "checkNames", inPlace := ["internal/abi.NoEscape", "internal/bytealg.MakeNoZero"], unfollowed := true, recurses := true, named := ["timebound/tree.words", "timebound/tree.signs", "internal/strconv.uint64pow10", "math/bits.deBruijn32tab", "math/bits.deBruijn64tab"], apart := false, laid := [("math/bits.deBruijn32tab", laid_math_bits_deBruijn32tab), ("math/bits.deBruijn64tab", laid_math_bits_deBruijn64tab), ("internal/strconv.uint64pow10", laid_internal_strconv_uint64pow10), ("timebound/tree.words", laid_timebound_tree_words), ("timebound/tree.signs", laid_timebound_tree_signs)], narrowed := true }
def CheckNamesUptoSaid : Prop := checkNamesUptoRow.holds Tryz.pinned (OpenSpec.upto checkNamesSpec)

/-- 'timeboundlaw05.CheckNear', WHERE WHAT IT READS IS OF BULK AT MOST 1048576: true; the input reads as it did. -/
def checkNearUptoRow : OpenClaim := { program := "ytalkkcfojplmdaagreatdoor", sum := "66b4df1757956074b454a13b07466e6aa88814a86512705ef0c3535c8e994a67", func := "timebound/timeboundlaw05.CheckNear", spec := "checkNear", inPlace := ["internal/abi.NoEscape", "internal/bytealg.MakeNoZero"], unfollowed := true, recurses := true, named := ["timebound/tree.words", "timebound/tree.signs", "internal/strconv.uint64pow10", "math/bits.deBruijn32tab", "math/bits.deBruijn64tab"], apart := false, laid := [("math/bits.deBruijn32tab", laid_math_bits_deBruijn32tab), ("math/bits.deBruijn64tab", laid_math_bits_deBruijn64tab), ("internal/strconv.uint64pow10", laid_internal_strconv_uint64pow10), ("timebound/tree.words", laid_timebound_tree_words), ("timebound/tree.signs", laid_timebound_tree_signs)], narrowed := true }
def CheckNearUptoSaid : Prop := checkNearUptoRow.holds Tryz.pinned (OpenSpec.upto checkNearSpec)

/-- 'timeboundlaw05.CheckMade', WHERE WHAT IT READS IS OF BULK AT MOST 1048576: true; the input reads as it did. -/
def checkMadeUptoRow : OpenClaim := { program := "ytalkkcfojplmdaagreatdoor", sum := "66b4df1757956074b454a13b07466e6aa88814a86512705ef0c3535c8e994a67", func := "timebound/timeboundlaw05.CheckMade", spec := "checkMade", inPlace := ["internal/abi.NoEscape", "internal/bytealg.MakeNoZero"], unfollowed := true, recurses := true, named := ["timebound/tree.words", "timebound/tree.signs", "internal/strconv.uint64pow10", "math/bits.deBruijn32tab", "math/bits.deBruijn64tab"], apart := false, laid := [("math/bits.deBruijn32tab", laid_math_bits_deBruijn32tab), ("math/bits.deBruijn64tab", laid_math_bits_deBruijn64tab), ("internal/strconv.uint64pow10", laid_internal_strconv_uint64pow10), ("timebound/tree.words", laid_timebound_tree_words), ("timebound/tree.signs", laid_timebound_tree_signs)], narrowed := true }
def CheckMadeUptoSaid : Prop := checkMadeUptoRow.holds Tryz.pinned (OpenSpec.upto checkMadeSpec)

/-- 'timeboundlaw06.EvalRuns', WHERE WHAT IT READS IS OF BULK AT MOST 1048576: true; the input reads as it did. -/
def evalRunsUptoRow : OpenClaim := { program := "ytalkkcfojplmdaagreatdoor", sum := "66b4df1757956074b454a13b07466e6aa88814a86512705ef0c3535c8e994a67", func := "timebound/timeboundlaw06.EvalRuns", spec := "evalRuns", inPlace := ["internal/abi.NoEscape", "internal/bytealg.MakeNoZero"], unfollowed := true, recurses := true, named := ["timebound/tree.words", "timebound/tree.signs", "internal/strconv.uint64pow10", "math/bits.deBruijn32tab", "math/bits.deBruijn64tab"], apart := false, laid := [("math/bits.deBruijn32tab", laid_math_bits_deBruijn32tab), ("math/bits.deBruijn64tab", laid_math_bits_deBruijn64tab), ("internal/strconv.uint64pow10", laid_internal_strconv_uint64pow10), ("timebound/tree.words", laid_timebound_tree_words), ("timebound/tree.signs", laid_timebound_tree_signs)], narrowed := true }
def EvalRunsUptoSaid : Prop := evalRunsUptoRow.holds Tryz.pinned (OpenSpec.upto evalRunsSpec)

/-- 'timeboundlaw06.EvalExprs', WHERE WHAT IT READS IS OF BULK AT MOST 1048576: true; the input reads as it did. -/
def evalExprsUptoRow : OpenClaim := { program := "ytalkkcfojplmdaagreatdoor", sum := "66b4df1757956074b454a13b07466e6aa88814a86512705ef0c3535c8e994a67", func := "timebound/timeboundlaw06.EvalExprs", spec := "evalExprs", inPlace := ["internal/abi.NoEscape", "internal/bytealg.MakeNoZero"], unfollowed := true, recurses := true, named := ["timebound/tree.words", "timebound/tree.signs", "internal/strconv.uint64pow10", "math/bits.deBruijn32tab", "math/bits.deBruijn64tab"], apart := false, laid := [("math/bits.deBruijn32tab", laid_math_bits_deBruijn32tab), ("math/bits.deBruijn64tab", laid_math_bits_deBruijn64tab), ("internal/strconv.uint64pow10", laid_internal_strconv_uint64pow10), ("timebound/tree.words", laid_timebound_tree_words), ("timebound/tree.signs", laid_timebound_tree_signs)], narrowed := true }
def EvalExprsUptoSaid : Prop := evalExprsUptoRow.holds Tryz.pinned (OpenSpec.upto evalExprsSpec)

/-- 'timeboundlaw06.EvalCounts', WHERE WHAT IT READS IS OF BULK AT MOST 1048576: true; the input reads as it did. -/
def evalCountsUptoRow : OpenClaim := { program := "ytalkkcfojplmdaagreatdoor", sum := "66b4df1757956074b454a13b07466e6aa88814a86512705ef0c3535c8e994a67", func := "timebound/timeboundlaw06.EvalCounts", spec := "evalCounts", inPlace := ["internal/abi.NoEscape", "internal/bytealg.MakeNoZero"], unfollowed := true, recurses := true, named := ["timebound/tree.words", "timebound/tree.signs", "internal/strconv.uint64pow10", "math/bits.deBruijn32tab", "math/bits.deBruijn64tab"], apart := false, laid := [("math/bits.deBruijn32tab", laid_math_bits_deBruijn32tab), ("math/bits.deBruijn64tab", laid_math_bits_deBruijn64tab), ("internal/strconv.uint64pow10", laid_internal_strconv_uint64pow10), ("timebound/tree.words", laid_timebound_tree_words), ("timebound/tree.signs", laid_timebound_tree_signs)], narrowed := true }
def EvalCountsUptoSaid : Prop := evalCountsUptoRow.holds Tryz.pinned (OpenSpec.upto evalCountsSpec)

/-- 'timeboundlaw06.EvalSplit', WHERE WHAT IT READS IS OF BULK AT MOST 1048576: true; the input reads as it did. -/
def evalSplitUptoRow : OpenClaim := { program := "ytalkkcfojplmdaagreatdoor", sum := "66b4df1757956074b454a13b07466e6aa88814a86512705ef0c3535c8e994a67", func := "timebound/timeboundlaw06.EvalSplit", spec := "evalSplit", inPlace := ["internal/abi.NoEscape", "internal/bytealg.MakeNoZero"], unfollowed := true, recurses := true, named := ["timebound/tree.words", "timebound/tree.signs", "internal/strconv.uint64pow10", "math/bits.deBruijn32tab", "math/bits.deBruijn64tab"], apart := false, laid := [("math/bits.deBruijn32tab", laid_math_bits_deBruijn32tab), ("math/bits.deBruijn64tab", laid_math_bits_deBruijn64tab), ("internal/strconv.uint64pow10", laid_internal_strconv_uint64pow10), ("timebound/tree.words", laid_timebound_tree_words), ("timebound/tree.signs", laid_timebound_tree_signs)], narrowed := true }
def EvalSplitUptoSaid : Prop := evalSplitUptoRow.holds Tryz.pinned (OpenSpec.upto evalSplitSpec)

/-- 'timeboundlaw06.EvalLoops', WHERE WHAT IT READS IS OF BULK AT MOST 1048576: true; the input reads as it did. -/
def evalLoopsUptoRow : OpenClaim := { program := "ytalkkcfojplmdaagreatdoor", sum := "66b4df1757956074b454a13b07466e6aa88814a86512705ef0c3535c8e994a67", func := "timebound/timeboundlaw06.EvalLoops", spec := "evalLoops", inPlace := ["internal/abi.NoEscape", "internal/bytealg.MakeNoZero"], unfollowed := true, recurses := true, named := ["timebound/tree.words", "timebound/tree.signs", "internal/strconv.uint64pow10", "math/bits.deBruijn32tab", "math/bits.deBruijn64tab"], apart := false, laid := [("math/bits.deBruijn32tab", laid_math_bits_deBruijn32tab), ("math/bits.deBruijn64tab", laid_math_bits_deBruijn64tab), ("internal/strconv.uint64pow10", laid_internal_strconv_uint64pow10), ("timebound/tree.words", laid_timebound_tree_words), ("timebound/tree.signs", laid_timebound_tree_signs)], narrowed := true }
def EvalLoopsUptoSaid : Prop := evalLoopsUptoRow.holds Tryz.pinned (OpenSpec.upto evalLoopsSpec)

/-- 'timeboundlaw06.EvalApart', WHERE WHAT IT READS IS OF BULK AT MOST 1048576: true; the input reads as it did. -/
def evalApartUptoRow : OpenClaim := { program := "ytalkkcfojplmdaagreatdoor", sum := "66b4df1757956074b454a13b07466e6aa88814a86512705ef0c3535c8e994a67", func := "timebound/timeboundlaw06.EvalApart", spec := "evalApart", inPlace := ["internal/abi.NoEscape", "internal/bytealg.MakeNoZero"], unfollowed := true, recurses := true, named := ["timebound/tree.words", "timebound/tree.signs", "internal/strconv.uint64pow10", "math/bits.deBruijn32tab", "math/bits.deBruijn64tab"], apart := false, laid := [("math/bits.deBruijn32tab", laid_math_bits_deBruijn32tab), ("math/bits.deBruijn64tab", laid_math_bits_deBruijn64tab), ("internal/strconv.uint64pow10", laid_internal_strconv_uint64pow10), ("timebound/tree.words", laid_timebound_tree_words), ("timebound/tree.signs", laid_timebound_tree_signs)], narrowed := true }
def EvalApartUptoSaid : Prop := evalApartUptoRow.holds Tryz.pinned (OpenSpec.upto evalApartSpec)

end Rows
end Go.Proofs.YtalkkcfojplmdaaGreatDoor
