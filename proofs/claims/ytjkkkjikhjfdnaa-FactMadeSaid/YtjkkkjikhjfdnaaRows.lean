/-
  No cell of these rows narrows 'for every input' (looked for: loops, veiled, ifaces, maps, wideKeys, modest, calm, conditions, laid).
  DERIVED. THE GIVEN ROWS OF THIS SEAT. 5 by the template 'for every input the law returns true; each argument reads behind the call as it read before'; 0 by the template 'total and deterministic' (their statements: YtjkkkjikhjfdnaaTotals.lean).
  GIVEN WITH THE SEED: the statements are not yours to turn. If you find one false, say at which input.
  Laid BY PROGRAM, IN A SANDBOX (cutbox-rows.mjs): the forced cells as the released guide's own fill.sh prints them over the translation 0f27fe4578c4cd76… (all of the seat's roots in one cut). By AI agents, Wed Nov 11 2026. No macro, syntax, notation, axiom, sorry.
-/
import Derived.Test.YtjkkkjikhjfdnaaChecked
import GoSem.Claim
import GoSem.ClaimJoined
import GoSem.ClaimMapViews
import Derived.JoinedTies
import Derived.KernelRfl
namespace Go.Proofs.Ytjkkkjikhjfdnaa
/- THE CELL 'sum', in the pinned program and in every row, IS THE sha256 OF THE DUMP (.gsa) THAT YtjkkkjikhjfdnaaProg.lean LOADS. Nothing in Lean hashes anything: it is a label: what it is worth is what the hold of that sum in a sandbox is worth. -/
noncomputable def Try.pinned : Pinned := { name := "ytjkkkjikhjfdnaa", sum := "0f27fe4578c4cd76c2f9b2022e44659e0d715467c917cd7499b9536c3b09c4b6", checked := Try.checked }
namespace Rows
def none {H : Type} : Left H := { results := [], args := [] }

/-- 'timeboundlaw11.FactGoesAlong': WHATEVER THE INPUT: true; the input reads as it did. -/
def factGoesAlongSpec : ChangeSpec := { name := "factGoesAlong", fn := fun _ => fun
  | [d] => { results := [.lit (.bool true)], args := [d] }
  | _ => none }
def factGoesAlongRow : OpenClaim := { program := "ytjkkkjikhjfdnaa", sum := "0f27fe4578c4cd76c2f9b2022e44659e0d715467c917cd7499b9536c3b09c4b6", func := "timebound/timeboundlaw11.FactGoesAlong", spec := "factGoesAlong", unfollowed := true, recurses := true, apart := false }
def FactGoesAlongSaid : Prop := factGoesAlongRow.holds Try.pinned (OpenSpec.ofChange factGoesAlongSpec)

/-- ITS FALSE NEIGHBOUR: 'it returns false'. Refute it at one input. -/
def factGoesAlongWrong : ChangeSpec := { name := "factGoesAlong", fn := fun _ => fun
  | [d] => { results := [.lit (.bool false)], args := [d] }
  | _ => none }
def FactGoesAlongWrongFalsely : Prop := factGoesAlongRow.holds Try.pinned (OpenSpec.ofChange factGoesAlongWrong)

/-- 'timeboundlaw11.FactOrder': WHATEVER THE INPUT: true; the input reads as it did. -/
def factOrderSpec : ChangeSpec := { name := "factOrder", fn := fun _ => fun
  | [d1, d2, d3] => { results := [.lit (.bool true)], args := [d1, d2, d3] }
  | _ => none }
def factOrderRow : OpenClaim := { program := "ytjkkkjikhjfdnaa", sum := "0f27fe4578c4cd76c2f9b2022e44659e0d715467c917cd7499b9536c3b09c4b6", func := "timebound/timeboundlaw11.FactOrder", spec := "factOrder", unfollowed := true, recurses := true, apart := false }
def FactOrderSaid : Prop := factOrderRow.holds Try.pinned (OpenSpec.ofChange factOrderSpec)

/-- ITS FALSE NEIGHBOUR: 'it returns false'. Refute it at one input. -/
def factOrderWrong : ChangeSpec := { name := "factOrder", fn := fun _ => fun
  | [d1, d2, d3] => { results := [.lit (.bool false)], args := [d1, d2, d3] }
  | _ => none }
def FactOrderWrongFalsely : Prop := factOrderRow.holds Try.pinned (OpenSpec.ofChange factOrderWrong)

/-- 'timeboundlaw11.FactSums': WHATEVER THE INPUT: true; the input reads as it did. -/
def factSumsSpec : ChangeSpec := { name := "factSums", fn := fun _ => fun
  | [d1, d2, d3] => { results := [.lit (.bool true)], args := [d1, d2, d3] }
  | _ => none }
def factSumsRow : OpenClaim := { program := "ytjkkkjikhjfdnaa", sum := "0f27fe4578c4cd76c2f9b2022e44659e0d715467c917cd7499b9536c3b09c4b6", func := "timebound/timeboundlaw11.FactSums", spec := "factSums", unfollowed := true, recurses := true, apart := false }
def FactSumsSaid : Prop := factSumsRow.holds Try.pinned (OpenSpec.ofChange factSumsSpec)

/-- ITS FALSE NEIGHBOUR: 'it returns false'. Refute it at one input. -/
def factSumsWrong : ChangeSpec := { name := "factSums", fn := fun _ => fun
  | [d1, d2, d3] => { results := [.lit (.bool false)], args := [d1, d2, d3] }
  | _ => none }
def FactSumsWrongFalsely : Prop := factSumsRow.holds Try.pinned (OpenSpec.ofChange factSumsWrong)

/-- 'timeboundlaw11.FactTwice': WHATEVER THE INPUT: true; the input reads as it did. -/
def factTwiceSpec : ChangeSpec := { name := "factTwice", fn := fun _ => fun
  | [d] => { results := [.lit (.bool true)], args := [d] }
  | _ => none }
def factTwiceRow : OpenClaim := { program := "ytjkkkjikhjfdnaa", sum := "0f27fe4578c4cd76c2f9b2022e44659e0d715467c917cd7499b9536c3b09c4b6", func := "timebound/timeboundlaw11.FactTwice", spec := "factTwice", unfollowed := true, recurses := true, apart := false }
def FactTwiceSaid : Prop := factTwiceRow.holds Try.pinned (OpenSpec.ofChange factTwiceSpec)

/-- ITS FALSE NEIGHBOUR: 'it returns false'. Refute it at one input. -/
def factTwiceWrong : ChangeSpec := { name := "factTwice", fn := fun _ => fun
  | [d] => { results := [.lit (.bool false)], args := [d] }
  | _ => none }
def FactTwiceWrongFalsely : Prop := factTwiceRow.holds Try.pinned (OpenSpec.ofChange factTwiceWrong)

/-- 'timeboundlaw11.FactMade': WHATEVER THE INPUT: true; the input reads as it did. -/
def factMadeSpec : ChangeSpec := { name := "factMade", fn := fun _ => fun
  | [d1, d2, d3, d4, d5] => { results := [.lit (.bool true)], args := [d1, d2, d3, d4, d5] }
  | _ => none }
def factMadeRow : OpenClaim := { program := "ytjkkkjikhjfdnaa", sum := "0f27fe4578c4cd76c2f9b2022e44659e0d715467c917cd7499b9536c3b09c4b6", func := "timebound/timeboundlaw11.FactMade", spec := "factMade", unfollowed := true, recurses := true, apart := false }
def FactMadeSaid : Prop := factMadeRow.holds Try.pinned (OpenSpec.ofChange factMadeSpec)

/-- ITS FALSE NEIGHBOUR: 'it returns false'. Refute it at one input. -/
def factMadeWrong : ChangeSpec := { name := "factMade", fn := fun _ => fun
  | [d1, d2, d3, d4, d5] => { results := [.lit (.bool false)], args := [d1, d2, d3, d4, d5] }
  | _ => none }
def FactMadeWrongFalsely : Prop := factMadeRow.holds Try.pinned (OpenSpec.ofChange factMadeWrong)

/- THE SECOND FORM. 'bulk': how many values and letters a reading holds, each counted each time it is reached (what is shared counts as often as it is met; a slice's spare places count too). A statement '..UptoSaid' is the law's where the arguments, and the package variables that the reading takes, are together of bulk at most 1048576: NARROWER than '..Said'. Prove '..Said' where nothing that the law and all that it calls make is longer than what came in: it says more and counts as full. Else prove '..UptoSaid'. A law counts once. -/
mutual
def uptoBulk {H : Type} : DataW H → Nat
  | .lit (.string bytes) => bytes.length + 1
  | .lit _ => 1
  | .nil => 1
  | .ptr d => uptoBulk d + 1
  | .slice elems spare => uptoBulkAll elems + uptoBulkAll spare + 1
  | .agg parts => uptoBulkAll parts + 1
  | .iface _ d => uptoBulk d + 1
  | .map entries => uptoBulkEntries entries + 1
  | .held _ => 1
def uptoBulkAll {H : Type} : List (DataW H) → Nat
  | [] => 0
  | d :: r => uptoBulk d + uptoBulkAll r
def uptoBulkEntries {H : Type} : List (Lit × DataW H) → Nat
  | [] => 0
  | x :: r => uptoBulkEntry x + uptoBulkEntries r
def uptoBulkEntry {H : Type} : Lit × DataW H → Nat
  | (.string bytes, d) => bytes.length + uptoBulk d + 1
  | (_, d) => uptoBulk d + 1
 end
def uptoSmall : (H : Type) → List (DataW H) → Bool := fun _ ds => decide (uptoBulkAll ds ≤ 1048576)
def OpenSpec.upto (s : _root_.Go.ChangeSpec) : _root_.Go.OpenSpec := { _root_.Go.OpenSpec.ofChange s with cond := some uptoSmall }

/-- 'timeboundlaw11.FactGoesAlong', WHERE WHAT IT READS IS OF BULK AT MOST 1048576: true; the input reads as it did. -/
def factGoesAlongUptoRow : OpenClaim := { program := "ytjkkkjikhjfdnaa", sum := "0f27fe4578c4cd76c2f9b2022e44659e0d715467c917cd7499b9536c3b09c4b6", func := "timebound/timeboundlaw11.FactGoesAlong", spec := "factGoesAlong", unfollowed := true, recurses := true, apart := false, narrowed := true }
def FactGoesAlongUptoSaid : Prop := factGoesAlongUptoRow.holds Try.pinned (OpenSpec.upto factGoesAlongSpec)

/-- 'timeboundlaw11.FactOrder', WHERE WHAT IT READS IS OF BULK AT MOST 1048576: true; the input reads as it did. -/
def factOrderUptoRow : OpenClaim := { program := "ytjkkkjikhjfdnaa", sum := "0f27fe4578c4cd76c2f9b2022e44659e0d715467c917cd7499b9536c3b09c4b6", func := "timebound/timeboundlaw11.FactOrder", spec := "factOrder", unfollowed := true, recurses := true, apart := false, narrowed := true }
def FactOrderUptoSaid : Prop := factOrderUptoRow.holds Try.pinned (OpenSpec.upto factOrderSpec)

/-- 'timeboundlaw11.FactSums', WHERE WHAT IT READS IS OF BULK AT MOST 1048576: true; the input reads as it did. -/
def factSumsUptoRow : OpenClaim := { program := "ytjkkkjikhjfdnaa", sum := "0f27fe4578c4cd76c2f9b2022e44659e0d715467c917cd7499b9536c3b09c4b6", func := "timebound/timeboundlaw11.FactSums", spec := "factSums", unfollowed := true, recurses := true, apart := false, narrowed := true }
def FactSumsUptoSaid : Prop := factSumsUptoRow.holds Try.pinned (OpenSpec.upto factSumsSpec)

/-- 'timeboundlaw11.FactTwice', WHERE WHAT IT READS IS OF BULK AT MOST 1048576: true; the input reads as it did. -/
def factTwiceUptoRow : OpenClaim := { program := "ytjkkkjikhjfdnaa", sum := "0f27fe4578c4cd76c2f9b2022e44659e0d715467c917cd7499b9536c3b09c4b6", func := "timebound/timeboundlaw11.FactTwice", spec := "factTwice", unfollowed := true, recurses := true, apart := false, narrowed := true }
def FactTwiceUptoSaid : Prop := factTwiceUptoRow.holds Try.pinned (OpenSpec.upto factTwiceSpec)

/-- 'timeboundlaw11.FactMade', WHERE WHAT IT READS IS OF BULK AT MOST 1048576: true; the input reads as it did. -/
def factMadeUptoRow : OpenClaim := { program := "ytjkkkjikhjfdnaa", sum := "0f27fe4578c4cd76c2f9b2022e44659e0d715467c917cd7499b9536c3b09c4b6", func := "timebound/timeboundlaw11.FactMade", spec := "factMade", unfollowed := true, recurses := true, apart := false, narrowed := true }
def FactMadeUptoSaid : Prop := factMadeUptoRow.holds Try.pinned (OpenSpec.upto factMadeSpec)

end Rows
end Go.Proofs.Ytjkkkjikhjfdnaa
