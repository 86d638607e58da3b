import Derived.Test.YtccojifhaoadbaaDoorCards
import Derived.Test.YtccojifhaoadbaaDoorTie
import Derived.Test.YtccojifhaoadbaaDoorGl
import Derived.Test.YtccojifhaoadbaaDoorVce
import Derived.WalkKit
import Derived.ProofKit
import Derived.OpenShut
import Derived.LaidMore
import Derived.Stop.Joined
import Derived.Stop.LaidErr
import Derived.Deep.DeepHandedRow
import Derived.Lib.LaidTab
import Derived.Lib.SmallJoins
namespace Go.Proofs.YtccojifhaoadbaaDoor
open Go.ChangeShapes Go.WideShapes Go.ChangeAt Go.RowKit Go.Vc

theorem own : ownKnob Tryd.prog.godebug = none := by kernel_rfl
theorem laidOut : laidOutB Tryd.prog = true := by kernel_rfl
theorem cells3 : Tryd.prog.cellsOf 3 = 1 := by kernel_rfl
theorem cells5 : Tryd.prog.cellsOf 5 = 1 := by kernel_rfl
theorem gTab : Tryd.prog.globalNamed "internal/strconv.uint64pow10" = some 0 := by kernel_rfl
theorem gTabType : (Tryd.prog.globals[0]?).map (·.type) = some 59 := by kernel_rfl
theorem cellsTab : Tryd.prog.cellsOf 59 = 20 := by kernel_rfl
theorem cellsU64 : Tryd.prog.cellsOf 52 = 1 := by kernel_rfl
theorem tabData_eq : (Rows.laid_internal_strconv_uint64pow10 : DataW Unit) = Lib.tabData .u64 Lib.pow10Tab := by kernel_rfl

/-- What the row's list gives: the table lies as it was laid. -/
theorem gl_of {W : World} (h : laidMetH Tryd.prog Rows.tokenRawRow.laid W) : Gl.ok Tryd.prog W (fun _ => False) := by
  have h1 : laidMet Tryd.prog Rows.tokenRawRow.laid W := h
  have h2 := laidMet.tail (laidMet.tail h1)
  rw [tabData_eq] at h2
  exact ⟨0, gTab, id, Lib.tabIs_of_head (rest := []) gTab gTabType Tryd.underlying59 Tryd.underlying52 cellsU64 cellsTab h2⟩

/-- A world for the witness: as the program's start lays it. -/
noncomputable def laidWorld (os : Os) : World := World.doorLaid Tryd.prog 400 os
theorem laid_met (os : Os) (args : Array Value) : laidMet Tryd.prog Rows.tokenRawRow.laid ((laidWorld os).forCall (fun _ _ => 0) ⟨#[], args, []⟩).memory :=
  laidMet_of_run' 8 (by kernel_rfl) (by kernel_rfl)
end Go.Proofs.YtccojifhaoadbaaDoor
