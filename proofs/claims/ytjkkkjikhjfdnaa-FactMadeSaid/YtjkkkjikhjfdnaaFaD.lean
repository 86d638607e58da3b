import Derived.Test.YtjkkkjikhjfdnaaRows
import Derived.Test.YtjkkkjikhjfdnaaVce
import Derived.WalkKit
namespace Go.Proofs.Ytjkkkjikhjfdnaa
open Go.ChangeShapes Go.WideShapes Go.ChangeAt Go.RowKit Go.Vc
theorem own : ownKnob Try.prog.godebug = none := by kernel_rfl
theorem laidOut : laidOutB Try.prog = true := by kernel_rfl
theorem cells3 : Try.prog.cellsOf 3 = 1 := by kernel_rfl
end Go.Proofs.Ytjkkkjikhjfdnaa
