import Derived.Test.YtccojifhaoadbaaDoorProg
import Derived.Test.YtccojifhaoadbaaDoorVc9
import Derived.Lib.LaidTab
import Derived.Lib.ItoaNum
namespace Go.Proofs.YtccojifhaoadbaaDoor
open Go.Vc

/-- The table of the powers of ten lies where it lay, and as it lay. -/
instance gl : Gl Tryd.prog where
  ok w A := ∃ g, Tryd.prog.globalNamed "internal/strconv.uint64pow10" = some g ∧ ¬ A g ∧ Lib.TabIs Tryd.prog w "internal/strconv.uint64pow10" .u64 Lib.pow10Tab
  up := by
    rintro w w' A A' hu hA ⟨g, h1, h2, h3⟩
    have hlt : g < w.heap.size := by
      rcases Nat.lt_or_ge g w.heap.size with h | h
      · exact h
      · unfold Lib.TabIs World.var? at h3
        rw [h1] at h3
        simp only [Option.bind_some, Array.getElem?_eq_none h] at h3
        cases h3
    refine ⟨g, h1, fun h => (hA g h).elim h2 (by omega), ?_⟩
    unfold Lib.TabIs World.var? at h3 ⊢
    rw [h1] at h3 ⊢
    simp only [Option.bind_some] at h3 ⊢
    rw [hu.block g hlt h2]
    exact h3
end Go.Proofs.YtccojifhaoadbaaDoor
