import Derived.Test.YtccojifhaoadbaaDoorTk8
namespace Go.Proofs.YtccojifhaoadbaaDoor
open Go.Vc
attribute [local irreducible] JL JC JQ OpWp Con ConN

theorem sameTok_refl (ln : Bool) (a : Tok) : sameTok ln a a = true := by
  unfold sameTok
  rw [decide_eq_true rfl, decide_eq_true rfl, decide_eq_true rfl, decide_eq_true rfl]
  cases ln <;> rfl
theorem sameL_refl (ln : Bool) (l : List Tok) : sameL ln l l = true := sameL_yes rfl (fun _ _ _ => sameTok_refl ln _)
end Go.Proofs.YtccojifhaoadbaaDoor
