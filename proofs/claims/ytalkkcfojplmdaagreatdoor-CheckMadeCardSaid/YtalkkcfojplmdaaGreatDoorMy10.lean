import Derived.Test.YtalkkcfojplmdaaGreatDoorMy9
section
namespace Go.Proofs.YtalkkcfojplmdaaGreatDoor.checkMade
open Go.ChangeShapes Go.WideShapes Go.ChangeAt Go.RowKit Go.Vc Go.Joins
theorem and_tt {a b:Bool} (h:a=true) (k:b=true):(a && b)=true:=by rw [h,k]; rfl
set_option maxHeartbeats 4000000 in
theorem said:Rows.CheckMadeSaid :=
 OpenClaim.holds_of_cond 5 Tryz.f5 rfl rfl rfl rfl rfl rfl rfl ⟨rfl,rfl,rfl,rfl,rfl⟩ rfl rfl rfl rfl rfl (by kernel_rfl) Tryz.func5 (by unfold joinedFacts; (repeat' (with_reducible refine and_tt ?_ ?_)) <;> (as_aux_lemma=>kernel_rfl))
  (of_decide_eq_true (by kernel_rfl)) (by unfold Func.isWrapper; first | (rw [if_pos (by decide +kernel)]; kernel_rfl) | (rw [if_neg (by decide +kernel)]; exact ⟨rfl,rfl⟩))
  (fun os started H enc _ F=>by rw [OpenClaim.pre_eq_preRow]; exact lifted os started H enc F)
end Go.Proofs.YtalkkcfojplmdaaGreatDoor.checkMade
end