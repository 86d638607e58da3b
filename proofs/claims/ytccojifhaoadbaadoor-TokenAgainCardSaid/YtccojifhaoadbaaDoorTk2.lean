import Derived.Test.YtccojifhaoadbaaDoorTk1
namespace Go.Proofs.YtccojifhaoadbaaDoor
open Go.Vc
attribute [local irreducible] JL JC JQ OpWp Con ConN

/-- A token's row. -/
def tokC (k v l : Int) (t : ByteArray) : List C := [.val (.int .i64 k), .val (.int .i64 v), .val (.int .i64 l), .val (.string t)]
/-- The token at the beginning (kind, number, text) and its length. -/
def nextT (s : ByteArray) : (Int × Int × ByteArray) × Nat :=
  if 0 < nameLen s then (if 12 < nameLen s then ((0, 0, ⟨#[]⟩), 0) else ((1, 0, s.extract 0 (nameLen s)), nameLen s))
  else if 0 < runLen isD s then (if 2147483647 < numVal (bytesI (s.extract 0 (runLen isD s))) then ((0, 0, ⟨#[]⟩), 0) else ((2, numVal (bytesI (s.extract 0 (runLen isD s))), ⟨#[]⟩), runLen isD s))
  else ((3, 0, s.extract 0 (signLen s)), signLen s)
theorem take_takeWhile {α : Type} {p : α → Bool} : ∀ l : List α, ∀ x ∈ l.take (l.takeWhile p).length, p x = true
  | [], x, h => by simp at h
  | a :: l, x, h => by
    cases hp : p a with
    | false => simp [hp] at h
    | true =>
      rw [List.takeWhile_cons, if_pos hp, List.length_cons, List.take_succ_cons] at h
      rcases List.mem_cons.1 h with rfl | h
      · exact hp
      · exact take_takeWhile l x h
theorem run_dig (s : ByteArray) : ∀ c ∈ bytesI (s.extract 0 (runLen isD s)), isD c = true := by
  rw [extract_bytes]
  exact take_takeWhile (bytesI s)
theorem nameLen_le (s : ByteArray) : nameLen s ≤ s.size := by
  unfold nameLen
  split
  · exact runLen_le _ _
  · exact Nat.zero_le _
theorem signLen_le (s : ByteArray) : signLen s ≤ s.size := by
  unfold signLen
  split
  · omega
  · split
    · omega
    · omega
theorem next_c (s : ByteArray) (hs : s.size ≤ 1000000) : Con Tryd.prog 18 [Str s, .cell (.map (setE SG))] [] (fun K => K (.tup [.row (tokC (nextT s).1.1 (nextT s).1.2.1 0 (nextT s).1.2.2), In .i64 ((nextT s).2 : Int)]) []) := by
  have h1 := nameLen_le s
  have h2 := runLen_le isD s
  have h3 := signLen_le s
  refine con_intro Tryd.func18 rfl rfl (Nat.le_of_ble_eq_true rfl) (fun c hc => ?_)
  refine jc_seq ?_
  refine jc_region ?_
  refine jl_op ?_ (nb rfl)
  refine ow_alloc rfl rfl (fun bl => ?_)
  refine jl_op ?_ (nb rfl)
  refine ow_assign rfl ?_
  refine jl_nil ?_
  refine jq_then ?_
  refine jc_seq ?_
  refine jc_seq ?_
  refine jc_region ?_
  refine jl_op ?_ (nb rfl)
  refine ow_move rfl ?_
  refine jl_op ?_ (nb rfl)
  refine ow_call0 rfl (name_c s hs) ?_
  refine jl_op ?_ (nb rfl)
  refine ow_assign rfl ?_
  refine jl_nil ?_
  refine jq_then ?_
  refine jc_seq ?_
  refine jc_region ?_
  refine jl_op ?_ (nb rfl)
  refine ow_move rfl ?_
  refine jl_op ?_ (nb rfl)
  refine ow_gtr rfl rfl ?_
  refine jl_nil ?_
  refine jq_then ?_
  refine jc_condd rfl (fun hn => ?_) (fun hn => ?_)
  · refine jc_seq ?_
    refine jc_seq ?_
    refine jc_region ?_
    refine jl_op ?_ (nb rfl)
    refine ow_move rfl ?_
    refine jl_op ?_ (nb rfl)
    refine ow_gtr rfl rfl ?_
    refine jl_nil ?_
    refine jq_then ?_
    refine jc_condd rfl (fun hg => ?_) (fun hg => ?_)
    · refine jc_seq ?_
      refine jc_region ?_
      refine jl_op ?_ (nb rfl)
      refine ow_build rfl rfl rfl rfl rfl ?_
      refine jl_op0 ?_
      refine ow_storeAll 0 rfl rfl rfl rfl rfl rfl ?_
      refine jl_op ?_ (nb rfl)
      refine ow_assign rfl ?_
      refine jl_nil ?_
      refine jq_then ?_
      refine jc_ret ?_
      refine jq_then_ret ?_
      refine jq_then_ret ?_
      have e : nextT s = ((0, 0, ⟨#[]⟩), 0) := by unfold nextT; rw [if_pos (by omega), if_pos (by omega)]
      refine jq_retRowT rfl rfl rfl rfl rfl 0 rfl (fun K h => by rw [e] at h; exact h) ?_
      exact sub_end
    · refine jc_skip ?_
      refine jq_then ?_
      refine jc_seq ?_
      refine jc_region ?_
      refine jl_op ?_ (nb rfl)
      refine ow_move rfl ?_
      refine jl_op ?_ (nb rfl)
      refine ow_move rfl ?_
      refine jl_op ?_ (nb rfl)
      refine ow_substrHi rfl rfl rfl (by omega) (by omega) ?_
      refine jl_op ?_ (nb rfl)
      refine ow_build rfl rfl rfl rfl rfl ?_
      refine jl_op ?_ (nb rfl)
      refine ow_move rfl ?_
      refine jl_op0 ?_
      refine ow_storeAll 0 rfl rfl rfl rfl rfl rfl ?_
      refine jl_op ?_ (nb rfl)
      refine ow_assign rfl ?_
      refine jl_nil ?_
      refine jq_then ?_
      refine jc_ret ?_
      refine jq_then_ret ?_
      have e : nextT s = ((1, 0, s.extract 0 (nameLen s)), nameLen s) := by unfold nextT; rw [if_pos (by omega), if_neg (by omega)]
      refine jq_retRowT rfl rfl rfl rfl rfl 0 rfl (fun K h => by rw [e] at h; exact h) ?_
      exact sub_end
  · have e0 : nextT s = (if 0 < runLen isD s then (if 2147483647 < numVal (bytesI (s.extract 0 (runLen isD s))) then ((0, 0, ⟨#[]⟩), 0) else ((2, numVal (bytesI (s.extract 0 (runLen isD s))), ⟨#[]⟩), runLen isD s)) else ((3, 0, s.extract 0 (signLen s)), signLen s)) := by unfold nextT; rw [if_neg (by omega)]
    refine jc_skip ?_
    refine jq_then ?_
    refine jc_seq ?_
    refine jc_seq ?_
    refine jc_region ?_
    refine jl_op ?_ (nb rfl)
    refine ow_move rfl ?_
    refine jl_op ?_ (nb rfl)
    refine ow_call0 rfl (run_c isD _ digit_c s hs) ?_
    refine jl_op ?_ (nb rfl)
    refine ow_assign rfl ?_
    refine jl_nil ?_
    refine jq_then ?_
    refine jc_seq ?_
    refine jc_region ?_
    refine jl_op ?_ (nb rfl)
    refine ow_move rfl ?_
    refine jl_op ?_ (nb rfl)
    refine ow_gtr rfl rfl ?_
    refine jl_nil ?_
    refine jq_then ?_
    refine jc_condd rfl (fun hr => ?_) (fun hr => ?_)
    · have hsz : (s.extract 0 (runLen isD s)).size ≤ 1000000 := by rw [extract_size _ _ _ h2]; omega
      refine jc_seq ?_
      refine jc_region ?_
      refine jl_op ?_ (nb rfl)
      refine ow_move rfl ?_
      refine jl_op ?_ (nb rfl)
      refine ow_move rfl ?_
      refine jl_op ?_ (nb rfl)
      refine ow_substrHi rfl rfl rfl (by omega) (by omega) ?_
      refine jl_op ?_ (nb rfl)
      refine ow_call0 rfl (number_c _ hsz (run_dig s)) ?_
      refine jl_op ?_ (nb rfl)
      refine ow_assign rfl ?_
      refine jl_nil ?_
      refine jq_then ?_
      refine jc_seq ?_
      refine jc_seq ?_
      refine jc_region ?_
      refine jl_op ?_ (nb rfl)
      refine ow_move rfl ?_
      refine jl_op ?_ (nb rfl)
      refine ow_gtr rfl rfl ?_
      refine jl_nil ?_
      refine jq_then ?_
      refine jc_condd rfl (fun hg => ?_) (fun hg => ?_)
      · refine jc_seq ?_
        refine jc_region ?_
        refine jl_op ?_ (nb rfl)
        refine ow_build rfl rfl rfl rfl rfl ?_
        refine jl_op0 ?_
        refine ow_storeAll 0 rfl rfl rfl rfl rfl rfl ?_
        refine jl_op ?_ (nb rfl)
        refine ow_assign rfl ?_
        refine jl_nil ?_
        refine jq_then ?_
        refine jc_ret ?_
        refine jq_then_ret ?_
        refine jq_then_ret ?_
        have e : nextT s = ((0, 0, ⟨#[]⟩), 0) := by rw [e0, if_pos (by omega), if_pos (show 2147483647 < numVal (bytesI (s.extract 0 (runLen isD s))) from hg)]
        refine jq_retRowT rfl rfl rfl rfl rfl 0 rfl (fun K h => by rw [e] at h; exact h) ?_
        exact sub_end
      · refine jc_skip ?_
        refine jq_then ?_
        refine jc_seq ?_
        refine jc_region ?_
        refine jl_op ?_ (nb rfl)
        refine ow_move rfl ?_
        refine jl_op ?_ (nb rfl)
        refine ow_build rfl rfl rfl rfl rfl ?_
        refine jl_op ?_ (nb rfl)
        refine ow_move rfl ?_
        refine jl_op0 ?_
        refine ow_storeAll 0 rfl rfl rfl rfl rfl rfl ?_
        refine jl_op ?_ (nb rfl)
        refine ow_assign rfl ?_
        refine jl_nil ?_
        refine jq_then ?_
        refine jc_ret ?_
        refine jq_then_ret ?_
        have e : nextT s = ((2, numVal (bytesI (s.extract 0 (runLen isD s))), ⟨#[]⟩), runLen isD s) := by rw [e0, if_pos (by omega), if_neg (show ¬ 2147483647 < numVal (bytesI (s.extract 0 (runLen isD s))) from hg)]
        refine jq_retRowT rfl rfl rfl rfl rfl 0 rfl (fun K h => by rw [e] at h; exact h) ?_
        exact sub_end
    · refine jc_skip ?_
      refine jq_then ?_
      refine jc_seq ?_
      refine jc_region ?_
      refine jl_op ?_ (nb rfl)
      refine ow_move rfl ?_
      refine jl_op ?_ (nb rfl)
      refine ow_move rfl ?_
      refine jl_op ?_ (nb rfl)
      refine ow_call0 rfl (sign_c s hs) ?_
      refine jl_op ?_ (nb rfl)
      refine ow_assign rfl ?_
      refine jl_nil ?_
      refine jq_then ?_
      refine jc_seq ?_
      refine jc_region ?_
      refine jl_op ?_ (nb rfl)
      refine ow_move rfl ?_
      refine jl_op ?_ (nb rfl)
      refine ow_move rfl ?_
      refine jl_op ?_ (nb rfl)
      refine ow_substrHi rfl rfl rfl (by omega) (by omega) ?_
      refine jl_op ?_ (nb rfl)
      refine ow_build rfl rfl rfl rfl rfl ?_
      refine jl_op ?_ (nb rfl)
      refine ow_move rfl ?_
      refine jl_op0 ?_
      refine ow_storeAll 0 rfl rfl rfl rfl rfl rfl ?_
      refine jl_op ?_ (nb rfl)
      refine ow_assign rfl ?_
      refine jl_nil ?_
      refine jq_then ?_
      refine jc_ret ?_
      have e : nextT s = ((3, 0, s.extract 0 (signLen s)), signLen s) := by rw [e0, if_neg (by omega)]
      refine jq_retRowT rfl rfl rfl rfl rfl 0 rfl (fun K h => by rw [e] at h; exact h) ?_
      exact sub_end
end Go.Proofs.YtccojifhaoadbaaDoor
