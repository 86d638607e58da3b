import Derived.Test.YtfnephpolfnmoaaCw2
namespace Go.Proofs.Ytfnephpolfnmoaa
open Go.Vc
attribute [local irreducible] JL JC JQ OpWp Con ConN

theorem prod_bd (a b : Int) (h1 : 0 ≤ a) (h2 : a ≤ 34) (h3 : 0 ≤ b) (h4 : b ≤ 1099511627776) : 0 ≤ a * b ∧ a * b ≤ 37383395344384 := by
  refine ⟨Int.mul_nonneg h1 h3, ?_⟩
  have := Int.mul_le_mul h2 h4 h3 (by omega)
  omega

mutual
theorem wOne_bd : ∀ (f : Nat) (s : Sm), 0 ≤ wOne f s ∧ wOne f s ≤ 1099511627776
  | 0, s => by rw [wOne]; omega
  | f + 1, s => by
    have b1 := wPartsL_bd 20 (wParts_bd 20) s.index 0 (by omega)
    have b2 := wPartsL_bd 20 (wParts_bd 20) s.value 0 (by omega)
    have b3 := wAll_bd f s.thn 0 (by omega)
    have b4 := wAll_bd f s.els 0 (by omega)
    rw [wOne]
    split
    · exact lim_bd _ (by omega)
    split
    · exact lim_bd _ (by omega)
    split
    · have b5 := lim_bd (2 + wPartsL s.value 20 0 + wAll f s.thn 0) (by omega)
      have b7 := prod_bd (Max.max 0 (min s.max 33) + 1) _ (by omega) (by omega) b5.1 b5.2
      exact lim_bd _ (by omega)
    split
    · exact lim_bd _ (by omega)
    · omega
theorem wAll_bd : ∀ (f : Nat) (l : List Sm) (n : Int), 0 ≤ n ∧ n ≤ 1099511627776 → 0 ≤ wAll f l n ∧ wAll f l n ≤ 1099511627776
  | f, [], n, h => by simpa [wAll] using h
  | f, s :: r, n, h => by
    rw [wAll]
    exact wAll_bd f r _ (lim_bd _ (by have := wOne_bd f s; omega))
end

theorem wAll_snoc (f : Nat) (e : Sm) : ∀ (l : List Sm) (n : Int), wAll f (l ++ [e]) n = lim (wAll f l n + wOne f e)
  | [], n => by simp [wAll]
  | a :: l, n => by simp only [List.cons_append, wAll]; exact wAll_snoc f e l _
theorem wAll_take (f : Nat) (l : List Sm) (n : Int) (k : Nat) (h : k < l.length) : wAll f (l.take (k + 1)) n = lim (wAll f (l.take k) n + wOne f l[k]) := by
  rw [List.take_succ_eq_append_getElem h, wAll_snoc]

theorem one_zero (s : Sm) (depth : Int) (h : depth = 21) : Con Try.prog 21 [.row s.row', In .i64 depth] [] (fun K => K (In .i64 (wOne 0 s)) []) := by
  refine con_intro Try.func21 rfl rfl (Nat.le_of_ble_eq_true rfl) (fun c hc => ?_)
  refine jc_seq ?_
  refine jc_region ?_
  refine jl_op ?_ (nb rfl)
  refine ow_box rfl (fun bx => ?_)
  refine jl_op ?_ (nb rfl)
  refine ow_assign rfl ?_
  refine jl_nil ?_
  refine jq_then ?_
  refine jc_seq ?_
  refine jc_seq ?_
  refine jc_region ?_
  refine jl_op ?_ (nb rfl)
  refine ow_move rfl ?_
  refine jl_op ?_ (nb rfl)
  refine ow_gtr rfl rfl ?_
  refine jl_nil ?_
  refine jq_then ?_
  refine jc_condd rfl (fun h => ?_) (fun h => by omega)
  refine jc_seq ?_
  refine jc_region ?_
  refine jl_op ?_ (nb rfl)
  refine ow_assign rfl ?_
  refine jl_nil ?_
  refine jq_then ?_
  refine jc_ret ?_
  refine jq_then_ret ?_
  refine jq_ret1 rfl rfl [] rfl (fun K h => by rw [wOne] at h; exact h)

theorem one_succ (f : Nat) (hw : ∀ (l : List Sm) (depth : Int), 0 ≤ depth → depth + f = 21 → Con Try.prog 15 [.cell (.list (l.map Sm.row)), In .i64 depth] [] (fun K => K (In .i64 (wAll f l 0)) []))
    (s : Sm) (depth : Int) (h0 : 0 ≤ depth) (h1 : depth + (f + 1 : Nat) = 21) : Con Try.prog 21 [.row s.row', In .i64 depth] [] (fun K => K (In .i64 (wOne (f + 1) s)) []) := by
  refine con_intro Try.func21 rfl rfl (Nat.le_of_ble_eq_true rfl) (fun c hc => ?_)
  refine jc_seq ?_
  refine jc_region ?_
  refine jl_op ?_ (nb rfl)
  refine ow_box rfl (fun bx => ?_)
  refine jl_op ?_ (nb rfl)
  refine ow_assign rfl ?_
  refine jl_nil ?_
  refine jq_then ?_
  refine jc_seq ?_
  refine jc_seq ?_
  refine jc_region ?_
  refine jl_op ?_ (nb rfl)
  refine ow_move rfl ?_
  refine jl_op ?_ (nb rfl)
  refine ow_gtr rfl rfl ?_
  refine jl_nil ?_
  refine jq_then ?_
  refine jc_condd rfl (fun h => by omega) (fun h => ?_)
  refine jc_skip ?_
  refine jq_then ?_
  refine jc_seq ?_
  refine jc_seq ?_
  refine jc_region ?_
  refine jl_op ?_ (nb rfl)
  refine ow_fieldAddr rfl rfl rfl (nb rfl) ?_
  refine jl_op ?_ (nb rfl)
  refine ow_load 0 rfl rfl rfl rfl ?_
  refine jl_nil ?_
  refine jq_then ?_
  refine jc_block ?_
  refine jc_seq ?_
  refine jc_seq ?_
  refine jc_region ?_
  refine jl_op ?_ (nb rfl)
  refine ow_eql rfl rfl ?_
  refine jl_op ?_ (nb rfl)
  refine ow_assign rfl ?_
  refine jl_nil ?_
  refine jq_then ?_
  have b1 := wPartsL_bd 20 (wParts_bd 20) s.index 0 (by omega)
  have b2 := wPartsL_bd 20 (wParts_bd 20) s.value 0 (by omega)
  have b3 := wAll_bd f s.thn 0 (by omega)
  have b4 := wAll_bd f s.els 0 (by omega)
  have sums : s.kind = 1 ∨ s.kind = 2 → wOne (f + 1) s = lim (1 + wPartsL s.index 20 0 + wPartsL s.value 20 0) := fun h => by rw [wOne, if_pos h]
  refine jc_condd rfl (fun hk => ?_) (fun hk => ?_)
  · refine jc_skip ?_
    refine jq_then ?_
    refine jc_condd rfl (fun _ => ?_) (fun h => absurd hk h)
    refine jc_seq ?_
    refine jc_any rfl rfl (by kernel_rfl) (by kernel_rfl) ?_
    refine any_op (fun c => ow_fieldAddr rfl rfl rfl (nb rfl) ⟨rfl, List.Perm.refl _⟩) ?_
    refine any_op (fun c => ow_load 0 rfl rfl rfl rfl ⟨rfl, List.Perm.refl _⟩) ?_
    refine any_op (fun c => ow_call0 rfl (exprs_c _) ⟨rfl, List.Perm.refl _⟩) ?_
    refine any_op (fun c => ow_add64 rfl rfl (by omega) ⟨rfl, List.Perm.refl _⟩) ?_
    refine any_op (fun c => ow_fieldAddr rfl rfl rfl (nb rfl) ⟨rfl, List.Perm.refl _⟩) ?_
    refine any_op (fun c => ow_load 0 rfl rfl rfl rfl ⟨rfl, List.Perm.refl _⟩) ?_
    refine any_op (fun c => ow_call0 rfl (exprs_c _) ⟨rfl, List.Perm.refl _⟩) ?_
    refine any_op (fun c => ow_add64 rfl rfl (by omega) ⟨rfl, List.Perm.refl _⟩) ?_
    refine any_op (fun c => ow_call0 rfl (limited_c _) ⟨rfl, List.Perm.refl _⟩) ?_
    refine any_op (fun c => ow_assign rfl ⟨rfl, List.Perm.refl _⟩) ?_
    refine any_nil ?_
    refine jq_then ?_
    refine jc_ret ?_
    refine jq_block_ret ?_
    refine jq_then_ret ?_
    refine jq_ret1 rfl rfl [] rfl (fun K h => by rw [sums (.inl hk)] at h; exact h)
  refine jc_region ?_
  refine jl_op ?_ (nb rfl)
  refine ow_eql rfl rfl ?_
  refine jl_op ?_ (nb rfl)
  refine ow_assign rfl ?_
  refine jl_nil ?_
  refine jq_then ?_
  refine jc_condd rfl (fun hk2 => ?_) (fun hk2 => ?_)
  · refine jc_seq ?_
    refine jc_any rfl rfl (by kernel_rfl) (by kernel_rfl) ?_
    refine any_op (fun c => ow_fieldAddr rfl rfl rfl (nb rfl) ⟨rfl, List.Perm.refl _⟩) ?_
    refine any_op (fun c => ow_load 0 rfl rfl rfl rfl ⟨rfl, List.Perm.refl _⟩) ?_
    refine any_op (fun c => ow_call0 rfl (exprs_c _) ⟨rfl, List.Perm.refl _⟩) ?_
    refine any_op (fun c => ow_add64 rfl rfl (by omega) ⟨rfl, List.Perm.refl _⟩) ?_
    refine any_op (fun c => ow_fieldAddr rfl rfl rfl (nb rfl) ⟨rfl, List.Perm.refl _⟩) ?_
    refine any_op (fun c => ow_load 0 rfl rfl rfl rfl ⟨rfl, List.Perm.refl _⟩) ?_
    refine any_op (fun c => ow_call0 rfl (exprs_c _) ⟨rfl, List.Perm.refl _⟩) ?_
    refine any_op (fun c => ow_add64 rfl rfl (by omega) ⟨rfl, List.Perm.refl _⟩) ?_
    refine any_op (fun c => ow_call0 rfl (limited_c _) ⟨rfl, List.Perm.refl _⟩) ?_
    refine any_op (fun c => ow_assign rfl ⟨rfl, List.Perm.refl _⟩) ?_
    refine any_nil ?_
    refine jq_then ?_
    refine jc_ret ?_
    refine jq_block_ret ?_
    refine jq_then_ret ?_
    refine jq_ret1 rfl rfl [] rfl (fun K h => by rw [sums (.inr hk2)] at h; exact h)
  refine jc_seq ?_
  refine jc_region ?_
  refine jl_op ?_ (nb rfl)
  refine ow_eql rfl rfl ?_
  refine jl_op ?_ (nb rfl)
  refine ow_assign rfl ?_
  refine jl_nil ?_
  refine jq_then ?_
  refine jc_condd rfl (fun hk3 => ?_) (fun hk3 => ?_)
  · refine jc_seq ?_
    refine jc_any rfl rfl (by kernel_rfl) (by kernel_rfl) ?_
    refine any_op (fun c => ow_fieldAddr rfl rfl rfl (nb rfl) ⟨rfl, List.Perm.refl _⟩) ?_
    refine any_op (fun c => ow_load 0 rfl rfl rfl rfl ⟨rfl, List.Perm.refl _⟩) ?_
    refine any_op (fun c => ow_call0 rfl (exprs_c _) ⟨rfl, List.Perm.refl _⟩) ?_
    refine any_op (fun c => ow_add64 rfl rfl (by omega) ⟨rfl, List.Perm.refl _⟩) ?_
    refine any_op (fun c => ow_fieldAddr rfl rfl rfl (nb rfl) ⟨rfl, List.Perm.refl _⟩) ?_
    refine any_op (fun c => ow_load 0 rfl rfl rfl rfl ⟨rfl, List.Perm.refl _⟩) ?_
    refine any_op (fun c => ow_move rfl ⟨rfl, List.Perm.refl _⟩) ?_
    refine any_op (fun c => ow_add64 rfl rfl (by omega) ⟨rfl, List.Perm.refl _⟩) ?_
    refine any_op (fun c => ow_call0 rfl (hw _ _ (by omega) (by omega)) ⟨rfl, List.Perm.refl _⟩) ?_
    refine any_op (fun c => ow_add64 rfl rfl (by omega) ⟨rfl, List.Perm.refl _⟩) ?_
    refine any_op (fun c => ow_fieldAddr rfl rfl rfl (nb rfl) ⟨rfl, List.Perm.refl _⟩) ?_
    refine any_op (fun c => ow_load 0 rfl rfl rfl rfl ⟨rfl, List.Perm.refl _⟩) ?_
    refine any_op (fun c => ow_move rfl ⟨rfl, List.Perm.refl _⟩) ?_
    refine any_op (fun c => ow_add64 rfl rfl (by omega) ⟨rfl, List.Perm.refl _⟩) ?_
    refine any_op (fun c => ow_call0 rfl (hw _ _ (by omega) (by omega)) ⟨rfl, List.Perm.refl _⟩) ?_
    refine any_op (fun c => ow_add64 rfl rfl (by omega) ⟨rfl, List.Perm.refl _⟩) ?_
    refine any_op (fun c => ow_call0 rfl (limited_c _) ⟨rfl, List.Perm.refl _⟩) ?_
    refine any_op (fun c => ow_assign rfl ⟨rfl, List.Perm.refl _⟩) ?_
    refine any_nil ?_
    refine jq_then ?_
    refine jc_ret ?_
    refine jq_block_ret ?_
    refine jq_then_ret ?_
    refine jq_ret1 rfl rfl [] rfl (fun K h => by rw [wOne, if_neg (by omega), if_pos hk3] at h; exact h)
  refine jc_seq ?_
  refine jc_region ?_
  refine jl_op ?_ (nb rfl)
  refine ow_eql rfl rfl ?_
  refine jl_op ?_ (nb rfl)
  refine ow_assign rfl ?_
  refine jl_nil ?_
  refine jq_then ?_
  refine jc_condd rfl (fun hk4 => ?_) (fun hk4 => ?_)
  · have b5 := lim_bd (2 + wPartsL s.value 20 0 + wAll f s.thn 0) (by omega)
    have b6 : 0 ≤ Max.max 0 (min s.max 33) + 1 ∧ Max.max 0 (min s.max 33) + 1 ≤ 34 := by omega
    have b7 := prod_bd _ _ b6.1 b6.2 b5.1 b5.2
    unfold lim at b7
    refine jc_seq ?_
    refine jc_region ?_
    refine jl_op ?_ (nb rfl)
    refine ow_fieldAddr rfl rfl rfl (nb rfl) ?_
    refine jl_op ?_ (nb rfl)
    refine ow_load 0 rfl rfl rfl rfl ?_
    refine jl_op ?_ (nb rfl)
    refine ow_min2 rfl rfl ?_
    refine jl_op ?_ (nb rfl)
    refine ow_max2 rfl rfl ?_
    refine jl_op ?_ (nb rfl)
    refine ow_add64 rfl rfl (by omega) ?_
    refine jl_op ?_ (nb rfl)
    refine ow_assign rfl ?_
    refine jl_nil ?_
    refine jq_then ?_
    refine jc_seq ?_
    refine jc_any rfl rfl (by kernel_rfl) (by kernel_rfl) ?_
    refine any_op (fun c => ow_move rfl ⟨rfl, List.Perm.refl _⟩) ?_
    refine any_op (fun c => ow_fieldAddr rfl rfl rfl (nb rfl) ⟨rfl, List.Perm.refl _⟩) ?_
    refine any_op (fun c => ow_load 0 rfl rfl rfl rfl ⟨rfl, List.Perm.refl _⟩) ?_
    refine any_op (fun c => ow_call0 rfl (exprs_c _) ⟨rfl, List.Perm.refl _⟩) ?_
    refine any_op (fun c => ow_add64 rfl rfl (by omega) ⟨rfl, List.Perm.refl _⟩) ?_
    refine any_op (fun c => ow_fieldAddr rfl rfl rfl (nb rfl) ⟨rfl, List.Perm.refl _⟩) ?_
    refine any_op (fun c => ow_load 0 rfl rfl rfl rfl ⟨rfl, List.Perm.refl _⟩) ?_
    refine any_op (fun c => ow_move rfl ⟨rfl, List.Perm.refl _⟩) ?_
    refine any_op (fun c => ow_add64 rfl rfl (by omega) ⟨rfl, List.Perm.refl _⟩) ?_
    refine any_op (fun c => ow_call0 rfl (hw _ _ (by omega) (by omega)) ⟨rfl, List.Perm.refl _⟩) ?_
    refine any_op (fun c => ow_add64 rfl rfl (by omega) ⟨rfl, List.Perm.refl _⟩) ?_
    refine any_op (fun c => ow_call0 rfl (limited_c _) ⟨rfl, List.Perm.refl _⟩) ?_
    refine any_op (fun c => ow_mul64 rfl rfl (by omega) ⟨rfl, List.Perm.refl _⟩) ?_
    refine any_op (fun c => ow_add64 rfl rfl (by omega) ⟨rfl, List.Perm.refl _⟩) ?_
    refine any_op (fun c => ow_call0 rfl (limited_c _) ⟨rfl, List.Perm.refl _⟩) ?_
    refine any_op (fun c => ow_assign rfl ⟨rfl, List.Perm.refl _⟩) ?_
    refine any_nil ?_
    refine jq_then ?_
    refine jc_ret ?_
    refine jq_block_ret ?_
    refine jq_then_ret ?_
    refine jq_ret1 rfl rfl [] rfl (fun K h => by rw [wOne, if_neg (by omega), if_neg hk3, if_pos hk4] at h; exact h)
  refine jc_seq ?_
  refine jc_region ?_
  refine jl_op ?_ (nb rfl)
  refine ow_eql rfl rfl ?_
  refine jl_op ?_ (nb rfl)
  refine ow_assign rfl ?_
  refine jl_nil ?_
  refine jq_then ?_
  refine jc_condd rfl (fun hk5 => ?_) (fun hk5 => ?_)
  · refine jc_seq ?_
    refine jc_region ?_
    refine jl_op ?_ (nb rfl)
    refine ow_fieldAddr rfl rfl rfl (nb rfl) ?_
    refine jl_op ?_ (nb rfl)
    refine ow_load 0 rfl rfl rfl rfl ?_
    refine jl_op ?_ (nb rfl)
    refine ow_move rfl ?_
    refine jl_op ?_ (nb rfl)
    refine ow_add64 rfl rfl (by omega) ?_
    refine jl_op ?_ (nb rfl)
    refine ow_call0 rfl (hw _ _ (by omega) (by omega)) ?_
    refine jl_op ?_ (nb rfl)
    refine ow_add64 rfl rfl (by omega) ?_
    refine jl_op ?_ (nb rfl)
    refine ow_call0 rfl (limited_c _) ?_
    refine jl_op ?_ (nb rfl)
    refine ow_assign rfl ?_
    refine jl_nil ?_
    refine jq_then ?_
    refine jc_ret ?_
    refine jq_block_ret ?_
    refine jq_then_ret ?_
    refine jq_ret1 rfl rfl [] rfl (fun K h => by rw [wOne, if_neg (by omega), if_neg hk3, if_neg hk4, if_pos hk5] at h; exact h)
  · refine jc_skip ?_
    refine jq_block ?_
    refine jq_then ?_
    refine jc_seq ?_
    refine jc_region ?_
    refine jl_op ?_ (nb rfl)
    refine ow_assign rfl ?_
    refine jl_nil ?_
    refine jq_then ?_
    refine jc_ret ?_
    refine jq_ret1 rfl rfl [] rfl (fun K h => by rw [wOne, if_neg (by omega), if_neg hk3, if_neg hk4, if_neg hk5] at h; exact h)

theorem weight_c (f : Nat) (ho : ∀ (s : Sm) (depth : Int), 0 ≤ depth → depth + f = 21 → Con Try.prog 21 [.row s.row', In .i64 depth] [] (fun K => K (In .i64 (wOne f s)) []))
    (l : List Sm) (depth : Int) (h0 : 0 ≤ depth) (h1 : depth + f = 21) : Con Try.prog 15 [.cell (.list (l.map Sm.row)), In .i64 depth] [] (fun K => K (In .i64 (wAll f l 0)) []) := by
  refine con_intro Try.func15 rfl rfl (Nat.le_of_ble_eq_true rfl) (fun c hc => ?_)
  refine jc_seq ?_
  refine jc_region ?_
  refine jl_op ?_ (nb rfl)
  refine ow_assign rfl ?_
  refine jl_nil ?_
  refine jq_then ?_
  refine jc_seq ?_
  refine jc_region ?_
  refine jl_op ?_ (nb rfl)
  refine ow_assign rfl ?_
  refine jl_nil ?_
  refine jq_then ?_
  refine jc_seq ?_
  refine jc_seq ?_
  refine jc_region ?_
  refine jl_op ?_ (nb rfl)
  refine ow_move rfl ?_
  refine jl_op ?_ (nb rfl)
  refine ow_len rfl (fun hlen => ?_)
  refine jl_op ?_ (nb rfl)
  refine ow_move rfl ?_
  refine jl_nil ?_
  refine jq_then ?_
  refine jc_block ?_
  have hmax : l.length ≤ 9223372036854775807 := by simpa using hlen
  refine jc_loop [1, 8, 9] (fun k => k ≤ l.length) (fun k => [(5, In .i64 (wAll f (l.take k) 0)), (10, In .i64 (k : Int))]) (fun _ => []) (fun k => l.length - k) 0 [] (Nat.zero_le _) rfl ?_ ?_
  · rw [List.take_zero, wAll]
    (repeat (first | exact True.intro | refine ⟨rfl, ?_⟩))
  · intro k hk
    refine jc_seq ?_
    refine jc_region ?_
    refine jl_op ?_ (nb rfl)
    refine ow_lss rfl rfl ?_
    refine jl_nil ?_
    refine jq_then ?_
    refine jc_seq ?_
    refine jc_condd rfl (fun hlt => ?_) (fun hge => ?_)
    · simp only [List.length_map, Int.ofNat_lt] at hlt
      have b1 := wOne_bd f l[k]
      have b2 := wAll_bd f (l.take k) 0 (by omega)
      refine jc_skip ?_
      refine jq_then ?_
      refine jc_seq ?_
      refine jc_block ?_
      refine jc_seq ?_
      refine jc_region ?_
      refine jl_op ?_ (nb rfl)
      refine ow_indexAddrMapE rfl rfl (by omega) (Sm.row_eq _) rfl (nb rfl) ?_
      refine jl_op ?_ (nb rfl)
      refine ow_loadPlaceN rfl rfl rfl ?_
      refine jl_op ?_ (nb rfl)
      refine ow_alloc rfl rfl (fun bl => ?_)
      refine jl_op0 ?_
      refine ow_storeAll 0 rfl rfl rfl rfl rfl rfl ?_
      refine jl_nil ?_
      refine jq_then ?_
      refine jc_region ?_
      refine jl_op ?_ (nb rfl)
      refine ow_move rfl ?_
      refine jl_op ?_ (nb rfl)
      refine ow_loadAll 0 rfl rfl rfl rfl ?_
      refine jl_op ?_ (nb rfl)
      refine ow_move rfl ?_
      refine jl_op ?_ (nb rfl)
      refine ow_call0 rfl (ho _ _ (by omega) (by omega)) ?_
      refine jl_op ?_ (nb rfl)
      refine ow_add64 rfl rfl (by omega) ?_
      refine jl_op ?_ (nb rfl)
      refine ow_call0 rfl (limited_c _) ?_
      refine jl_op ?_ (nb rfl)
      refine ow_assign rfl ?_
      refine jl_nil ?_
      refine jq_block ?_
      refine jq_then ?_
      refine jc_region ?_
      refine jl_op ?_ (nb rfl)
      refine ow_add64 rfl rfl (by omega) ?_
      refine jl_op ?_ (nb rfl)
      refine ow_move rfl ?_
      refine jl_nil ?_
      refine jq_again (k + 1) [] hlt (by omega) rfl ?_
      · rw [wAll_take f l 0 k hlt]
        (repeat (first | exact True.intro | refine ⟨rfl, ?_⟩))
    · simp only [List.length_map, Int.ofNat_lt] at hge
      refine jc_exit ?_
      refine jq_then_exit ?_
      refine jq_then_exit ?_
      refine jq_block_exit ?_
      refine jq_then ?_
      refine jc_seq ?_
      refine jc_region ?_
      refine jl_op ?_ (nb rfl)
      refine ow_move rfl ?_
      refine jl_op ?_ (nb rfl)
      refine ow_assign rfl ?_
      refine jl_nil ?_
      refine jq_then ?_
      refine jc_ret ?_
      refine jq_ret1 rfl rfl [] rfl (fun K h => by rw [← List.take_of_length_le (Nat.le_of_not_lt hge)] at h; exact h)

theorem both_c : ∀ (f : Nat), (∀ (s : Sm) (depth : Int), 0 ≤ depth → depth + f = 21 → Con Try.prog 21 [.row s.row', In .i64 depth] [] (fun K => K (In .i64 (wOne f s)) [])) ∧
    (∀ (l : List Sm) (depth : Int), 0 ≤ depth → depth + f = 21 → Con Try.prog 15 [.cell (.list (l.map Sm.row)), In .i64 depth] [] (fun K => K (In .i64 (wAll f l 0)) []))
  | 0 => by
    have h : ∀ (s : Sm) (depth : Int), 0 ≤ depth → depth + (0 : Nat) = 21 → Con Try.prog 21 [.row s.row', In .i64 depth] [] (fun K => K (In .i64 (wOne 0 s)) []) := fun s d _ h => one_zero s d (by omega)
    exact ⟨h, weight_c 0 h⟩
  | f + 1 => by
    have h := one_succ f (both_c f).2
    exact ⟨h, weight_c (f + 1) h⟩

/-- check.Weight. -/
def weightOf (l : List Sm) : Int := wAll 20 l 0
theorem Weight_c (l : List Sm) : Con Try.prog 9 [.cell (.list (l.map Sm.row))] [] (fun K => K (In .i64 (weightOf l)) []) := by
  refine con_intro Try.func9 rfl rfl (Nat.le_of_ble_eq_true rfl) (fun c hc => ?_)
  refine jc_seq ?_
  refine jc_region ?_
  refine jl_op ?_ (nb rfl)
  refine ow_assign rfl ?_
  refine jl_nil ?_
  refine jq_then ?_
  refine jc_seq ?_
  refine jc_region ?_
  refine jl_op ?_ (nb rfl)
  refine ow_move rfl ?_
  refine jl_op ?_ (nb rfl)
  refine ow_call0 rfl ((both_c 20).2 _ _ (by omega) (by omega)) ?_
  refine jl_op ?_ (nb rfl)
  refine ow_assign rfl ?_
  refine jl_nil ?_
  refine jq_then ?_
  refine jc_ret ?_
  refine jq_ret1 rfl rfl [] rfl (fun K h => h)
end Go.Proofs.Ytfnephpolfnmoaa
