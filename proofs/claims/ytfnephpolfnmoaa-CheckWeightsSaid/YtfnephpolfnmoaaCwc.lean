import Derived.Test.YtfnephpolfnmoaaCw4
import Derived.Test.YtfnephpolfnmoaaVca
namespace Go.Proofs.Ytfnephpolfnmoaa
open Go.Vc
set_option maxHeartbeats 4000000
attribute [local irreducible] JL JC JQ OpWp Con ConN

/-! The reference of check -/
theorem rexpr_c : ∀ (fuel : Nat) (e : Ex) (depth : Int), 0 ≤ depth → depth + fuel = 21 → Con Try.prog 40 [.row e.row', In .i64 depth] [] (fun K => K (In .i64 (wParts e fuel)) []) := by
  intro fuel
  induction fuel with
  | zero =>
    intro e depth h0 h1
    refine con_intro Try.func40 rfl rfl (Nat.le_of_ble_eq_true rfl) (fun c hc => ?_)
    refine jc_seq ?_
    refine jc_region ?_
    refine jl_op ?_ (nb rfl)
    refine ow_box rfl (fun bx => ?_)
    refine jl_op ?_ (nb rfl)
    refine ow_assign rfl ?_
    refine jl_nil ?_
    refine jq_then ?_
    refine jc_seq ?_
    refine jc_seq ?_
    refine jc_region ?_
    refine jl_op ?_ (nb rfl)
    refine ow_move rfl ?_
    refine jl_op ?_ (nb rfl)
    refine ow_gtr rfl rfl ?_
    refine jl_nil ?_
    refine jq_then ?_
    refine jc_condd rfl (fun h => ?_) (fun h => absurd (show 20 < depth by omega) h)
    refine jc_seq ?_
    refine jc_region ?_
    refine jl_op ?_ (nb rfl)
    refine ow_assign rfl ?_
    refine jl_nil ?_
    refine jq_then ?_
    refine jc_ret ?_
    refine jq_then_ret ?_
    refine jq_ret1 rfl rfl [] rfl (fun K h => by rw [wParts_zero] at h; exact h)
  | succ f ih =>
    intro e depth h0 h1
    refine con_intro Try.func40 rfl rfl (Nat.le_of_ble_eq_true rfl) (fun c hc => ?_)
    refine jc_seq ?_
    refine jc_region ?_
    refine jl_op ?_ (nb rfl)
    refine ow_box rfl (fun bx => ?_)
    refine jl_op ?_ (nb rfl)
    refine ow_assign rfl ?_
    refine jl_nil ?_
    refine jq_then ?_
    refine jc_seq ?_
    refine jc_seq ?_
    refine jc_region ?_
    refine jl_op ?_ (nb rfl)
    refine ow_move rfl ?_
    refine jl_op ?_ (nb rfl)
    refine ow_gtr rfl rfl ?_
    refine jl_nil ?_
    refine jq_then ?_
    refine jc_condd rfl (fun h => by omega) (fun h => ?_)
    refine jc_skip ?_
    refine jq_then ?_
    refine jc_seq ?_
    refine jc_region ?_
    refine jl_op ?_ (nb rfl)
    refine ow_assign rfl ?_
    refine jl_nil ?_
    refine jq_then ?_
    refine jc_seq ?_
    refine jc_seq ?_
    refine jc_region ?_
    refine jl_op ?_ (nb rfl)
    refine ow_assign rfl ?_
    refine jl_nil ?_
    refine jq_then ?_
    refine jc_block ?_
    refine jc_loop [1, 2] (fun k => k ≤ e.args.length) (fun k => [(5, In .i64 (wPartsL (e.args.take k) f 1)), (6, In .i64 (k : Int))]) (fun _ => [.blk bx 42 e.row']) (fun k => e.args.length - k) 0 [0] (Nat.zero_le _) rfl ?_ ?_
    · (repeat (first | exact True.intro | refine ⟨rfl, ?_⟩))
    · intro k hk
      refine jc_seq ?_
      refine jc_seq ?_
      refine jc_region ?_
      refine jl_op ?_ (nb rfl)
      refine ow_move rfl ?_
      refine jl_op ?_ (nb rfl)
      refine ow_fieldAddr rfl rfl rfl (nb rfl) ?_
      refine jl_op ?_ (nb rfl)
      refine ow_load 0 rfl rfl rfl rfl ?_
      refine jl_op ?_ (nb rfl)
      refine ow_len rfl (fun hlen => ?_)
      refine jl_op ?_ (nb rfl)
      refine ow_lss rfl rfl ?_
      refine jl_nil ?_
      refine jq_then ?_
      have hmax : e.args.length ≤ 9223372036854775807 := by simpa using hlen
      refine jc_condd rfl (fun hlt => ?_) (fun hge => ?_)
      · simp only [List.length_map, Int.ofNat_lt] at hlt
        have b1 := wParts_bd f e.args[k]
        have b2 := wPartsL_bd f (wParts_bd f) (e.args.take k) 1 (by omega)
        refine jc_skip ?_
        refine jq_then ?_
        refine jc_seq ?_
        refine jc_block ?_
        refine jc_region ?_
        refine jl_op ?_ (nb rfl)
        refine ow_move rfl ?_
        refine jl_op ?_ (nb rfl)
        refine ow_fieldAddr rfl rfl rfl (nb rfl) ?_
        refine jl_op ?_ (nb rfl)
        refine ow_load 0 rfl rfl rfl rfl ?_
        refine jl_op ?_ (nb rfl)
        refine ow_move rfl ?_
        refine jl_op ?_ (nb rfl)
        refine ow_indexAddrMapE rfl rfl (by omega) (Ex.row_eq _) rfl (nb rfl) ?_
        refine jl_op ?_ (nb rfl)
        refine ow_loadPlaceN rfl rfl rfl ?_
        refine jl_op ?_ (nb rfl)
        refine ow_move rfl ?_
        refine jl_op ?_ (nb rfl)
        refine ow_add64 rfl rfl (by omega) ?_
        refine jl_op ?_ (nb rfl)
        refine ow_call0 rfl (ih _ _ (by omega) (by omega)) ?_
        refine jl_op ?_ (nb rfl)
        refine ow_add64 rfl rfl (by omega) ?_
        refine jl_op ?_ (nb rfl)
        refine ow_min2 rfl rfl ?_
        refine jl_op ?_ (nb rfl)
        refine ow_assign rfl ?_
        refine jl_nil ?_
        refine jq_block ?_
        refine jq_then ?_
        refine jc_region ?_
        refine jl_op ?_ (nb rfl)
        refine ow_move rfl ?_
        refine jl_op ?_ (nb rfl)
        refine ow_add64 rfl rfl (by omega) ?_
        refine jl_op ?_ (nb rfl)
        refine ow_assign rfl ?_
        refine jl_nil ?_
        refine jq_again (k + 1) [0] hlt (by omega) rfl ?_
        · rw [wPartsL_take f e.args 1 k hlt]
          unfold lim
          rw [Int.min_comm]
          (repeat (first | exact True.intro | refine ⟨rfl, ?_⟩))
      · simp only [List.length_map, Int.ofNat_lt] at hge
        refine jc_exit ?_
        refine jq_then_exit ?_
        refine jq_then_exit ?_
        refine jq_block_exit ?_
        refine jq_then ?_
        refine jc_seq ?_
        refine jc_region ?_
        refine jl_op ?_ (nb rfl)
        refine ow_move rfl ?_
        refine jl_op ?_ (nb rfl)
        refine ow_assign rfl ?_
        refine jl_nil ?_
        refine jq_then ?_
        refine jc_ret ?_
        refine jq_ret1 rfl rfl [] rfl (fun K h => by rw [wParts_succ, ← List.take_of_length_le (Nat.le_of_not_lt hge)] at h; exact h)

theorem rexprs_c (l : List Ex) : Con Try.prog 37 [.cell (.list (l.map Ex.row))] [] (fun K => K (In .i64 (wPartsL l 20 0)) []) := by
  refine con_intro Try.func37 rfl rfl (Nat.le_of_ble_eq_true rfl) (fun c hc => ?_)
  refine jc_seq ?_
  refine jc_region ?_
  refine jl_op ?_ (nb rfl)
  refine ow_assign rfl ?_
  refine jl_nil ?_
  refine jq_then ?_
  refine jc_seq ?_
  refine jc_region ?_
  refine jl_op ?_ (nb rfl)
  refine ow_assign rfl ?_
  refine jl_nil ?_
  refine jq_then ?_
  refine jc_seq ?_
  refine jc_seq ?_
  refine jc_region ?_
  refine jl_op ?_ (nb rfl)
  refine ow_assign rfl ?_
  refine jl_nil ?_
  refine jq_then ?_
  refine jc_block ?_
  refine jc_loop [0] (fun k => k ≤ l.length) (fun k => [(3, In .i64 (wPartsL (l.take k) 20 0)), (4, In .i64 (k : Int))]) (fun _ => []) (fun k => l.length - k) 0 [] (Nat.zero_le _) rfl ?_ ?_
  · (repeat (first | exact True.intro | refine ⟨rfl, ?_⟩))
  · intro k hk
    refine jc_seq ?_
    refine jc_seq ?_
    refine jc_region ?_
    refine jl_op ?_ (nb rfl)
    refine ow_move rfl ?_
    refine jl_op ?_ (nb rfl)
    refine ow_move rfl ?_
    refine jl_op ?_ (nb rfl)
    refine ow_len rfl (fun hlen => ?_)
    refine jl_op ?_ (nb rfl)
    refine ow_lss rfl rfl ?_
    refine jl_nil ?_
    refine jq_then ?_
    have hmax : l.length ≤ 9223372036854775807 := by simpa using hlen
    refine jc_condd rfl (fun hlt => ?_) (fun hge => ?_)
    · simp only [List.length_map, Int.ofNat_lt] at hlt
      have b1 := wParts_bd 20 l[k]
      have b2 := wPartsL_bd 20 (wParts_bd 20) (l.take k) 0 (by omega)
      refine jc_skip ?_
      refine jq_then ?_
      refine jc_seq ?_
      refine jc_block ?_
      refine jc_region ?_
      refine jl_op ?_ (nb rfl)
      refine ow_move rfl ?_
      refine jl_op ?_ (nb rfl)
      refine ow_move rfl ?_
      refine jl_op ?_ (nb rfl)
      refine ow_move rfl ?_
      refine jl_op ?_ (nb rfl)
      refine ow_indexAddrMapE rfl rfl (by omega) (Ex.row_eq _) rfl (nb rfl) ?_
      refine jl_op ?_ (nb rfl)
      refine ow_loadPlaceN rfl rfl rfl ?_
      refine jl_op ?_ (nb rfl)
      refine ow_call0 rfl (rexpr_c 20 _ _ (by omega) (by omega)) ?_
      refine jl_op ?_ (nb rfl)
      refine ow_add64 rfl rfl (by omega) ?_
      refine jl_op ?_ (nb rfl)
      refine ow_min2 rfl rfl ?_
      refine jl_op ?_ (nb rfl)
      refine ow_assign rfl ?_
      refine jl_nil ?_
      refine jq_block ?_
      refine jq_then ?_
      refine jc_region ?_
      refine jl_op ?_ (nb rfl)
      refine ow_move rfl ?_
      refine jl_op ?_ (nb rfl)
      refine ow_add64 rfl rfl (by omega) ?_
      refine jl_op ?_ (nb rfl)
      refine ow_assign rfl ?_
      refine jl_nil ?_
      refine jq_again (k + 1) [] hlt (by omega) rfl ?_
      · rw [wPartsL_take 20 l 0 k hlt]
        unfold lim
        rw [Int.min_comm]
        (repeat (first | exact True.intro | refine ⟨rfl, ?_⟩))
    · simp only [List.length_map, Int.ofNat_lt] at hge
      refine jc_exit ?_
      refine jq_then_exit ?_
      refine jq_then_exit ?_
      refine jq_block_exit ?_
      refine jq_then ?_
      refine jc_seq ?_
      refine jc_region ?_
      refine jl_op ?_ (nb rfl)
      refine ow_move rfl ?_
      refine jl_op ?_ (nb rfl)
      refine ow_assign rfl ?_
      refine jl_nil ?_
      refine jq_then ?_
      refine jc_ret ?_
      refine jq_ret1 rfl rfl [] rfl (fun K h => by rw [← List.take_of_length_le (Nat.le_of_not_lt hge)] at h; exact h)

theorem lim_lim (a b : Int) (h : 0 ≤ a) : lim (a + lim b) = lim (a + b) := by unfold lim; omega
theorem wAll_full (l : List Sm) : ∀ n, n = 1099511627776 → wAll 0 l n = 1099511627776 := by
  induction l with
  | nil => intro n h; simpa [wAll] using h
  | cons s l ih => intro n h; rw [wAll]; exact ih _ (by subst h; rw [wOne]; rfl)

theorem rweight_zero (l : List Sm) (depth : Int) (h1 : depth = 21) : Con Try.prog 29 [.cell (.list (l.map Sm.row)), In .i64 depth] [] (fun K => K (In .i64 (wAll 0 l 0)) []) := by
  refine con_intro Try.func29 rfl rfl (Nat.le_of_ble_eq_true rfl) (fun c hc => ?_)
  refine jc_seq ?_
  refine jc_region ?_
  refine jl_op ?_ (nb rfl)
  refine ow_assign rfl ?_
  refine jl_nil ?_
  refine jq_then ?_
  refine jc_seq ?_
  refine jc_region ?_
  refine jl_op ?_ (nb rfl)
  refine ow_assign rfl ?_
  refine jl_nil ?_
  refine jq_then ?_
  refine jc_seq ?_
  refine jc_seq ?_
  refine jc_region ?_
  refine jl_op ?_ (nb rfl)
  refine ow_assign rfl ?_
  refine jl_nil ?_
  refine jq_then ?_
  refine jc_block ?_
  refine jc_loop [0, 1] (fun k : Nat => k = 0) (fun k => [(5, In .i64 0), (6, In .i64 (k : Int))]) (fun _ => []) (fun k => l.length - k) 0 [] rfl rfl ?_ ?_
  · (repeat (first | exact True.intro | refine ⟨rfl, ?_⟩))
  · rintro k hk
    refine jc_seq ?_
    refine jc_seq ?_
    refine jc_region ?_
    refine jl_op ?_ (nb rfl)
    refine ow_move rfl ?_
    refine jl_op ?_ (nb rfl)
    refine ow_move rfl ?_
    refine jl_op ?_ (nb rfl)
    refine ow_len rfl (fun hlen => ?_)
    refine jl_op ?_ (nb rfl)
    refine ow_lss rfl rfl ?_
    refine jl_nil ?_
    refine jq_then ?_
    refine jc_condd rfl (fun hlt => ?_) (fun hge => ?_)
    · refine jc_skip ?_
      refine jq_then ?_
      refine jc_seq ?_
      refine jc_block ?_
      refine jc_seq ?_
      refine jc_seq ?_
      refine jc_region ?_
      refine jl_op ?_ (nb rfl)
      refine ow_move rfl ?_
      refine jl_op ?_ (nb rfl)
      refine ow_gtr rfl rfl ?_
      refine jl_nil ?_
      refine jq_then ?_
      refine jc_condd rfl (fun _ => ?_) (fun h => by omega)
      refine jc_seq ?_
      refine jc_region ?_
      refine jl_op ?_ (nb rfl)
      refine ow_assign rfl ?_
      refine jl_nil ?_
      refine jq_then ?_
      refine jc_ret ?_
      refine jq_then_ret ?_
      refine jq_block_ret ?_
      refine jq_then_ret ?_
      refine jq_then_ret ?_
      refine jq_block_ret ?_
      refine jq_then_ret ?_
      refine jq_ret1 rfl rfl [] rfl (fun K h => ?_)
      cases l with
      | nil => simp at hlt; omega
      | cons s l => rw [wAll, wAll_full l _ (by simp [wOne, lim])] at h; exact h
    · refine jc_exit ?_
      refine jq_then_exit ?_
      refine jq_then_exit ?_
      refine jq_block_exit ?_
      refine jq_then ?_
      refine jc_seq ?_
      refine jc_region ?_
      refine jl_op ?_ (nb rfl)
      refine ow_move rfl ?_
      refine jl_op ?_ (nb rfl)
      refine ow_assign rfl ?_
      refine jl_nil ?_
      refine jq_then ?_
      refine jc_ret ?_
      have : l = [] := by cases l with
        | nil => rfl
        | cons s l => simp at hge; omega
      subst this
      refine jq_ret1 rfl rfl [] rfl (fun K h => by simpa [wAll] using h)

theorem rweight_succ (f : Nat) (ih : ∀ (l : List Sm) (depth : Int), 0 ≤ depth → depth + f = 21 → Con Try.prog 29 [.cell (.list (l.map Sm.row)), In .i64 depth] [] (fun K => K (In .i64 (wAll f l 0)) []))
    (l : List Sm) (depth : Int) (h0 : 0 ≤ depth) (h1 : depth + (f + 1 : Nat) = 21) : Con Try.prog 29 [.cell (.list (l.map Sm.row)), In .i64 depth] [] (fun K => K (In .i64 (wAll (f + 1) l 0)) []) := by
  refine con_intro Try.func29 rfl rfl (Nat.le_of_ble_eq_true rfl) (fun c hc => ?_)
  refine jc_seq ?_
  refine jc_region ?_
  refine jl_op ?_ (nb rfl)
  refine ow_assign rfl ?_
  refine jl_nil ?_
  refine jq_then ?_
  refine jc_seq ?_
  refine jc_region ?_
  refine jl_op ?_ (nb rfl)
  refine ow_assign rfl ?_
  refine jl_nil ?_
  refine jq_then ?_
  refine jc_seq ?_
  refine jc_seq ?_
  refine jc_region ?_
  refine jl_op ?_ (nb rfl)
  refine ow_assign rfl ?_
  refine jl_nil ?_
  refine jq_then ?_
  refine jc_block ?_
  refine jc_loop [0, 1] (fun k => k ≤ l.length) (fun k => [(5, In .i64 (wAll (f + 1) (l.take k) 0)), (6, In .i64 (k : Int))]) (fun _ => []) (fun k => l.length - k) 0 [] (Nat.zero_le _) rfl ?_ ?_
  · rw [List.take_zero, wAll]
    (repeat (first | exact True.intro | refine ⟨rfl, ?_⟩))
  · intro k hk
    refine jc_seq ?_
    refine jc_seq ?_
    refine jc_region ?_
    refine jl_op ?_ (nb rfl)
    refine ow_move rfl ?_
    refine jl_op ?_ (nb rfl)
    refine ow_move rfl ?_
    refine jl_op ?_ (nb rfl)
    refine ow_len rfl (fun hlen => ?_)
    refine jl_op ?_ (nb rfl)
    refine ow_lss rfl rfl ?_
    refine jl_nil ?_
    refine jq_then ?_
    have hmax : l.length ≤ 9223372036854775807 := by simpa using hlen
    refine jc_condd rfl (fun hlt => ?_) (fun hge => ?_)
    · simp only [List.length_map, Int.ofNat_lt] at hlt
      have b1 := wPartsL_bd 20 (wParts_bd 20) l[k].index 0 (by omega)
      have b2 := wPartsL_bd 20 (wParts_bd 20) l[k].value 0 (by omega)
      have b3 := wAll_bd f l[k].thn 0 (by omega)
      have b4 := wAll_bd f l[k].els 0 (by omega)
      have b8 := wAll_bd (f + 1) (l.take k) 0 (by omega)
      refine jc_skip ?_
      refine jq_then ?_
      refine jc_seq ?_
      refine jc_block ?_
      refine jc_seq ?_
      refine jc_seq ?_
      refine jc_region ?_
      refine jl_op ?_ (nb rfl)
      refine ow_move rfl ?_
      refine jl_op ?_ (nb rfl)
      refine ow_gtr rfl rfl ?_
      refine jl_nil ?_
      refine jq_then ?_
      refine jc_condd rfl (fun h => by omega) (fun h => ?_)
      refine jc_skip ?_
      refine jq_then ?_
      refine jc_seq ?_
      refine jc_region ?_
      refine jl_op ?_ (nb rfl)
      refine ow_move rfl ?_
      refine jl_op ?_ (nb rfl)
      refine ow_move rfl ?_
      refine jl_op ?_ (nb rfl)
      refine ow_indexAddrMapE rfl rfl (by omega) (Sm.row_eq _) rfl (nb rfl) ?_
      refine jl_op ?_ (nb rfl)
      refine ow_loadPlaceN rfl rfl rfl ?_
      refine jl_op ?_ (nb rfl)
      refine ow_alloc rfl rfl (fun bl => ?_)
      refine jl_op0 ?_
      refine ow_storeAll 0 rfl rfl rfl rfl rfl rfl ?_
      refine jl_nil ?_
      refine jq_then ?_
      refine jc_seq ?_
      refine jc_region ?_
      refine jl_op ?_ (nb rfl)
      refine ow_assign rfl ?_
      refine jl_nil ?_
      refine jq_then ?_
      refine jc_seq ?_
      refine jc_seq ?_
      refine jc_region ?_
      refine jl_op ?_ (nb rfl)
      refine ow_fieldAddr rfl rfl rfl (nb rfl) ?_
      refine jl_op ?_ (nb rfl)
      refine ow_load 0 rfl rfl rfl rfl ?_
      refine jl_nil ?_
      refine jq_then ?_
      refine jc_cut (ι := Int) [0, 1, 5, 6] (fun n => 0 ≤ n ∧ n ≤ 1099511627776000000 ∧ lim n = wOne (f + 1) l[k]) (fun n => [(8, In .i64 n)]) (fun _ => []) ?_ ?_
      · refine jc_block ?_
        refine jc_seq ?_
        refine jc_seq ?_
        refine jc_region ?_
        refine jl_op ?_ (nb rfl)
        refine ow_eql rfl rfl ?_
        refine jl_op ?_ (nb rfl)
        refine ow_assign rfl ?_
        refine jl_nil ?_
        refine jq_then ?_
        refine jc_condd rfl (fun hk1 => ?_) (fun hk1 => ?_)
        · refine jc_skip ?_
          refine jq_then ?_
          refine jc_condd rfl (fun _ => ?_) (fun h => absurd hk1 h)
          refine jc_any rfl rfl (by kernel_rfl) (by kernel_rfl) ?_
          refine any_op (fun c => ow_fieldAddr rfl rfl rfl (nb rfl) ⟨rfl, List.Perm.refl _⟩) ?_
          refine any_op (fun c => ow_load 0 rfl rfl rfl rfl ⟨rfl, List.Perm.refl _⟩) ?_
          refine any_op (fun c => ow_call0 rfl (rexprs_c _) ⟨rfl, List.Perm.refl _⟩) ?_
          refine any_op (fun c => ow_add64 rfl rfl (by omega) ⟨rfl, List.Perm.refl _⟩) ?_
          refine any_op (fun c => ow_fieldAddr rfl rfl rfl (nb rfl) ⟨rfl, List.Perm.refl _⟩) ?_
          refine any_op (fun c => ow_load 0 rfl rfl rfl rfl ⟨rfl, List.Perm.refl _⟩) ?_
          refine any_op (fun c => ow_call0 rfl (rexprs_c _) ⟨rfl, List.Perm.refl _⟩) ?_
          refine any_op (fun c => ow_add64 rfl rfl (by omega) ⟨rfl, List.Perm.refl _⟩) ?_
          refine any_op (fun c => ow_assign rfl ⟨rfl, List.Perm.refl _⟩) ?_
          refine any_nil ?_
          refine jq_block ?_
          refine jq_cut (1 + wPartsL l[k].index 20 0 + wPartsL l[k].value 20 0) [] ⟨by omega, by omega, by rw [wOne, if_pos (.inl hk1)]⟩ rfl ?_
          (repeat (first | exact True.intro | refine ⟨rfl, ?_⟩))
        · refine jc_region ?_
          refine jl_op ?_ (nb rfl)
          refine ow_eql rfl rfl ?_
          refine jl_op ?_ (nb rfl)
          refine ow_assign rfl ?_
          refine jl_nil ?_
          refine jq_then ?_
          refine jc_condd rfl (fun hk2 => ?_) (fun hk2 => ?_)
          · refine jc_any rfl rfl (by kernel_rfl) (by kernel_rfl) ?_
            refine any_op (fun c => ow_fieldAddr rfl rfl rfl (nb rfl) ⟨rfl, List.Perm.refl _⟩) ?_
            refine any_op (fun c => ow_load 0 rfl rfl rfl rfl ⟨rfl, List.Perm.refl _⟩) ?_
            refine any_op (fun c => ow_call0 rfl (rexprs_c _) ⟨rfl, List.Perm.refl _⟩) ?_
            refine any_op (fun c => ow_add64 rfl rfl (by omega) ⟨rfl, List.Perm.refl _⟩) ?_
            refine any_op (fun c => ow_fieldAddr rfl rfl rfl (nb rfl) ⟨rfl, List.Perm.refl _⟩) ?_
            refine any_op (fun c => ow_load 0 rfl rfl rfl rfl ⟨rfl, List.Perm.refl _⟩) ?_
            refine any_op (fun c => ow_call0 rfl (rexprs_c _) ⟨rfl, List.Perm.refl _⟩) ?_
            refine any_op (fun c => ow_add64 rfl rfl (by omega) ⟨rfl, List.Perm.refl _⟩) ?_
            refine any_op (fun c => ow_assign rfl ⟨rfl, List.Perm.refl _⟩) ?_
            refine any_nil ?_
            refine jq_block ?_
            refine jq_cut (1 + wPartsL l[k].index 20 0 + wPartsL l[k].value 20 0) [] ⟨by omega, by omega, by rw [wOne, if_pos (.inr hk2)]⟩ rfl ?_
            (repeat (first | exact True.intro | refine ⟨rfl, ?_⟩))
          · have h12 : ¬ (l[k].kind = 1 ∨ l[k].kind = 2) := by omega
            refine jc_seq ?_
            refine jc_region ?_
            refine jl_op ?_ (nb rfl)
            refine ow_eql rfl rfl ?_
            refine jl_op ?_ (nb rfl)
            refine ow_assign rfl ?_
            refine jl_nil ?_
            refine jq_then ?_
            refine jc_condd rfl (fun hk3 => ?_) (fun hk3 => ?_)
            · refine jc_any rfl rfl (by kernel_rfl) (by kernel_rfl) ?_
              refine any_op (fun c => ow_fieldAddr rfl rfl rfl (nb rfl) ⟨rfl, List.Perm.refl _⟩) ?_
              refine any_op (fun c => ow_load 0 rfl rfl rfl rfl ⟨rfl, List.Perm.refl _⟩) ?_
              refine any_op (fun c => ow_call0 rfl (rexprs_c _) ⟨rfl, List.Perm.refl _⟩) ?_
              refine any_op (fun c => ow_add64 rfl rfl (by omega) ⟨rfl, List.Perm.refl _⟩) ?_
              refine any_op (fun c => ow_fieldAddr rfl rfl rfl (nb rfl) ⟨rfl, List.Perm.refl _⟩) ?_
              refine any_op (fun c => ow_load 0 rfl rfl rfl rfl ⟨rfl, List.Perm.refl _⟩) ?_
              refine any_op (fun c => ow_move rfl ⟨rfl, List.Perm.refl _⟩) ?_
              refine any_op (fun c => ow_add64 rfl rfl (by omega) ⟨rfl, List.Perm.refl _⟩) ?_
              refine any_op (fun c => ow_call0 rfl (ih _ _ (by omega) (by omega)) ⟨rfl, List.Perm.refl _⟩) ?_
              refine any_op (fun c => ow_add64 rfl rfl (by omega) ⟨rfl, List.Perm.refl _⟩) ?_
              refine any_op (fun c => ow_fieldAddr rfl rfl rfl (nb rfl) ⟨rfl, List.Perm.refl _⟩) ?_
              refine any_op (fun c => ow_load 0 rfl rfl rfl rfl ⟨rfl, List.Perm.refl _⟩) ?_
              refine any_op (fun c => ow_move rfl ⟨rfl, List.Perm.refl _⟩) ?_
              refine any_op (fun c => ow_add64 rfl rfl (by omega) ⟨rfl, List.Perm.refl _⟩) ?_
              refine any_op (fun c => ow_call0 rfl (ih _ _ (by omega) (by omega)) ⟨rfl, List.Perm.refl _⟩) ?_
              refine any_op (fun c => ow_add64 rfl rfl (by omega) ⟨rfl, List.Perm.refl _⟩) ?_
              refine any_op (fun c => ow_assign rfl ⟨rfl, List.Perm.refl _⟩) ?_
              refine any_nil ?_
              refine jq_block ?_
              refine jq_cut (2 + wPartsL l[k].value 20 0 + wAll f l[k].thn 0 + wAll f l[k].els 0) [] ⟨by omega, by omega, by rw [wOne, if_neg h12, if_pos hk3]⟩ rfl ?_
              (repeat (first | exact True.intro | refine ⟨rfl, ?_⟩))
            · refine jc_seq ?_
              refine jc_region ?_
              refine jl_op ?_ (nb rfl)
              refine ow_eql rfl rfl ?_
              refine jl_op ?_ (nb rfl)
              refine ow_assign rfl ?_
              refine jl_nil ?_
              refine jq_then ?_
              refine jc_condd rfl (fun hk4 => ?_) (fun hk4 => ?_)
              · have b5 := lim_bd (2 + wPartsL l[k].value 20 0 + wAll f l[k].thn 0) (by omega)
                unfold lim at b5
                rw [Int.min_comm] at b5
                have b6 : 0 ≤ Max.max 0 (min l[k].max 33) + 1 ∧ Max.max 0 (min l[k].max 33) + 1 ≤ 34 := by omega
                have b7 := prod_bd _ _ b6.1 b6.2 b5.1 b5.2
                refine jc_seq ?_
                refine jc_region ?_
                refine jl_op ?_ (nb rfl)
                refine ow_fieldAddr rfl rfl rfl (nb rfl) ?_
                refine jl_op ?_ (nb rfl)
                refine ow_load 0 rfl rfl rfl rfl ?_
                refine jl_op ?_ (nb rfl)
                refine ow_min2 rfl rfl ?_
                refine jl_op ?_ (nb rfl)
                refine ow_max2 rfl rfl ?_
                refine jl_op ?_ (nb rfl)
                refine ow_assign rfl ?_
                refine jl_nil ?_
                refine jq_then ?_
                refine jc_any rfl rfl (by kernel_rfl) (by kernel_rfl) ?_
                refine any_op (fun c => ow_move rfl ⟨rfl, List.Perm.refl _⟩) ?_
                refine any_op (fun c => ow_add64 rfl rfl (by omega) ⟨rfl, List.Perm.refl _⟩) ?_
                refine any_op (fun c => ow_fieldAddr rfl rfl rfl (nb rfl) ⟨rfl, List.Perm.refl _⟩) ?_
                refine any_op (fun c => ow_load 0 rfl rfl rfl rfl ⟨rfl, List.Perm.refl _⟩) ?_
                refine any_op (fun c => ow_call0 rfl (rexprs_c _) ⟨rfl, List.Perm.refl _⟩) ?_
                refine any_op (fun c => ow_add64 rfl rfl (by omega) ⟨rfl, List.Perm.refl _⟩) ?_
                refine any_op (fun c => ow_fieldAddr rfl rfl rfl (nb rfl) ⟨rfl, List.Perm.refl _⟩) ?_
                refine any_op (fun c => ow_load 0 rfl rfl rfl rfl ⟨rfl, List.Perm.refl _⟩) ?_
                refine any_op (fun c => ow_move rfl ⟨rfl, List.Perm.refl _⟩) ?_
                refine any_op (fun c => ow_add64 rfl rfl (by omega) ⟨rfl, List.Perm.refl _⟩) ?_
                refine any_op (fun c => ow_call0 rfl (ih _ _ (by omega) (by omega)) ⟨rfl, List.Perm.refl _⟩) ?_
                refine any_op (fun c => ow_add64 rfl rfl (by omega) ⟨rfl, List.Perm.refl _⟩) ?_
                refine any_op (fun c => ow_min2 rfl rfl ⟨rfl, List.Perm.refl _⟩) ?_
                refine any_op (fun c => ow_mul64 rfl rfl (by omega) ⟨rfl, List.Perm.refl _⟩) ?_
                refine any_op (fun c => ow_add64 rfl rfl (by omega) ⟨rfl, List.Perm.refl _⟩) ?_
                refine any_op (fun c => ow_assign rfl ⟨rfl, List.Perm.refl _⟩) ?_
                refine any_nil ?_
                refine jq_block ?_
                refine jq_cut (2 + (Max.max 0 (min l[k].max 33) + 1) * min 1099511627776 (2 + wPartsL l[k].value 20 0 + wAll f l[k].thn 0)) [] ⟨by omega, by omega, by rw [wOne, if_neg h12, if_neg hk3, if_pos hk4, Int.min_comm 1099511627776]; rfl⟩ rfl ?_
                (repeat (first | exact True.intro | refine ⟨rfl, ?_⟩))
              · refine jc_seq ?_
                refine jc_region ?_
                refine jl_op ?_ (nb rfl)
                refine ow_eql rfl rfl ?_
                refine jl_op ?_ (nb rfl)
                refine ow_assign rfl ?_
                refine jl_nil ?_
                refine jq_then ?_
                refine jc_condd rfl (fun hk5 => ?_) (fun hk5 => ?_)
                · refine jc_region ?_
                  refine jl_op ?_ (nb rfl)
                  refine ow_fieldAddr rfl rfl rfl (nb rfl) ?_
                  refine jl_op ?_ (nb rfl)
                  refine ow_load 0 rfl rfl rfl rfl ?_
                  refine jl_op ?_ (nb rfl)
                  refine ow_move rfl ?_
                  refine jl_op ?_ (nb rfl)
                  refine ow_add64 rfl rfl (by omega) ?_
                  refine jl_op ?_ (nb rfl)
                  refine ow_call0 rfl (ih _ _ (by omega) (by omega)) ?_
                  refine jl_op ?_ (nb rfl)
                  refine ow_add64 rfl rfl (by omega) ?_
                  refine jl_op ?_ (nb rfl)
                  refine ow_assign rfl ?_
                  refine jl_nil ?_
                  refine jq_block ?_
                  refine jq_cut (2 + wAll f l[k].thn 0) [] ⟨by omega, by omega, by rw [wOne, if_neg h12, if_neg hk3, if_neg hk4, if_pos hk5]⟩ rfl ?_
                  (repeat (first | exact True.intro | refine ⟨rfl, ?_⟩))
                · refine jc_skip ?_
                  refine jq_block ?_
                  refine jq_cut 0 [] ⟨by omega, by omega, by rw [wOne, if_neg h12, if_neg hk3, if_neg hk4, if_neg hk5]; rfl⟩ rfl ?_
                  (repeat (first | exact True.intro | refine ⟨rfl, ?_⟩))
      · rintro n ⟨hn0, hn1, hn⟩
        refine jc_region ?_
        refine jl_op ?_ (nb rfl)
        refine ow_move rfl ?_
        refine jl_op ?_ (nb rfl)
        refine ow_move rfl ?_
        refine jl_op ?_ (nb rfl)
        refine ow_add64 rfl rfl (by omega) ?_
        refine jl_op ?_ (nb rfl)
        refine ow_min2 rfl rfl ?_
        refine jl_op ?_ (nb rfl)
        refine ow_assign rfl ?_
        refine jl_nil ?_
        refine jq_block ?_
        refine jq_then ?_
        refine jc_region ?_
        refine jl_op ?_ (nb rfl)
        refine ow_move rfl ?_
        refine jl_op ?_ (nb rfl)
        refine ow_add64 rfl rfl (by omega) ?_
        refine jl_op ?_ (nb rfl)
        refine ow_assign rfl ?_
        refine jl_nil ?_
        refine jq_again (k + 1) [] hlt (by omega) rfl ?_
        · rw [wAll_take (f + 1) l 0 k hlt, ← hn, lim_lim _ _ b8.1]
          unfold lim
          rw [Int.min_comm]
          (repeat (first | exact True.intro | refine ⟨rfl, ?_⟩))
    · simp only [List.length_map, Int.ofNat_lt] at hge
      refine jc_exit ?_
      refine jq_then_exit ?_
      refine jq_then_exit ?_
      refine jq_block_exit ?_
      refine jq_then ?_
      refine jc_seq ?_
      refine jc_region ?_
      refine jl_op ?_ (nb rfl)
      refine ow_move rfl ?_
      refine jl_op ?_ (nb rfl)
      refine ow_assign rfl ?_
      refine jl_nil ?_
      refine jq_then ?_
      refine jc_ret ?_
      refine jq_ret1 rfl rfl [] rfl (fun K h => by rw [← List.take_of_length_le (Nat.le_of_not_lt hge)] at h; exact h)

theorem rweight_c : ∀ (f : Nat) (l : List Sm) (depth : Int), 0 ≤ depth → depth + f = 21 → Con Try.prog 29 [.cell (.list (l.map Sm.row)), In .i64 depth] [] (fun K => K (In .i64 (wAll f l 0)) [])
  | 0, l, depth, _, h1 => rweight_zero l depth (by omega)
  | f + 1, l, depth, h0, h1 => rweight_succ f (rweight_c f) l depth h0 h1
theorem rWeight_c (l : List Sm) : Con Try.prog 25 [.cell (.list (l.map Sm.row))] [] (fun K => K (In .i64 (wAll 20 l 0)) []) := by
  refine con_intro Try.func25 rfl rfl (Nat.le_of_ble_eq_true rfl) (fun c hc => ?_)
  refine jc_seq ?_
  refine jc_region ?_
  refine jl_op ?_ (nb rfl)
  refine ow_assign rfl ?_
  refine jl_nil ?_
  refine jq_then ?_
  refine jc_seq ?_
  refine jc_region ?_
  refine jl_op ?_ (nb rfl)
  refine ow_move rfl ?_
  refine jl_op ?_ (nb rfl)
  refine ow_call0 rfl (rweight_c 20 _ _ (by omega) (by omega)) ?_
  refine jl_op ?_ (nb rfl)
  refine ow_assign rfl ?_
  refine jl_nil ?_
  refine jq_then ?_
  refine jc_ret ?_
  refine jq_ret1 rfl rfl [] rfl (fun K h => h)

/-! Ifs -/
def rlSelf (s : Sm) : List Int := if s.kind = 3 then [s.label] else []
def rlOne : Nat → Sm → List Int
  | 0, _ => []
  | f + 1, s => rlSelf s ++ s.thn.flatMap (rlOne f) ++ s.els.flatMap (rlOne f)
theorem rl_zero (l : List Sm) : l.flatMap (rlOne 0) = [] := by
  induction l with
  | nil => rfl
  | cons s l ih => simp [rlOne]

theorem rlabels_c : ∀ (f : Nat) (l : List Sm) (depth : Int), 0 ≤ depth → depth + f = 21 → (l.flatMap (rlOne f)).length ≤ 1000000 →
    Con Try.prog 28 [.cell (.list (l.map Sm.row)), In .i64 depth, In .i64 3] [] (fun K => K (.cell (.list ((l.flatMap (rlOne f)).map Irow))) []) := by
  intro f
  induction f with
  | zero =>
    intro l depth h0 h1 hlim
    refine con_intro Try.func28 rfl rfl (Nat.le_of_ble_eq_true rfl) (fun c hc => ?_)
    refine jc_seq ?_
    refine jc_region ?_
    refine jl_op ?_ (nb rfl)
    refine ow_assign rfl ?_
    refine jl_nil ?_
    refine jq_then ?_
    refine jc_seq ?_
    refine jc_region ?_
    refine jl_op ?_ (nb rfl)
    refine ow_assign rfl ?_
    refine jl_nil ?_
    refine jq_then ?_
    refine jc_seq ?_
    refine jc_seq ?_
    refine jc_region ?_
    refine jl_op ?_ (nb rfl)
    refine ow_assign rfl ?_
    refine jl_nil ?_
    refine jq_then ?_
    refine jc_block ?_
    refine jc_loop [0, 1, 2, 6, 7] (fun _ : Nat => True) (fun _ => [(8, In .i64 0)]) (fun _ => []) (fun _ => 0) 0 [] trivial rfl ?_ ?_
    · (repeat (first | exact True.intro | refine ⟨rfl, ?_⟩))
    · intro k _
      refine jc_seq ?_
      refine jc_seq ?_
      refine jc_cut (ι := Unit) [6, 7] (fun _ => True) (fun _ => [(17, Bl false)]) (fun _ => []) ?_ ?_
      · by_cases hl : (0 : Int) < ((l.map Sm.row).length : Int)
        · refine jc_region ?_
          refine jl_op ?_ (nb rfl)
          refine ow_move rfl ?_
          refine jl_op ?_ (nb rfl)
          refine ow_move rfl ?_
          refine jl_op ?_ (nb rfl)
          refine ow_len rfl (fun hlen => ?_)
          refine jl_op ?_ (nb rfl)
          refine ow_lss rfl rfl ?_
          refine jl_op ?_ (nb rfl)
          refine ow_move rfl ?_
          refine jl_guardY rfl (by first | assumption | exact decide_eq_true (by first | assumption | omega) | exact decide_eq_false (by first | assumption | omega) | with_reducible rfl) (nb rfl) ?_
          refine ow_move rfl ?_
          refine jl_guardY rfl (by first | assumption | exact decide_eq_true (by first | assumption | omega) | exact decide_eq_false (by first | assumption | omega) | with_reducible rfl) (nb rfl) ?_
          refine ow_leq rfl rfl ?_
          refine jl_op ?_ (nb rfl)
          refine ow_pickT rfl (by first | assumption | exact decide_eq_true (by first | assumption | omega) | exact decide_eq_false (by first | assumption | omega) | with_reducible rfl) rfl ?_
          refine jl_nil ?_
          refine jq_cut () [] trivial rfl ?_
          rw [show decide (depth ≤ 20) = false from decide_eq_false (by omega)]
          (repeat (first | exact True.intro | refine ⟨rfl, ?_⟩))
        · refine jc_region ?_
          refine jl_op ?_ (nb rfl)
          refine ow_move rfl ?_
          refine jl_op ?_ (nb rfl)
          refine ow_move rfl ?_
          refine jl_op ?_ (nb rfl)
          refine ow_len rfl (fun hlen => ?_)
          refine jl_op ?_ (nb rfl)
          refine ow_lss rfl rfl ?_
          refine jl_op ?_ (nb rfl)
          refine ow_move rfl ?_
          refine jl_guardN rfl (by first | assumption | exact decide_eq_true (by first | assumption | omega) | exact decide_eq_false (by first | assumption | omega) | with_reducible rfl) (nb rfl) ?_
          refine jl_guardN rfl (by first | assumption | exact decide_eq_true (by first | assumption | omega) | exact decide_eq_false (by first | assumption | omega) | with_reducible rfl) (nb rfl) ?_
          refine jl_op ?_ (nb rfl)
          refine ow_pickF rfl (by first | assumption | exact decide_eq_true (by first | assumption | omega) | exact decide_eq_false (by first | assumption | omega) | with_reducible rfl) rfl ?_
          refine jl_nil ?_
          refine jq_cut () [] trivial rfl ?_
          (repeat (first | exact True.intro | refine ⟨rfl, ?_⟩))
      · intro _ _
        skip
        refine jc_cond rfl (fun h => by cases h) (fun _ => ?_)
        refine jc_exit ?_
        refine jq_then_exit ?_
        refine jq_then_exit ?_
        refine jq_block_exit ?_
        refine jq_then ?_
        refine jc_seq ?_
        refine jc_region ?_
        refine jl_op ?_ (nb rfl)
        refine ow_move rfl ?_
        refine jl_op ?_ (nb rfl)
        refine ow_assign rfl ?_
        refine jl_nil ?_
        refine jq_then ?_
        refine jc_ret ?_
        rw [rl_zero]
        refine jq_sle 6 rfl (SLe.cell CLe.nil) ?_
        refine jq_ret1 rfl rfl [] rfl (fun K h => h)
  | succ f ih =>
    intro l depth h0 h1 hlim
    refine con_intro Try.func28 rfl rfl (Nat.le_of_ble_eq_true rfl) (fun c hc => ?_)
    refine jc_seq ?_
    refine jc_region ?_
    refine jl_op ?_ (nb rfl)
    refine ow_assign rfl ?_
    refine jl_nil ?_
    refine jq_then ?_
    refine jc_seq ?_
    refine jc_region ?_
    refine jl_op ?_ (nb rfl)
    refine ow_assign rfl ?_
    refine jl_nil ?_
    refine jq_then ?_
    refine jc_seq ?_
    refine jc_seq ?_
    refine jc_region ?_
    refine jl_op ?_ (nb rfl)
    refine ow_assign rfl ?_
    refine jl_nil ?_
    refine jq_then ?_
    refine jc_block ?_
    refine jc_ownNil 3 1 (by omega) ?_
    refine jc_loop (ι := Nat × Value) [0, 1, 2] (fun i => i.1 ≤ l.length) (fun i => [(7, .cell (.val i.2)), (8, In .i64 (i.1 : Int))]) (fun i => [.own i.2 3 1 (((l.take i.1).flatMap (rlOne (f + 1))).map Irow)]) (fun i => l.length - i.1) (0, .slice none 0 0) [0] (Nat.zero_le _) rfl ?_ ?_
    · (repeat (first | exact True.intro | refine ⟨rfl, ?_⟩))
    · rintro ⟨k, v⟩ hk
      dsimp only at hk ⊢
      by_cases hlt : (k : Int) < ((l.map Sm.row).length : Int)
      · refine jc_seq ?_
        refine jc_seq ?_
        refine jc_region ?_
        refine jl_op ?_ (nb rfl)
        refine ow_move rfl ?_
        refine jl_op ?_ (nb rfl)
        refine ow_move rfl ?_
        refine jl_op ?_ (nb rfl)
        refine ow_len rfl (fun hlen => ?_)
        refine jl_op ?_ (nb rfl)
        refine ow_lss rfl rfl ?_
        refine jl_op ?_ (nb rfl)
        refine ow_move rfl ?_
        refine jl_guardY rfl (by first | assumption | exact decide_eq_true (by first | assumption | omega) | exact decide_eq_false (by first | assumption | omega) | with_reducible rfl) (nb rfl) ?_
        refine ow_move rfl ?_
        refine jl_guardY rfl (by first | assumption | exact decide_eq_true (by first | assumption | omega) | exact decide_eq_false (by first | assumption | omega) | with_reducible rfl) (nb rfl) ?_
        refine ow_leq rfl rfl ?_
        refine jl_op ?_ (nb rfl)
        refine ow_pickT rfl (by first | assumption | exact decide_eq_true (by first | assumption | omega) | exact decide_eq_false (by first | assumption | omega) | with_reducible rfl) rfl ?_
        refine jl_nil ?_
        refine jq_then ?_
        refine jc_condd rfl (fun _ => ?_) (fun h => absurd (show depth ≤ 20 by omega) h)
        have hmax : l.length ≤ 9223372036854775807 := by simpa using hlen
        simp only [List.length_map, Int.ofNat_lt] at hlt
        have hle := flat_le (f := rlOne (f + 1)) hlt
        have e2 : rlOne (f + 1) l[k] = rlSelf l[k] ++ l[k].thn.flatMap (rlOne f) ++ l[k].els.flatMap (rlOne f) := rfl
        have hl2 := congrArg List.length e2
        simp only [List.length_append] at hl2
        refine jc_skip ?_
        refine jq_then ?_
        refine jc_seq ?_
        refine jc_block ?_
        refine jc_seq ?_
        refine jc_region ?_
        refine jl_op ?_ (nb rfl)
        refine ow_move rfl ?_
        refine jl_op ?_ (nb rfl)
        refine ow_move rfl ?_
        refine jl_op ?_ (nb rfl)
        refine ow_indexAddrMapE rfl rfl (by omega) (Sm.row_eq _) rfl (nb rfl) ?_
        refine jl_op ?_ (nb rfl)
        refine ow_loadPlaceN rfl rfl rfl ?_
        refine jl_op ?_ (nb rfl)
        refine ow_alloc rfl rfl (fun bl => ?_)
        refine jl_op0 ?_
        refine ow_storeAll 0 rfl rfl rfl rfl rfl rfl ?_
        refine jl_nil ?_
        refine jq_then ?_
        refine jc_seq ?_
        refine jc_seq ?_
        refine jc_cut (ι := Unit) [0, 1, 2, 7, 8, 9] (fun _ => True) (fun _ => [(41, Bl (decide (l[k].kind = 3)))]) (fun _ => [.own v 3 1 (((l.take k).flatMap (rlOne (f + 1))).map Irow), .blk bl 45 l[k].row']) ?_ ?_
        · by_cases h3 : l[k].kind = 3
          · refine jc_region ?_
            refine jl_op ?_ (nb rfl)
            refine ow_fieldAddr rfl rfl rfl (nb rfl) ?_
            refine jl_op ?_ (nb rfl)
            refine ow_load 0 rfl rfl rfl rfl ?_
            refine jl_op ?_ (nb rfl)
            refine ow_eql rfl rfl ?_
            refine jl_op ?_ (nb rfl)
            refine ow_move rfl ?_
            refine jl_guardN rfl (by first | assumption | exact decide_eq_true (by first | assumption | omega) | exact decide_eq_false (by first | assumption | omega) | with_reducible rfl) (nb rfl) ?_
            refine jl_guardN rfl (by first | assumption | exact decide_eq_true (by first | assumption | omega) | exact decide_eq_false (by first | assumption | omega) | with_reducible rfl) (nb rfl) ?_
            refine jl_guardN rfl (by first | assumption | exact decide_eq_true (by first | assumption | omega) | exact decide_eq_false (by first | assumption | omega) | with_reducible rfl) (nb rfl) ?_
            refine jl_op ?_ (nb rfl)
            refine ow_pickT rfl (by first | assumption | exact decide_eq_true (by first | assumption | omega) | exact decide_eq_false (by first | assumption | omega) | with_reducible rfl) rfl ?_
            refine jl_op ?_ (nb rfl)
            refine ow_move rfl ?_
            refine jl_guardY rfl (by first | assumption | exact decide_eq_true (by first | assumption | omega) | exact decide_eq_false (by first | assumption | omega) | with_reducible rfl) (nb rfl) ?_
            refine ow_move rfl ?_
            refine jl_guardY rfl (by first | assumption | exact decide_eq_true (by first | assumption | omega) | exact decide_eq_false (by first | assumption | omega) | with_reducible rfl) (nb rfl) ?_
            refine ow_eql rfl rfl ?_
            refine jl_guardY rfl (by first | assumption | exact decide_eq_true (by first | assumption | omega) | exact decide_eq_false (by first | assumption | omega) | with_reducible rfl) (nb rfl) ?_
            refine ow_move rfl ?_
            refine jl_guardY rfl (by first | assumption | exact decide_eq_true (by first | assumption | omega) | exact decide_eq_false (by first | assumption | omega) | with_reducible rfl) (nb rfl) ?_
            refine ow_fieldAddr rfl rfl rfl (nb rfl) ?_
            refine jl_guardY rfl (by first | assumption | exact decide_eq_true (by first | assumption | omega) | exact decide_eq_false (by first | assumption | omega) | with_reducible rfl) (nb rfl) ?_
            refine ow_load 0 rfl rfl rfl rfl ?_
            refine jl_guardY rfl (by first | assumption | exact decide_eq_true (by first | assumption | omega) | exact decide_eq_false (by first | assumption | omega) | with_reducible rfl) (nb rfl) ?_
            refine ow_move rfl ?_
            refine jl_guardY rfl (by first | assumption | exact decide_eq_true (by first | assumption | omega) | exact decide_eq_false (by first | assumption | omega) | with_reducible rfl) (nb rfl) ?_
            refine ow_eql rfl rfl ?_
            refine jl_guardY rfl (by first | assumption | exact decide_eq_true (by first | assumption | omega) | exact decide_eq_false (by first | assumption | omega) | with_reducible rfl) (nb rfl) ?_
            refine ow_pickF rfl (by first | assumption | exact decide_eq_true (by first | assumption | omega) | exact decide_eq_false (by first | assumption | omega) | with_reducible rfl) rfl ?_
            refine jl_op ?_ (nb rfl)
            refine ow_pickT rfl (by first | assumption | exact decide_eq_true (by first | assumption | omega) | exact decide_eq_false (by first | assumption | omega) | with_reducible rfl) rfl ?_
            refine jl_nil ?_
            refine jq_cut () [1, 0] trivial rfl ?_
            (repeat (first | exact True.intro | refine ⟨rfl, ?_⟩))
          · by_cases h4 : l[k].kind = 4
            · refine jc_region ?_
              refine jl_op ?_ (nb rfl)
              refine ow_fieldAddr rfl rfl rfl (nb rfl) ?_
              refine jl_op ?_ (nb rfl)
              refine ow_load 0 rfl rfl rfl rfl ?_
              refine jl_op ?_ (nb rfl)
              refine ow_eql rfl rfl ?_
              refine jl_op ?_ (nb rfl)
              refine ow_move rfl ?_
              refine jl_guardY rfl (by first | assumption | exact decide_eq_true (by first | assumption | omega) | exact decide_eq_false (by first | assumption | omega) | with_reducible rfl) (nb rfl) ?_
              refine ow_fieldAddr rfl rfl rfl (nb rfl) ?_
              refine jl_guardY rfl (by first | assumption | exact decide_eq_true (by first | assumption | omega) | exact decide_eq_false (by first | assumption | omega) | with_reducible rfl) (nb rfl) ?_
              refine ow_load 0 rfl rfl rfl rfl ?_
              refine jl_guardY rfl (by first | assumption | exact decide_eq_true (by first | assumption | omega) | exact decide_eq_false (by first | assumption | omega) | with_reducible rfl) (nb rfl) ?_
              refine ow_eql rfl rfl ?_
              refine jl_op ?_ (nb rfl)
              refine ow_pickF rfl (by first | assumption | exact decide_eq_true (by first | assumption | omega) | exact decide_eq_false (by first | assumption | omega) | with_reducible rfl) rfl ?_
              refine jl_op ?_ (nb rfl)
              refine ow_move rfl ?_
              refine jl_guardY rfl (by first | assumption | exact decide_eq_true (by first | assumption | omega) | exact decide_eq_false (by first | assumption | omega) | with_reducible rfl) (nb rfl) ?_
              refine ow_move rfl ?_
              refine jl_guardY rfl (by first | assumption | exact decide_eq_true (by first | assumption | omega) | exact decide_eq_false (by first | assumption | omega) | with_reducible rfl) (nb rfl) ?_
              refine ow_eql rfl rfl ?_
              refine jl_guardY rfl (by first | assumption | exact decide_eq_true (by first | assumption | omega) | exact decide_eq_false (by first | assumption | omega) | with_reducible rfl) (nb rfl) ?_
              refine ow_move rfl ?_
              refine jl_guardY rfl (by first | assumption | exact decide_eq_true (by first | assumption | omega) | exact decide_eq_false (by first | assumption | omega) | with_reducible rfl) (nb rfl) ?_
              refine ow_fieldAddr rfl rfl rfl (nb rfl) ?_
              refine jl_guardY rfl (by first | assumption | exact decide_eq_true (by first | assumption | omega) | exact decide_eq_false (by first | assumption | omega) | with_reducible rfl) (nb rfl) ?_
              refine ow_load 0 rfl rfl rfl rfl ?_
              refine jl_guardY rfl (by first | assumption | exact decide_eq_true (by first | assumption | omega) | exact decide_eq_false (by first | assumption | omega) | with_reducible rfl) (nb rfl) ?_
              refine ow_move rfl ?_
              refine jl_guardY rfl (by first | assumption | exact decide_eq_true (by first | assumption | omega) | exact decide_eq_false (by first | assumption | omega) | with_reducible rfl) (nb rfl) ?_
              refine ow_eql rfl rfl ?_
              refine jl_guardY rfl (by first | assumption | exact decide_eq_true (by first | assumption | omega) | exact decide_eq_false (by first | assumption | omega) | with_reducible rfl) (nb rfl) ?_
              refine ow_pickF rfl (by first | assumption | exact decide_eq_true (by first | assumption | omega) | exact decide_eq_false (by first | assumption | omega) | with_reducible rfl) rfl ?_
              refine jl_op ?_ (nb rfl)
              refine ow_pickT rfl (by first | assumption | exact decide_eq_true (by first | assumption | omega) | exact decide_eq_false (by first | assumption | omega) | with_reducible rfl) rfl ?_
              refine jl_nil ?_
              refine jq_cut () [1, 0] trivial rfl ?_
              (repeat (first | exact True.intro | refine ⟨rfl, ?_⟩))
            · refine jc_region ?_
              refine jl_op ?_ (nb rfl)
              refine ow_fieldAddr rfl rfl rfl (nb rfl) ?_
              refine jl_op ?_ (nb rfl)
              refine ow_load 0 rfl rfl rfl rfl ?_
              refine jl_op ?_ (nb rfl)
              refine ow_eql rfl rfl ?_
              refine jl_op ?_ (nb rfl)
              refine ow_move rfl ?_
              refine jl_guardY rfl (by first | assumption | exact decide_eq_true (by first | assumption | omega) | exact decide_eq_false (by first | assumption | omega) | with_reducible rfl) (nb rfl) ?_
              refine ow_fieldAddr rfl rfl rfl (nb rfl) ?_
              refine jl_guardY rfl (by first | assumption | exact decide_eq_true (by first | assumption | omega) | exact decide_eq_false (by first | assumption | omega) | with_reducible rfl) (nb rfl) ?_
              refine ow_load 0 rfl rfl rfl rfl ?_
              refine jl_guardY rfl (by first | assumption | exact decide_eq_true (by first | assumption | omega) | exact decide_eq_false (by first | assumption | omega) | with_reducible rfl) (nb rfl) ?_
              refine ow_eql rfl rfl ?_
              refine jl_op ?_ (nb rfl)
              refine ow_pickF rfl (by first | assumption | exact decide_eq_true (by first | assumption | omega) | exact decide_eq_false (by first | assumption | omega) | with_reducible rfl) rfl ?_
              refine jl_op ?_ (nb rfl)
              refine ow_move rfl ?_
              refine jl_guardN rfl (by first | assumption | exact decide_eq_true (by first | assumption | omega) | exact decide_eq_false (by first | assumption | omega) | with_reducible rfl) (nb rfl) ?_
              refine jl_guardN rfl (by first | assumption | exact decide_eq_true (by first | assumption | omega) | exact decide_eq_false (by first | assumption | omega) | with_reducible rfl) (nb rfl) ?_
              refine jl_guardN rfl (by first | assumption | exact decide_eq_true (by first | assumption | omega) | exact decide_eq_false (by first | assumption | omega) | with_reducible rfl) (nb rfl) ?_
              refine jl_guardU rfl (nb rfl) ?_
              refine jl_guardU rfl (nb rfl) ?_
              refine jl_guardU rfl (nb rfl) ?_
              refine jl_guardU rfl (nb rfl) ?_
              refine jl_guardN rfl (by first | assumption | exact decide_eq_true (by first | assumption | omega) | exact decide_eq_false (by first | assumption | omega) | with_reducible rfl) (nb rfl) ?_
              refine jl_op ?_ (nb rfl)
              refine ow_pickF rfl (by first | assumption | exact decide_eq_true (by first | assumption | omega) | exact decide_eq_false (by first | assumption | omega) | with_reducible rfl) rfl ?_
              refine jl_nil ?_
              rw [show decide (l[k].kind = 3) = false from decide_eq_false h3]
              refine jq_cut () [1, 0] trivial rfl ?_
              (repeat (first | exact True.intro | refine ⟨rfl, ?_⟩))
        intro _ _
        refine jc_cut (ι := Value) [0, 1, 2, 8, 9] (fun _ => True) (fun v => [(7, .cell (.val v))]) (fun v => [.own v 3 1 (((l.take k).flatMap (rlOne (f + 1)) ++ rlSelf l[k]).map Irow), .blk bl 45 l[k].row']) ?_ ?_
        · have hself : (rlSelf l[k]).length ≤ (rlOne (f + 1) l[k]).length := by rw [e2]; simp only [List.length_append]; omega
          refine jc_condd rfl (fun hw => ?_) (fun hw => ?_)
          · have e1 : rlSelf l[k] = [l[k].label] := by simp [rlSelf, hw]
            rw [e1] at hself ⊢
            simp only [List.length_cons, List.length_nil] at hself
            refine jc_region ?_
            refine jl_op ?_ (nb rfl)
            refine ow_move rfl ?_
            refine jl_op ?_ (nb rfl)
            refine ow_fieldAddr rfl rfl rfl (nb rfl) ?_
            refine jl_op ?_ (nb rfl)
            refine ow_load 1 rfl rfl rfl rfl ?_
            refine jl_op ?_ (nb rfl)
            refine ow_buildSlice rfl rfl (nb rfl) rfl rfl (nb rfl) ?_
            refine jl_op (ow_append1 0 (l[k].label) rfl rfl rfl rfl rfl rfl rfl (fun _ => rfl) (by show (_ + _) * 8 ≤ _; first | omega | (simp only [List.length_append]; omega)) (by first | omega | (simp only [List.length_append]; omega)) (fun v1 hv1 => ?_)) (nb rfl)
            refine jl_op ?_ (nb rfl)
            refine ow_assign rfl ?_
            refine jl_nil ?_
            refine jq_cut v1 [0, 0] trivial rfl ?_
            (repeat (first | exact True.intro | refine ⟨rfl, ?_⟩))
          · have e1 : rlSelf l[k] = [] := by simp [rlSelf, hw]
            rw [e1, List.append_nil]
            refine jc_skip ?_
            refine jq_cut v [0, 0] trivial rfl ?_
            (repeat (first | exact True.intro | refine ⟨rfl, ?_⟩))
        · intro v1 _
          refine jc_seq ?_
          refine jc_region ?_
          refine jl_op ?_ (nb rfl)
          refine ow_move rfl ?_
          refine jl_op ?_ (nb rfl)
          refine ow_fieldAddr rfl rfl rfl (nb rfl) ?_
          refine jl_op ?_ (nb rfl)
          refine ow_load 1 rfl rfl rfl rfl ?_
          refine jl_op ?_ (nb rfl)
          refine ow_move rfl ?_
          refine jl_op ?_ (nb rfl)
          refine ow_add64 rfl rfl (by omega) ?_
          refine jl_op ?_ (nb rfl)
          refine ow_move rfl ?_
          refine jl_op ?_ (nb rfl)
          refine ow_call0 rfl (ih _ _ (by omega) (by omega) (by omega)) ?_
          refine jl_op (ow_appendM 0 rfl rfl rfl rfl rfl rfl rfl (fun _ => rfl) (by show (_ + _) * 8 ≤ _; first | omega | (simp only [List.length_append]; omega)) (by first | omega | (simp only [List.length_append]; omega)) (fun v2 hv2 => ?_)) (nb rfl)
          refine jl_op ?_ (nb rfl)
          refine ow_assign rfl ?_
          refine jl_nil ?_
          refine jq_then ?_
          refine jc_region ?_
          refine jl_op ?_ (nb rfl)
          refine ow_move rfl ?_
          refine jl_op ?_ (nb rfl)
          refine ow_fieldAddr rfl rfl rfl (nb rfl) ?_
          refine jl_op ?_ (nb rfl)
          refine ow_load 1 rfl rfl rfl rfl ?_
          refine jl_op ?_ (nb rfl)
          refine ow_move rfl ?_
          refine jl_op ?_ (nb rfl)
          refine ow_add64 rfl rfl (by omega) ?_
          refine jl_op ?_ (nb rfl)
          refine ow_move rfl ?_
          refine jl_op ?_ (nb rfl)
          refine ow_call0 rfl (ih _ _ (by omega) (by omega) (by omega)) ?_
          refine jl_op (ow_appendM 0 rfl rfl rfl rfl rfl rfl rfl (fun _ => rfl) (by show (_ + _) * 8 ≤ _; first | omega | (simp only [List.length_append]; omega)) (by first | omega | (simp only [List.length_append]; omega)) (fun v3 hv3 => ?_)) (nb rfl)
          refine jl_op ?_ (nb rfl)
          refine ow_assign rfl ?_
          refine jl_nil ?_
          refine jq_block ?_
          refine jq_then ?_
          refine jc_region ?_
          refine jl_op ?_ (nb rfl)
          refine ow_move rfl ?_
          refine jl_op ?_ (nb rfl)
          refine ow_add64 rfl rfl (by omega) ?_
          refine jl_op ?_ (nb rfl)
          refine ow_assign rfl ?_
          refine jl_nil ?_
          refine jq_again (i := (k, v)) (k + 1, v3) [0] hlt (by dsimp only; omega) (own_eq (congrArg (List.map Irow) ?_)) ?_
          · rw [flat_take hlt, e2]
            simp only [List.append_assoc]
          · (repeat (first | exact True.intro | refine ⟨rfl, ?_⟩))
      · refine jc_seq ?_
        refine jc_seq ?_
        refine jc_region ?_
        refine jl_op ?_ (nb rfl)
        refine ow_move rfl ?_
        refine jl_op ?_ (nb rfl)
        refine ow_move rfl ?_
        refine jl_op ?_ (nb rfl)
        refine ow_len rfl (fun hlen => ?_)
        refine jl_op ?_ (nb rfl)
        refine ow_lss rfl rfl ?_
        refine jl_op ?_ (nb rfl)
        refine ow_move rfl ?_
        refine jl_guardN rfl (by first | assumption | exact decide_eq_true (by first | assumption | omega) | exact decide_eq_false (by first | assumption | omega) | with_reducible rfl) (nb rfl) ?_
        refine jl_guardN rfl (by first | assumption | exact decide_eq_true (by first | assumption | omega) | exact decide_eq_false (by first | assumption | omega) | with_reducible rfl) (nb rfl) ?_
        refine jl_op ?_ (nb rfl)
        refine ow_pickF rfl (by first | assumption | exact decide_eq_true (by first | assumption | omega) | exact decide_eq_false (by first | assumption | omega) | with_reducible rfl) rfl ?_
        refine jl_nil ?_
        refine jq_then ?_
        refine jc_cond rfl (fun h => by cases h) (fun _ => ?_)
        refine jc_exit ?_
        refine jq_then_exit ?_
        refine jq_then_exit ?_
        refine jq_block_exit ?_
        refine jq_then ?_
        refine jc_seq ?_
        refine jc_region ?_
        refine jl_op ?_ (nb rfl)
        refine ow_move rfl ?_
        refine jl_op ?_ (nb rfl)
        refine ow_assign rfl ?_
        refine jl_nil ?_
        refine jq_then ?_
        refine jc_ret ?_
        simp only [List.length_map, Int.ofNat_lt] at hlt
        rw [List.take_of_length_le (Nat.le_of_not_lt hlt)]
        refine jq_freeze 6 0 rfl rfl (by rw [hc]; simp [hb]) ?_
        refine jq_ret1 rfl rfl [] rfl (fun K h => h)

def ifsOf (l : List Sm) : List Int := l.flatMap (rlOne 20)
theorem Ifs_c (l : List Sm) (h : (ifsOf l).length ≤ 1000000) : Con Try.prog 24 [.cell (.list (l.map Sm.row))] [] (fun K => K (.cell (.list ((ifsOf l).map Irow))) []) := by
  refine con_intro Try.func24 rfl rfl (Nat.le_of_ble_eq_true rfl) (fun c hc => ?_)
  refine jc_seq ?_
  refine jc_region ?_
  refine jl_op ?_ (nb rfl)
  refine ow_assign rfl ?_
  refine jl_nil ?_
  refine jq_then ?_
  refine jc_seq ?_
  refine jc_region ?_
  refine jl_op ?_ (nb rfl)
  refine ow_move rfl ?_
  refine jl_op ?_ (nb rfl)
  refine ow_call0 rfl (rlabels_c 20 _ _ (by omega) (by omega) h) ?_
  refine jl_op ?_ (nb rfl)
  refine ow_assign rfl ?_
  refine jl_nil ?_
  refine jq_then ?_
  refine jc_ret ?_
  refine jq_ret1 rfl rfl [] rfl (fun K h => h)
end Go.Proofs.Ytfnephpolfnmoaa
