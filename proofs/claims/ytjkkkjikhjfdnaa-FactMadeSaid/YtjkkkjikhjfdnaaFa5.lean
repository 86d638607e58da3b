import Derived.Test.YtjkkkjikhjfdnaaFa4
namespace Go.Proofs.Ytjkkkjikhjfdnaa
open Go.Vc
attribute [local irreducible] JL JC JQ OpWp Con ConN
attribute [local irreducible] isSmall isBlock
set_option maxHeartbeats 4000000

abbrev Lrow (l : List Int) : List C := [.list (l.map Irow)]
theorem idxI_c (F : FuncId) [FI Try.prog F] (p : Int → Bool) (hp : ∀ t, Con Try.prog F [In .i64 t] [] (fun K => K (Bl (p t)) [])) (l : List Int) :
    Con Try.prog 48 [.cell (.list (l.map Irow)), FV F] [] (fun K => K (In .i64 (idxOf p l)) []) := by
  have eL : (l.map Irow).length = l.length := List.length_map _
  refine con_intro Try.func48 rfl rfl (Nat.le_of_ble_eq_true rfl) (fun c hc => ?_)
  refine jc_seq ?_
  refine jc_region ?_
  refine jl_op ?_ (nb rfl)
  refine ow_assign rfl ?_
  refine jl_nil ?_
  refine jq_then ?_
  refine jc_seq ?_
  refine jc_seq ?_
  refine jc_region ?_
  refine jl_op ?_ (nb rfl)
  refine ow_move rfl ?_
  refine jl_op ?_ (nb rfl)
  refine ow_len rfl (fun hlen => ?_)
  refine jl_op ?_ (nb rfl)
  refine ow_move rfl ?_
  refine jl_nil ?_
  refine jq_then ?_
  refine jc_block ?_
  refine jc_loopS [] (fun k : Nat => k ≤ l.length ∧ ∀ j (hj : j < l.length), j < k → p l[j] = false) (fun k => [(0, .cell (.list (l.map Irow))), (1, FV F), (7, In .i64 ((l.map Irow).length : Int)), (8, In .i64 (k : Int))]) (fun _ => []) (fun k => l.length - k) 0 ⟨Nat.zero_le _, fun j _ h => by omega⟩ ?_ ?_ ?_
  · exact sub_end
  · (repeat (first | exact True.intro | refine ⟨rfl, ?_⟩))
  · rintro k ⟨hk, hno⟩
    refine jc_reset [(0, .cell (.list (l.map Irow))), (1, FV F), (7, In .i64 ((l.map Irow).length : Int)), (8, In .i64 (k : Int))] [] ?_ ⟨[], [], rfl⟩ ?_
    · (repeat (first | exact True.intro | refine ⟨rfl, ?_⟩))
    refine jc_seq ?_
    refine jc_region ?_
    refine jl_op ?_ (nb rfl)
    refine ow_lss rfl rfl ?_
    refine jl_nil ?_
    refine jq_then ?_
    refine jc_seq ?_
    refine jc_condd rfl (fun hlt => ?_) (fun hge => ?_)
    · have hlt' : k < l.length := by omega
      refine jc_skip ?_
      refine jq_then ?_
      refine jc_seq ?_
      refine jc_block ?_
      refine jc_seq ?_
      refine jc_region ?_
      refine jl_op ?_ (nb rfl)
      refine ow_move rfl ?_
      refine jl_op ?_ (nb rfl)
      refine ow_assign rfl ?_
      refine jl_nil ?_
      refine jq_then ?_
      refine jc_seq ?_
      refine jc_region ?_
      refine jl_op ?_ (nb rfl)
      refine ow_move rfl ?_
      refine jl_op ?_ (nb rfl)
      refine ow_move rfl ?_
      refine jl_op ?_ (nb rfl)
      refine ow_move rfl ?_
      refine jl_op ?_ (nb rfl)
      refine ow_indexAddrMapE rfl rfl (by omega) rfl rfl (nb rfl) ?_
      refine jl_op ?_ (nb rfl)
      refine ow_loadPlace rfl rfl ?_
      refine jl_op ?_ (nb rfl)
      refine ow_callv0 rfl rfl (hp _) ?_
      refine jl_nil ?_
      refine jq_then ?_
      refine jc_cond rfl (fun hb => ?_) (fun hb => ?_)
      · refine jc_seq ?_
        refine jc_region ?_
        refine jl_op ?_ (nb rfl)
        refine ow_move rfl ?_
        refine jl_op ?_ (nb rfl)
        refine ow_assign rfl ?_
        refine jl_nil ?_
        refine jq_then ?_
        refine jc_ret ?_
        refine jq_block_ret ?_
        refine jq_then_ret ?_
        refine jq_then_ret ?_
        refine jq_block_ret ?_
        refine jq_then_ret ?_
        refine jq_ret1 rfl rfl [] rfl (fun K h => by rw [idx_some hlt' hb hno] at h; exact h)
      · refine jc_skip ?_
        refine jq_block ?_
        refine jq_then ?_
        refine jc_region ?_
        refine jl_op ?_ (nb rfl)
        refine ow_add64 rfl rfl (by omega) ?_
        refine jl_op ?_ (nb rfl)
        refine ow_move rfl ?_
        refine jl_nil ?_
        refine jq_againS (k + 1) ⟨by omega, fun j hj hjk => ?_⟩ (by omega) ?_ ?_
        · by_cases e : j < k
          · exact hno j hj e
          · obtain rfl : j = k := by omega
            exact hb
        · exact sub_end
        · (repeat (first | exact True.intro | refine ⟨rfl, ?_⟩))
    · refine jc_exit ?_
      refine jq_then_exit ?_
      refine jq_then_exit ?_
      refine jq_block_exit ?_
      refine jq_then ?_
      refine jc_seq ?_
      refine jc_region ?_
      refine jl_op ?_ (nb rfl)
      refine ow_assign rfl ?_
      refine jl_nil ?_
      refine jq_then ?_
      refine jc_ret ?_
      refine jq_ret1 rfl rfl [] rfl (fun K h => by rw [idx_none (fun j hj => hno j hj (by omega))] at h; exact h)
theorem hasI_c (F : FuncId) [FI Try.prog F] (p : Int → Bool) (hp : ∀ t, Con Try.prog F [In .i64 t] [] (fun K => K (Bl (p t)) [])) (l : List Int) :
    Con Try.prog 28 [.cell (.list (l.map Irow)), FV F] [] (fun K => K (Bl (l.any p)) []) := by
  refine con_intro Try.func28 rfl rfl (Nat.le_of_ble_eq_true rfl) (fun c hc => ?_)
  refine jc_seq ?_
  refine jc_region ?_
  refine jl_op ?_ (nb rfl)
  refine ow_assign rfl ?_
  refine jl_nil ?_
  refine jq_then ?_
  refine jc_seq ?_
  refine jc_region ?_
  refine jl_op ?_ (nb rfl)
  refine ow_move rfl ?_
  refine jl_op ?_ (nb rfl)
  refine ow_move rfl ?_
  refine jl_op ?_ (nb rfl)
  refine ow_call0 rfl (idxI_c F p hp l) ?_
  refine jl_op ?_ (nb rfl)
  refine ow_geq rfl rfl ?_
  refine jl_op ?_ (nb rfl)
  refine ow_assign rfl ?_
  refine jl_nil ?_
  refine jq_then ?_
  refine jc_ret ?_
  refine jq_ret1 rfl rfl [] rfl (fun K h => by rw [← idx_any] at h; exact h)
theorem idxL_c (F : FuncId) [FI Try.prog F] (p : List Int → Bool) (hp : ∀ t : List Int, Con Try.prog F [.cell (.list (t.map Irow))] [] (fun K => K (Bl (p t)) [])) (l : List (List Int)) :
    Con Try.prog 57 [.cell (.list (l.map Lrow)), FV F] [] (fun K => K (In .i64 (idxOf p l)) []) := by
  have eL : (l.map Lrow).length = l.length := List.length_map _
  refine con_intro Try.func57 rfl rfl (Nat.le_of_ble_eq_true rfl) (fun c hc => ?_)
  refine jc_seq ?_
  refine jc_region ?_
  refine jl_op ?_ (nb rfl)
  refine ow_assign rfl ?_
  refine jl_nil ?_
  refine jq_then ?_
  refine jc_seq ?_
  refine jc_seq ?_
  refine jc_region ?_
  refine jl_op ?_ (nb rfl)
  refine ow_move rfl ?_
  refine jl_op ?_ (nb rfl)
  refine ow_len rfl (fun hlen => ?_)
  refine jl_op ?_ (nb rfl)
  refine ow_move rfl ?_
  refine jl_nil ?_
  refine jq_then ?_
  refine jc_block ?_
  refine jc_loopS [] (fun k : Nat => k ≤ l.length ∧ ∀ j (hj : j < l.length), j < k → p l[j] = false) (fun k => [(0, .cell (.list (l.map Lrow))), (1, FV F), (7, In .i64 ((l.map Lrow).length : Int)), (8, In .i64 (k : Int))]) (fun _ => []) (fun k => l.length - k) 0 ⟨Nat.zero_le _, fun j _ h => by omega⟩ ?_ ?_ ?_
  · exact sub_end
  · (repeat (first | exact True.intro | refine ⟨rfl, ?_⟩))
  · rintro k ⟨hk, hno⟩
    refine jc_reset [(0, .cell (.list (l.map Lrow))), (1, FV F), (7, In .i64 ((l.map Lrow).length : Int)), (8, In .i64 (k : Int))] [] ?_ ⟨[], [], rfl⟩ ?_
    · (repeat (first | exact True.intro | refine ⟨rfl, ?_⟩))
    refine jc_seq ?_
    refine jc_region ?_
    refine jl_op ?_ (nb rfl)
    refine ow_lss rfl rfl ?_
    refine jl_nil ?_
    refine jq_then ?_
    refine jc_seq ?_
    refine jc_condd rfl (fun hlt => ?_) (fun hge => ?_)
    · have hlt' : k < l.length := by omega
      refine jc_skip ?_
      refine jq_then ?_
      refine jc_seq ?_
      refine jc_block ?_
      refine jc_seq ?_
      refine jc_region ?_
      refine jl_op ?_ (nb rfl)
      refine ow_move rfl ?_
      refine jl_op ?_ (nb rfl)
      refine ow_assign rfl ?_
      refine jl_nil ?_
      refine jq_then ?_
      refine jc_seq ?_
      refine jc_region ?_
      refine jl_op ?_ (nb rfl)
      refine ow_move rfl ?_
      refine jl_op ?_ (nb rfl)
      refine ow_move rfl ?_
      refine jl_op ?_ (nb rfl)
      refine ow_move rfl ?_
      refine jl_op ?_ (nb rfl)
      refine ow_indexAddrMapE rfl rfl (by omega) rfl rfl (nb rfl) ?_
      refine jl_op ?_ (nb rfl)
      refine ow_loadPlace rfl rfl ?_
      refine jl_op ?_ (nb rfl)
      refine ow_callv0 rfl rfl (hp _) ?_
      refine jl_nil ?_
      refine jq_then ?_
      refine jc_cond rfl (fun hb => ?_) (fun hb => ?_)
      · refine jc_seq ?_
        refine jc_region ?_
        refine jl_op ?_ (nb rfl)
        refine ow_move rfl ?_
        refine jl_op ?_ (nb rfl)
        refine ow_assign rfl ?_
        refine jl_nil ?_
        refine jq_then ?_
        refine jc_ret ?_
        refine jq_block_ret ?_
        refine jq_then_ret ?_
        refine jq_then_ret ?_
        refine jq_block_ret ?_
        refine jq_then_ret ?_
        refine jq_ret1 rfl rfl [] rfl (fun K h => by rw [idx_some hlt' hb hno] at h; exact h)
      · refine jc_skip ?_
        refine jq_block ?_
        refine jq_then ?_
        refine jc_region ?_
        refine jl_op ?_ (nb rfl)
        refine ow_add64 rfl rfl (by omega) ?_
        refine jl_op ?_ (nb rfl)
        refine ow_move rfl ?_
        refine jl_nil ?_
        refine jq_againS (k + 1) ⟨by omega, fun j hj hjk => ?_⟩ (by omega) ?_ ?_
        · by_cases e : j < k
          · exact hno j hj e
          · obtain rfl : j = k := by omega
            exact hb
        · exact sub_end
        · (repeat (first | exact True.intro | refine ⟨rfl, ?_⟩))
    · refine jc_exit ?_
      refine jq_then_exit ?_
      refine jq_then_exit ?_
      refine jq_block_exit ?_
      refine jq_then ?_
      refine jc_seq ?_
      refine jc_region ?_
      refine jl_op ?_ (nb rfl)
      refine ow_assign rfl ?_
      refine jl_nil ?_
      refine jq_then ?_
      refine jc_ret ?_
      refine jq_ret1 rfl rfl [] rfl (fun K h => by rw [idx_none (fun j hj => hno j hj (by omega))] at h; exact h)
theorem hasL_c (F : FuncId) [FI Try.prog F] (p : List Int → Bool) (hp : ∀ t : List Int, Con Try.prog F [.cell (.list (t.map Irow))] [] (fun K => K (Bl (p t)) [])) (l : List (List Int)) :
    Con Try.prog 45 [.cell (.list (l.map Lrow)), FV F] [] (fun K => K (Bl (l.any p)) []) := by
  refine con_intro Try.func45 rfl rfl (Nat.le_of_ble_eq_true rfl) (fun c hc => ?_)
  refine jc_seq ?_
  refine jc_region ?_
  refine jl_op ?_ (nb rfl)
  refine ow_assign rfl ?_
  refine jl_nil ?_
  refine jq_then ?_
  refine jc_seq ?_
  refine jc_region ?_
  refine jl_op ?_ (nb rfl)
  refine ow_move rfl ?_
  refine jl_op ?_ (nb rfl)
  refine ow_move rfl ?_
  refine jl_op ?_ (nb rfl)
  refine ow_call0 rfl (idxL_c F p hp l) ?_
  refine jl_op ?_ (nb rfl)
  refine ow_geq rfl rfl ?_
  refine jl_op ?_ (nb rfl)
  refine ow_assign rfl ?_
  refine jl_nil ?_
  refine jq_then ?_
  refine jc_ret ?_
  refine jq_ret1 rfl rfl [] rfl (fun K h => by rw [← idx_any] at h; exact h)

def sumBad (n : Int) : Bool := decide (n < 0) || decide (2147483648 < n)
theorem sum1_c (n : Int) : Con Try.prog 29 [In .i64 n] [] (fun K => K (Bl (sumBad n)) []) := by
  by_cases h : n < 0
  · refine con_intro Try.func29 rfl rfl (Nat.le_of_ble_eq_true rfl) (fun c hc => ?_)
    refine jc_seq ?_
    refine jc_region ?_
    refine jl_op ?_ (nb rfl)
    refine ow_assign rfl ?_
    refine jl_nil ?_
    refine jq_then ?_
    refine jc_seq ?_
    refine jc_region ?_
    refine jl_op ?_ (nb rfl)
    refine ow_move rfl ?_
    refine jl_op ?_ (nb rfl)
    refine ow_lss rfl rfl ?_
    refine jl_op ?_ (nb rfl)
    refine ow_move rfl ?_
    refine jl_guardN rfl (by first | assumption | exact decide_eq_true rfl | exact decide_eq_true (by first | assumption | omega) | exact decide_eq_false (by first | assumption | omega) | with_reducible rfl | exact (rfl : false = !true) | exact (rfl : true = !false)) (nb rfl) ?_
    refine jl_guardN rfl (by first | assumption | exact decide_eq_true rfl | exact decide_eq_true (by first | assumption | omega) | exact decide_eq_false (by first | assumption | omega) | with_reducible rfl | exact (rfl : false = !true) | exact (rfl : true = !false)) (nb rfl) ?_
    refine jl_op ?_ (nb rfl)
    refine ow_pickT rfl (by first | assumption | exact decide_eq_true rfl | exact decide_eq_true (by first | assumption | omega) | exact decide_eq_false (by first | assumption | omega) | with_reducible rfl | exact (rfl : false = !true) | exact (rfl : true = !false)) rfl ?_
    refine jl_op ?_ (nb rfl)
    refine ow_assign rfl ?_
    refine jl_nil ?_
    refine jq_then ?_
    refine jc_ret ?_
    refine jq_ret1 rfl rfl [] rfl (fun K h' => by rw [show sumBad n = true by simp [sumBad, h]] at h'; exact h')
  · refine con_intro Try.func29 rfl rfl (Nat.le_of_ble_eq_true rfl) (fun c hc => ?_)
    refine jc_seq ?_
    refine jc_region ?_
    refine jl_op ?_ (nb rfl)
    refine ow_assign rfl ?_
    refine jl_nil ?_
    refine jq_then ?_
    refine jc_seq ?_
    refine jc_region ?_
    refine jl_op ?_ (nb rfl)
    refine ow_move rfl ?_
    refine jl_op ?_ (nb rfl)
    refine ow_lss rfl rfl ?_
    refine jl_op ?_ (nb rfl)
    refine ow_move rfl ?_
    refine jl_guardY rfl (by first | assumption | exact decide_eq_true rfl | exact decide_eq_true (by first | assumption | omega) | exact decide_eq_false (by first | assumption | omega) | with_reducible rfl | exact (rfl : false = !true) | exact (rfl : true = !false)) (nb rfl) ?_
    refine ow_move rfl ?_
    refine jl_guardY rfl (by first | assumption | exact decide_eq_true rfl | exact decide_eq_true (by first | assumption | omega) | exact decide_eq_false (by first | assumption | omega) | with_reducible rfl | exact (rfl : false = !true) | exact (rfl : true = !false)) (nb rfl) ?_
    refine ow_gtr rfl rfl ?_
    refine jl_op ?_ (nb rfl)
    refine ow_pickF rfl (by first | assumption | exact decide_eq_true rfl | exact decide_eq_true (by first | assumption | omega) | exact decide_eq_false (by first | assumption | omega) | with_reducible rfl | exact (rfl : false = !true) | exact (rfl : true = !false)) rfl ?_
    refine jl_op ?_ (nb rfl)
    refine ow_assign rfl ?_
    refine jl_nil ?_
    refine jq_then ?_
    refine jc_ret ?_
    refine jq_ret1 rfl rfl [] rfl (fun K h' => by rw [show sumBad n = decide (2147483648 < n) by simp [sumBad, h]] at h'; exact h')
theorem map11_c (n : Int) : Con Try.prog 47 [In .i64 n] [] (fun K => K (Bl (!isBlock n)) []) := by
  refine con_intro Try.func47 rfl rfl (Nat.le_of_ble_eq_true rfl) (fun c hc => ?_)
  refine jc_seq ?_
  refine jc_region ?_
  refine jl_op ?_ (nb rfl)
  refine ow_assign rfl ?_
  refine jl_nil ?_
  refine jq_then ?_
  refine jc_seq ?_
  refine jc_region ?_
  refine jl_op ?_ (nb rfl)
  refine ow_move rfl ?_
  refine jl_op ?_ (nb rfl)
  refine ow_call0 rfl (block_c _) ?_
  refine jl_op ?_ (nb rfl)
  refine ow_not rfl ?_
  refine jl_op ?_ (nb rfl)
  refine ow_assign rfl ?_
  refine jl_nil ?_
  refine jq_then ?_
  refine jc_ret ?_
  refine jq_ret1 rfl rfl [] rfl (fun K h' => h')
def badList (l : List Int) : Bool := decide (256 < l.length) || l.any (fun n => !isBlock n)
theorem map1_c (l : List Int) : Con Try.prog 46 [.cell (.list (l.map Irow))] [] (fun K => K (Bl (badList l)) []) := by
  have eL : (l.map Irow).length = l.length := List.length_map _
  by_cases h : (256 : Int) < ((l.map Irow).length : Int)
  · refine con_intro Try.func46 rfl rfl (Nat.le_of_ble_eq_true rfl) (fun c hc => ?_)
    refine jc_seq ?_
    refine jc_region ?_
    refine jl_op ?_ (nb rfl)
    refine ow_assign rfl ?_
    refine jl_nil ?_
    refine jq_then ?_
    refine jc_seq ?_
    refine jc_region ?_
    refine jl_op ?_ (nb rfl)
    refine ow_move rfl ?_
    refine jl_op ?_ (nb rfl)
    refine ow_len rfl (fun hlen => ?_)
    refine jl_op ?_ (nb rfl)
    refine ow_gtr rfl rfl ?_
    refine jl_op ?_ (nb rfl)
    refine ow_move rfl ?_
    refine jl_guardN rfl (by first | assumption | exact decide_eq_true rfl | exact decide_eq_true (by first | assumption | omega) | exact decide_eq_false (by first | assumption | omega) | with_reducible rfl | exact (rfl : false = !true) | exact (rfl : true = !false)) (nb rfl) ?_
    refine jl_guardN rfl (by first | assumption | exact decide_eq_true rfl | exact decide_eq_true (by first | assumption | omega) | exact decide_eq_false (by first | assumption | omega) | with_reducible rfl | exact (rfl : false = !true) | exact (rfl : true = !false)) (nb rfl) ?_
    refine jl_op ?_ (nb rfl)
    refine ow_pickT rfl (by first | assumption | exact decide_eq_true rfl | exact decide_eq_true (by first | assumption | omega) | exact decide_eq_false (by first | assumption | omega) | with_reducible rfl | exact (rfl : false = !true) | exact (rfl : true = !false)) rfl ?_
    refine jl_op ?_ (nb rfl)
    refine ow_assign rfl ?_
    refine jl_nil ?_
    refine jq_then ?_
    refine jc_ret ?_
    refine jq_ret1 rfl rfl [] rfl (fun K h' => by rw [show badList l = true by unfold badList; rw [decide_eq_true (show 256 < l.length by omega)]; rfl] at h'; exact h')
  · refine con_intro Try.func46 rfl rfl (Nat.le_of_ble_eq_true rfl) (fun c hc => ?_)
    refine jc_seq ?_
    refine jc_region ?_
    refine jl_op ?_ (nb rfl)
    refine ow_assign rfl ?_
    refine jl_nil ?_
    refine jq_then ?_
    refine jc_seq ?_
    refine jc_region ?_
    refine jl_op ?_ (nb rfl)
    refine ow_move rfl ?_
    refine jl_op ?_ (nb rfl)
    refine ow_len rfl (fun hlen => ?_)
    refine jl_op ?_ (nb rfl)
    refine ow_gtr rfl rfl ?_
    refine jl_op ?_ (nb rfl)
    refine ow_move rfl ?_
    refine jl_guardY rfl (by first | assumption | exact decide_eq_true rfl | exact decide_eq_true (by first | assumption | omega) | exact decide_eq_false (by first | assumption | omega) | with_reducible rfl | exact (rfl : false = !true) | exact (rfl : true = !false)) (nb rfl) ?_
    refine ow_move rfl ?_
    refine jl_guardY rfl (by first | assumption | exact decide_eq_true rfl | exact decide_eq_true (by first | assumption | omega) | exact decide_eq_false (by first | assumption | omega) | with_reducible rfl | exact (rfl : false = !true) | exact (rfl : true = !false)) (nb rfl) ?_
    refine ow_call0 rfl (hasI_c _ _ map11_c l) ?_
    refine jl_op ?_ (nb rfl)
    refine ow_pickF rfl (by first | assumption | exact decide_eq_true rfl | exact decide_eq_true (by first | assumption | omega) | exact decide_eq_false (by first | assumption | omega) | with_reducible rfl | exact (rfl : false = !true) | exact (rfl : true = !false)) rfl ?_
    refine jl_op ?_ (nb rfl)
    refine ow_assign rfl ?_
    refine jl_nil ?_
    refine jq_then ?_
    refine jc_ret ?_
    refine jq_ret1 rfl rfl [] rfl (fun K h' => by rw [show badList l = l.any (fun n => !isBlock n) by unfold badList; rw [decide_eq_false (show ¬ 256 < l.length by omega)]; rfl] at h'; exact h')
def mappedF (to : List (List Int)) : Bool := decide (to.length ≤ 256) && !to.any badList
theorem mapped_c (to : List (List Int)) : Con Try.prog 27 [.cell (.list (to.map Lrow))] [] (fun K => K (Bl (mappedF to)) []) := by
  have eL : (to.map Lrow).length = to.length := List.length_map _
  by_cases h : ((to.map Lrow).length : Int) ≤ 256
  · refine con_intro Try.func27 rfl rfl (Nat.le_of_ble_eq_true rfl) (fun c hc => ?_)
    refine jc_seq ?_
    refine jc_region ?_
    refine jl_op ?_ (nb rfl)
    refine ow_assign rfl ?_
    refine jl_nil ?_
    refine jq_then ?_
    refine jc_seq ?_
    refine jc_region ?_
    refine jl_op ?_ (nb rfl)
    refine ow_move rfl ?_
    refine jl_op ?_ (nb rfl)
    refine ow_len rfl (fun hlen => ?_)
    refine jl_op ?_ (nb rfl)
    refine ow_leq rfl rfl ?_
    refine jl_op ?_ (nb rfl)
    refine ow_move rfl ?_
    refine jl_guardY rfl (by first | assumption | exact decide_eq_true rfl | exact decide_eq_true (by first | assumption | omega) | exact decide_eq_false (by first | assumption | omega) | with_reducible rfl | exact (rfl : false = !true) | exact (rfl : true = !false)) (nb rfl) ?_
    refine ow_move rfl ?_
    refine jl_guardY rfl (by first | assumption | exact decide_eq_true rfl | exact decide_eq_true (by first | assumption | omega) | exact decide_eq_false (by first | assumption | omega) | with_reducible rfl | exact (rfl : false = !true) | exact (rfl : true = !false)) (nb rfl) ?_
    refine ow_call0 rfl (hasL_c _ _ map1_c to) ?_
    refine jl_guardY rfl (by first | assumption | exact decide_eq_true rfl | exact decide_eq_true (by first | assumption | omega) | exact decide_eq_false (by first | assumption | omega) | with_reducible rfl | exact (rfl : false = !true) | exact (rfl : true = !false)) (nb rfl) ?_
    refine ow_not rfl ?_
    refine jl_op ?_ (nb rfl)
    refine ow_pickT rfl (by first | assumption | exact decide_eq_true rfl | exact decide_eq_true (by first | assumption | omega) | exact decide_eq_false (by first | assumption | omega) | with_reducible rfl | exact (rfl : false = !true) | exact (rfl : true = !false)) rfl ?_
    refine jl_op ?_ (nb rfl)
    refine ow_assign rfl ?_
    refine jl_nil ?_
    refine jq_then ?_
    refine jc_ret ?_
    refine jq_ret1 rfl rfl [] rfl (fun K h' => by rw [show mappedF to = !to.any badList by unfold mappedF; rw [decide_eq_true (show to.length ≤ 256 by omega)]; rfl] at h'; exact h')
  · refine con_intro Try.func27 rfl rfl (Nat.le_of_ble_eq_true rfl) (fun c hc => ?_)
    refine jc_seq ?_
    refine jc_region ?_
    refine jl_op ?_ (nb rfl)
    refine ow_assign rfl ?_
    refine jl_nil ?_
    refine jq_then ?_
    refine jc_seq ?_
    refine jc_region ?_
    refine jl_op ?_ (nb rfl)
    refine ow_move rfl ?_
    refine jl_op ?_ (nb rfl)
    refine ow_len rfl (fun hlen => ?_)
    refine jl_op ?_ (nb rfl)
    refine ow_leq rfl rfl ?_
    refine jl_op ?_ (nb rfl)
    refine ow_move rfl ?_
    refine jl_guardN rfl (by first | assumption | exact decide_eq_true rfl | exact decide_eq_true (by first | assumption | omega) | exact decide_eq_false (by first | assumption | omega) | with_reducible rfl | exact (rfl : false = !true) | exact (rfl : true = !false)) (nb rfl) ?_
    refine jl_guardN rfl (by first | assumption | exact decide_eq_true rfl | exact decide_eq_true (by first | assumption | omega) | exact decide_eq_false (by first | assumption | omega) | with_reducible rfl | exact (rfl : false = !true) | exact (rfl : true = !false)) (nb rfl) ?_
    refine jl_guardN rfl (by first | assumption | exact decide_eq_true rfl | exact decide_eq_true (by first | assumption | omega) | exact decide_eq_false (by first | assumption | omega) | with_reducible rfl | exact (rfl : false = !true) | exact (rfl : true = !false)) (nb rfl) ?_
    refine jl_op ?_ (nb rfl)
    refine ow_pickF rfl (by first | assumption | exact decide_eq_true rfl | exact decide_eq_true (by first | assumption | omega) | exact decide_eq_false (by first | assumption | omega) | with_reducible rfl | exact (rfl : false = !true) | exact (rfl : true = !false)) rfl ?_
    refine jl_op ?_ (nb rfl)
    refine ow_assign rfl ?_
    refine jl_nil ?_
    refine jq_then ?_
    refine jc_ret ?_
    refine jq_ret1 rfl rfl [] rfl (fun K h' => by rw [show mappedF to = false by unfold mappedF; rw [decide_eq_false (show ¬ to.length ≤ 256 by omega)]; rfl] at h'; exact h')

/-! Valid facts -/
structure Valid (f : Fct) : Prop where
  len : f.terms.length ≤ 64
  ok : ∀ t ∈ f.terms, badT t = false ∧ t.2 ≠ 0
  strict : Strict f.terms
  most : isSmall f.most = true
theorem valid_of {f : Fct} (h : checkF f = 0) : Valid f := by
  unfold checkF at h
  split at h
  · cases h
  · rename_i h1
    split at h
    · cases h
    · rename_i h2
      split at h
      · cases h
      · rename_i h3
        have ht : termsOk f.terms = true := by simpa using h2
        have hat : ∀ i (hi : i < f.terms.length), goodAt f.terms i = true := fun i hi => List.all_eq_true.1 ht i (List.mem_range.2 hi)
        refine ⟨by omega, fun t htm => ?_, ?_, by simpa using h3⟩
        · obtain ⟨i, hi, rfl⟩ := List.mem_iff_getElem.1 htm
          have := hat i hi
          rw [goodAt_eq hi] at this
          simp only [Bool.and_eq_true] at this
          obtain ⟨⟨⟨g1, g2⟩, g3⟩, _⟩ := this
          refine ⟨by unfold badT; rw [g1, g2]; rfl, by simpa [zeroT] using g3⟩
        · have step : ∀ i (hi : i + 1 < f.terms.length), f.terms[i].1 < f.terms[i + 1].1 := by
            intro i hi
            have := hat (i + 1) hi
            rw [goodAt_eq hi] at this
            simp only [Bool.and_eq_true, Bool.or_eq_true, decide_eq_true_eq] at this
            have h4 := this.2.resolve_left (by omega)
            rw [Nat.add_sub_cancel, List.getD_eq_getElem?_getD, List.getElem?_eq_getElem (by omega)] at h4
            exact h4
          refine List.pairwise_iff_getElem.2 (fun i j hi hj hij => ?_)
          obtain ⟨d, rfl⟩ : ∃ d, j = i + 1 + d := ⟨j - i - 1, by omega⟩
          clear hij
          induction d with
          | zero => exact step i hj
          | succ d ih =>
            have := ih (by omega)
            have := step (i + 1 + d) hj
            have e : f.terms[i + 1 + (d + 1)].1 = f.terms[i + 1 + d + 1].1 := rfl
            omega
theorem valid_to {f : Fct} (h : Valid f) : checkF f = 0 := by
  have ht : termsOk f.terms = true := termsOk_yes (fun i hi => by
    have hm := h.ok f.terms[i] (List.getElem_mem hi)
    have hb := hm.1
    unfold badT at hb
    rw [Bool.or_eq_false_iff] at hb
    rw [goodAt_eq hi, show isBlock f.terms[i].1 = true by simpa using hb.1, show isSmall f.terms[i].2 = true by simpa using hb.2, show zeroT f.terms[i] = false from decide_eq_false hm.2]
    by_cases h0 : i = 0
    · rw [decide_eq_true h0]; rfl
    · have := List.pairwise_iff_getElem.1 h.strict (i - 1) i (by omega) hi (by omega)
      have e : f.terms.getD (i - 1) (0, 0) = f.terms[i - 1] := by rw [List.getD_eq_getElem?_getD, List.getElem?_eq_getElem (by omega), Option.getD_some]
      rw [e, decide_eq_true this, Bool.or_true]
      rfl)
  unfold checkF
  rw [if_neg (by have := h.len; omega), ht, if_neg (by decide), h.most, if_neg (by decide)]

/-! Sums -/
def tmV (l : List Int) (t : Tm) : Int := if t.1 < (l.length : Int) then t.2 * l.getD t.1.toNat 0 else 0
def sumT : List Tm → List Int → Int
  | [], _ => 0
  | t :: r, l => tmV l t + sumT r l
theorem sumT_append (a b : List Tm) (l : List Int) : sumT (a ++ b) l = sumT a l + sumT b l := by
  induction a with
  | nil => simp [sumT]
  | cons t a ih => simp only [List.cons_append, sumT, ih]; omega
def sumF (f : Fct) (l : List Int) : Int × Int := if checkF f ≠ 0 then (0, checkF f) else if (decide (256 < l.length) || l.any sumBad) = true then (0, 3) else (sumT f.terms l, 0)
theorem tmV_bd {l : List Int} {t : Tm} (h0 : 0 ≤ t.1) (ht : -1048576 ≤ t.2 ∧ t.2 ≤ 1048576) (hl : l.any sumBad = false) : -2251799813685248 ≤ tmV l t ∧ tmV l t ≤ 2251799813685248 := by
  unfold tmV
  split
  · rename_i hlt
    have hx : t.1.toNat < l.length := by omega
    rw [List.getD_eq_getElem?_getD, List.getElem?_eq_getElem hx, Option.getD_some]
    have := List.any_eq_false.1 hl l[t.1.toNat] (List.getElem_mem hx)
    generalize l[t.1.toNat] = x at this ⊢
    have hx2 : 0 ≤ x ∧ x ≤ 2147483648 := by
      unfold sumBad at this
      simp only [Bool.or_eq_true, decide_eq_true_eq, not_or, Int.not_lt] at this
      omega
    have h1 : t.2 * x ≤ 1048576 * x := Int.mul_le_mul_of_nonneg_right ht.2 hx2.1
    have h2 : -1048576 * x ≤ t.2 * x := Int.mul_le_mul_of_nonneg_right ht.1 hx2.1
    omega
  · omega
theorem Sum_c (f : Fct) (l : List Int) : Con Try.prog 16 [.row (FR f), .cell (.list (l.map Irow))] [] (fun K => K (.tup [In .i64 (sumF f l).1, In .i64 (sumF f l).2]) []) := by
  have eT : (f.terms.map TR).length = f.terms.length := List.length_map _
  have eL : (l.map Irow).length = l.length := List.length_map _
  have hC := Check_c f
  refine con_intro Try.func16 rfl rfl (Nat.le_of_ble_eq_true rfl) (fun c hc => ?_)
  refine jc_seq ?_
  refine jc_region ?_
  refine jl_op ?_ (nb rfl)
  refine ow_box rfl (fun bx => ?_)
  refine jl_op ?_ (nb rfl)
  refine ow_assign rfl ?_
  refine jl_op ?_ (nb rfl)
  refine ow_assign rfl ?_
  refine jl_nil ?_
  refine jq_then ?_
  refine jc_seq ?_
  refine jc_seq ?_
  refine jc_region ?_
  refine jl_op ?_ (nb rfl)
  refine ow_loadAll 0 rfl rfl rfl rfl ?_
  refine jl_op ?_ (nb rfl)
  refine ow_call0 rfl (hC) ?_
  refine jl_op ?_ (nb rfl)
  refine ow_assign rfl ?_
  refine jl_nil ?_
  refine jq_then ?_
  refine jc_seq ?_
  refine jc_region ?_
  refine jl_op ?_ (nb rfl)
  refine ow_move rfl ?_
  refine jl_op ?_ (nb rfl)
  refine ow_neq rfl rfl ?_
  refine jl_nil ?_
  refine jq_then ?_
  refine jc_condd rfl (fun hne => ?_) (fun heq => ?_)
  · have e : sumF f l = (0, checkF f) := by unfold sumF; rw [if_pos hne]
    refine jc_seq ?_
    refine jc_region ?_
    refine jl_op ?_ (nb rfl)
    refine ow_move rfl ?_
    refine jl_op ?_ (nb rfl)
    refine ow_assign rfl ?_
    refine jl_op ?_ (nb rfl)
    refine ow_assign rfl ?_
    refine jl_nil ?_
    refine jq_then ?_
    refine jc_ret ?_
    refine jq_then_ret ?_
    refine jq_ret2 rfl rfl rfl [] rfl (fun K h => by rw [e] at h; exact h)
  · have h0 : checkF f = 0 := by omega
    have hv := valid_of h0
    have bad : (decide (256 < l.length) || l.any sumBad) = true → sumF f l = (0, 3) := fun h => by unfold sumF; rw [if_neg (by omega), if_pos h]
    by_cases h256 : (256 : Int) < ((l.map Irow).length : Int)
    · have e := bad (by rw [decide_eq_true (show 256 < l.length by omega)]; rfl)
      refine jc_skip ?_
      refine jq_then ?_
      refine jc_seq ?_
      refine jc_seq ?_
      refine jc_region ?_
      refine jl_op ?_ (nb rfl)
      refine ow_move rfl ?_
      refine jl_op ?_ (nb rfl)
      refine ow_len rfl (fun hlen => ?_)
      refine jl_op ?_ (nb rfl)
      refine ow_gtr rfl rfl ?_
      refine jl_op ?_ (nb rfl)
      refine ow_move rfl ?_
      refine jl_guardN rfl (by first | assumption | exact decide_eq_true rfl | exact decide_eq_true (by first | assumption | omega) | exact decide_eq_false (by first | assumption | omega) | with_reducible rfl | exact (rfl : false = !true) | exact (rfl : true = !false)) (nb rfl) ?_
      refine jl_guardN rfl (by first | assumption | exact decide_eq_true rfl | exact decide_eq_true (by first | assumption | omega) | exact decide_eq_false (by first | assumption | omega) | with_reducible rfl | exact (rfl : false = !true) | exact (rfl : true = !false)) (nb rfl) ?_
      refine jl_op ?_ (nb rfl)
      refine ow_pickT rfl (by first | assumption | exact decide_eq_true rfl | exact decide_eq_true (by first | assumption | omega) | exact decide_eq_false (by first | assumption | omega) | with_reducible rfl | exact (rfl : false = !true) | exact (rfl : true = !false)) rfl ?_
      refine jl_nil ?_
      refine jq_then ?_
      refine jc_cond rfl (fun _ => ?_) (fun h => by cases h)
      refine jc_seq ?_
      refine jc_region ?_
      refine jl_op ?_ (nb rfl)
      refine ow_assign rfl ?_
      refine jl_op ?_ (nb rfl)
      refine ow_assign rfl ?_
      refine jl_nil ?_
      refine jq_then ?_
      refine jc_ret ?_
      refine jq_then_ret ?_
      refine jq_ret2 rfl rfl rfl [] rfl (fun K h => by rw [e] at h; exact h)
    · refine jc_skip ?_
      refine jq_then ?_
      refine jc_seq ?_
      refine jc_seq ?_
      refine jc_region ?_
      refine jl_op ?_ (nb rfl)
      refine ow_move rfl ?_
      refine jl_op ?_ (nb rfl)
      refine ow_len rfl (fun hlen => ?_)
      refine jl_op ?_ (nb rfl)
      refine ow_gtr rfl rfl ?_
      refine jl_op ?_ (nb rfl)
      refine ow_move rfl ?_
      refine jl_guardY rfl (by first | assumption | exact decide_eq_true rfl | exact decide_eq_true (by first | assumption | omega) | exact decide_eq_false (by first | assumption | omega) | with_reducible rfl | exact (rfl : false = !true) | exact (rfl : true = !false)) (nb rfl) ?_
      refine ow_move rfl ?_
      refine jl_guardY rfl (by first | assumption | exact decide_eq_true rfl | exact decide_eq_true (by first | assumption | omega) | exact decide_eq_false (by first | assumption | omega) | with_reducible rfl | exact (rfl : false = !true) | exact (rfl : true = !false)) (nb rfl) ?_
      refine ow_call0 rfl (hasI_c _ _ sum1_c l) ?_
      refine jl_op ?_ (nb rfl)
      refine ow_pickF rfl (by first | assumption | exact decide_eq_true rfl | exact decide_eq_true (by first | assumption | omega) | exact decide_eq_false (by first | assumption | omega) | with_reducible rfl | exact (rfl : false = !true) | exact (rfl : true = !false)) rfl ?_
      refine jl_nil ?_
      refine jq_then ?_
      refine jc_cond rfl (fun hb => ?_) (fun hb => ?_)
      · have e := bad (by rw [hb, Bool.or_true])
        refine jc_seq ?_
        refine jc_region ?_
        refine jl_op ?_ (nb rfl)
        refine ow_assign rfl ?_
        refine jl_op ?_ (nb rfl)
        refine ow_assign rfl ?_
        refine jl_nil ?_
        refine jq_then ?_
        refine jc_ret ?_
        refine jq_then_ret ?_
        refine jq_ret2 rfl rfl rfl [] rfl (fun K h => by rw [e] at h; exact h)
      · have e : sumF f l = (sumT f.terms l, 0) := by unfold sumF; rw [if_neg (by omega), hb, decide_eq_false (show ¬ 256 < l.length by omega), if_neg (by decide)]
        have hlen64 := hv.len
        have bdK : ∀ k, k ≤ f.terms.length → -(2251799813685248 * (k : Int)) ≤ sumT (f.terms.take k) l ∧ sumT (f.terms.take k) l ≤ 2251799813685248 * (k : Int) := by
          intro k
          induction k with
          | zero => intro _; simp [sumT]
          | succ k ih =>
            intro hk
            have h1 := ih (by omega)
            have hp := okB_parts (hv.ok f.terms[k] (List.getElem_mem (by omega))).1
            have h2 := tmV_bd hp.1.1 hp.2 hb
            rw [List.take_succ_eq_append_getElem (by omega), sumT_append]
            simp only [sumT]
            omega
        refine jc_skip ?_
        refine jq_then ?_
        refine jc_seq ?_
        refine jc_region ?_
        refine jl_op ?_ (nb rfl)
        refine ow_assign rfl ?_
        refine jl_nil ?_
        refine jq_then ?_
        refine jc_seq ?_
        refine jc_seq ?_
        refine jc_region ?_
        refine jl_op ?_ (nb rfl)
        refine ow_fieldAddr rfl rfl rfl (nb rfl) ?_
        refine jl_op ?_ (nb rfl)
        refine ow_load 0 rfl rfl rfl rfl ?_
        refine jl_op ?_ (nb rfl)
        refine ow_len rfl (fun hlen => ?_)
        refine jl_op ?_ (nb rfl)
        refine ow_move rfl ?_
        refine jl_nil ?_
        refine jq_then ?_
        refine jc_block ?_
        refine jc_loopS (ι := Nat) [] (fun k => k ≤ f.terms.length) (fun k => [(1, .cell (.list (l.map Irow))), (7, In .i64 (sumT (f.terms.take k) l)), (23, .cell (.list (f.terms.map TR))), (24, In .i64 ((f.terms.map TR).length : Int)), (25, In .i64 (k : Int))]) (fun _ => []) (fun k => f.terms.length - k) 0 (Nat.zero_le _) ?_ ?_ ?_
        · exact sub_end
        · (repeat (first | exact True.intro | refine ⟨rfl, ?_⟩))
        · intro k hk
          refine jc_reset [(1, .cell (.list (l.map Irow))), (7, In .i64 (sumT (f.terms.take k) l)), (23, .cell (.list (f.terms.map TR))), (24, In .i64 ((f.terms.map TR).length : Int)), (25, In .i64 (k : Int))] [] ?_ ⟨[], [], rfl⟩ ?_
          · (repeat (first | exact True.intro | refine ⟨rfl, ?_⟩))
          refine jc_seq ?_
          refine jc_region ?_
          refine jl_op ?_ (nb rfl)
          refine ow_lss rfl rfl ?_
          refine jl_nil ?_
          refine jq_then ?_
          refine jc_seq ?_
          refine jc_condd rfl (fun hlt => ?_) (fun hge => ?_)
          · have hlt' : k < f.terms.length := by omega
            have hp := okB_parts (hv.ok f.terms[k] (List.getElem_mem hlt')).1
            have h2 := tmV_bd hp.1.1 hp.2 hb
            have h3 := bdK k hk
            have es : sumT (f.terms.take (k + 1)) l = sumT (f.terms.take k) l + tmV l f.terms[k] := by rw [List.take_succ_eq_append_getElem hlt', sumT_append]; simp [sumT]
            refine jc_skip ?_
            refine jq_then ?_
            refine jc_seq ?_
            refine jc_block ?_
            refine jc_seq ?_
            refine jc_region ?_
            refine jl_op ?_ (nb rfl)
            refine ow_indexAddrMapE rfl rfl (by omega) rfl rfl (nb rfl) ?_
            refine jl_op ?_ (nb rfl)
            refine ow_loadPlaceN rfl rfl rfl ?_
            refine jl_op ?_ (nb rfl)
            refine ow_alloc rfl rfl (fun bl => ?_)
            refine jl_op0 ?_
            refine ow_storeAll 0 rfl rfl rfl rfl rfl rfl ?_
            refine jl_nil ?_
            refine jq_then ?_
            refine jc_seq ?_
            refine jc_region ?_
            refine jl_op ?_ (nb rfl)
            refine ow_fieldAddr rfl rfl rfl (nb rfl) ?_
            refine jl_op ?_ (nb rfl)
            refine ow_load 0 rfl rfl rfl rfl ?_
            refine jl_op ?_ (nb rfl)
            refine ow_move rfl ?_
            refine jl_op ?_ (nb rfl)
            refine ow_len rfl (fun hlen => ?_)
            refine jl_op ?_ (nb rfl)
            refine ow_lss rfl rfl ?_
            refine jl_nil ?_
            refine jq_then ?_
            refine jc_condd rfl (fun hin => ?_) (fun hout => ?_)
            · have hx : f.terms[k].1.toNat < l.length := by omega
              have ev : tmV l f.terms[k] = f.terms[k].2 * l[f.terms[k].1.toNat] := by
                unfold tmV
                rw [if_pos (by omega), List.getD_eq_getElem?_getD, List.getElem?_eq_getElem hx, Option.getD_some]
              rw [ev] at h2 es
              refine jc_any rfl rfl (by kernel_rfl) (by kernel_rfl) ?_
              refine any_op (fun c => ow_move rfl ⟨rfl, List.Perm.refl _⟩) ?_
              refine any_op (fun c => ow_fieldAddr rfl rfl rfl (nb rfl) ⟨rfl, List.Perm.refl _⟩) ?_
              refine any_op (fun c => ow_load 0 rfl rfl rfl rfl ⟨rfl, List.Perm.refl _⟩) ?_
              refine any_op (fun c => ow_move rfl ⟨rfl, List.Perm.refl _⟩) ?_
              refine any_op (fun c => ow_fieldAddr rfl rfl rfl (nb rfl) ⟨rfl, List.Perm.refl _⟩) ?_
              refine any_op (fun c => ow_load 0 rfl rfl rfl rfl ⟨rfl, List.Perm.refl _⟩) ?_
              refine any_op (fun c => ow_indexAddrMapI rfl rfl (by omega) (by omega) rfl rfl (nb rfl) ⟨rfl, List.Perm.refl _⟩) ?_
              refine any_op (fun c => ow_loadPlace rfl rfl ⟨rfl, List.Perm.refl _⟩) ?_
              refine any_op (fun c => ow_mul64 rfl rfl (by omega) ⟨rfl, List.Perm.refl _⟩) ?_
              refine any_op (fun c => ow_add64 rfl rfl (by omega) ⟨rfl, List.Perm.refl _⟩) ?_
              refine any_op (fun c => ow_assign rfl ⟨rfl, List.Perm.refl _⟩) ?_
              refine any_nil ?_
              refine jq_block ?_
              refine jq_then ?_
              refine jc_region ?_
              refine jl_op ?_ (nb rfl)
              refine ow_add64 rfl rfl (by omega) ?_
              refine jl_op ?_ (nb rfl)
              refine ow_move rfl ?_
              refine jl_nil ?_
              refine jq_againS (k + 1) (by omega) (by omega) ?_ ?_
              · exact sub_end
              · rw [es]
                (repeat (first | exact True.intro | refine ⟨rfl, ?_⟩))
            · have ev : tmV l f.terms[k] = 0 := by unfold tmV; rw [if_neg (by omega)]
              rw [ev, Int.add_zero] at es
              refine jc_skip ?_
              refine jq_block ?_
              refine jq_then ?_
              refine jc_region ?_
              refine jl_op ?_ (nb rfl)
              refine ow_add64 rfl rfl (by omega) ?_
              refine jl_op ?_ (nb rfl)
              refine ow_move rfl ?_
              refine jl_nil ?_
              refine jq_againS (k + 1) (by omega) (by omega) ?_ ?_
              · exact sub_end
              · rw [es]
                (repeat (first | exact True.intro | refine ⟨rfl, ?_⟩))
          · obtain rfl : k = f.terms.length := by omega
            rw [List.take_length]
            refine jc_exit ?_
            refine jq_then_exit ?_
            refine jq_then_exit ?_
            refine jq_block_exit ?_
            refine jq_then ?_
            refine jc_seq ?_
            refine jc_region ?_
            refine jl_op ?_ (nb rfl)
            refine ow_move rfl ?_
            refine jl_op ?_ (nb rfl)
            refine ow_assign rfl ?_
            refine jl_op ?_ (nb rfl)
            refine ow_assign rfl ?_
            refine jl_nil ?_
            refine jq_then ?_
            refine jc_ret ?_
            refine jq_ret2 rfl rfl rfl [] rfl (fun K h => by rw [e] at h; exact h)
def holdsF (f : Fct) (l : List Int) : Bool := decide ((sumF f l).2 = 0) && decide ((sumF f l).1 ≤ f.most)
theorem Holds_c (f : Fct) (l : List Int) : Con Try.prog 17 [.row (FR f), .cell (.list (l.map Irow))] [] (fun K => K (Bl (holdsF f l)) []) := by
  have hS := Sum_c f l
  by_cases h : (sumF f l).2 = 0
  · refine con_intro Try.func17 rfl rfl (Nat.le_of_ble_eq_true rfl) (fun c hc => ?_)
    refine jc_seq ?_
    refine jc_region ?_
    refine jl_op ?_ (nb rfl)
    refine ow_box rfl (fun bx => ?_)
    refine jl_op ?_ (nb rfl)
    refine ow_assign rfl ?_
    refine jl_nil ?_
    refine jq_then ?_
    refine jc_seq ?_
    refine jc_region ?_
    refine jl_op ?_ (nb rfl)
    refine ow_loadAll 0 rfl rfl rfl rfl ?_
    refine jl_op ?_ (nb rfl)
    refine ow_move rfl ?_
    refine jl_op ?_ (nb rfl)
    refine ow_call0 rfl (hS) ?_
    refine jl_op ?_ (nb rfl)
    refine ow_move rfl ?_
    refine jl_op ?_ (nb rfl)
    refine ow_extract rfl rfl ?_
    refine jl_op ?_ (nb rfl)
    refine ow_extract rfl rfl ?_
    refine jl_op ?_ (nb rfl)
    refine ow_assign rfl ?_
    refine jl_op ?_ (nb rfl)
    refine ow_assign rfl ?_
    refine jl_nil ?_
    refine jq_then ?_
    refine jc_seq ?_
    refine jc_region ?_
    refine jl_op ?_ (nb rfl)
    refine ow_move rfl ?_
    refine jl_op ?_ (nb rfl)
    refine ow_eql rfl rfl ?_
    refine jl_op ?_ (nb rfl)
    refine ow_move rfl ?_
    refine jl_guardY rfl (by first | assumption | exact decide_eq_true rfl | exact decide_eq_true (by first | assumption | omega) | exact decide_eq_false (by first | assumption | omega) | with_reducible rfl | exact (rfl : false = !true) | exact (rfl : true = !false)) (nb rfl) ?_
    refine ow_move rfl ?_
    refine jl_guardY rfl (by first | assumption | exact decide_eq_true rfl | exact decide_eq_true (by first | assumption | omega) | exact decide_eq_false (by first | assumption | omega) | with_reducible rfl | exact (rfl : false = !true) | exact (rfl : true = !false)) (nb rfl) ?_
    refine ow_fieldAddr rfl rfl rfl (nb rfl) ?_
    refine jl_guardY rfl (by first | assumption | exact decide_eq_true rfl | exact decide_eq_true (by first | assumption | omega) | exact decide_eq_false (by first | assumption | omega) | with_reducible rfl | exact (rfl : false = !true) | exact (rfl : true = !false)) (nb rfl) ?_
    refine ow_load 0 rfl rfl rfl rfl ?_
    refine jl_guardY rfl (by first | assumption | exact decide_eq_true rfl | exact decide_eq_true (by first | assumption | omega) | exact decide_eq_false (by first | assumption | omega) | with_reducible rfl | exact (rfl : false = !true) | exact (rfl : true = !false)) (nb rfl) ?_
    refine ow_leq rfl rfl ?_
    refine jl_op ?_ (nb rfl)
    refine ow_pickT rfl (by first | assumption | exact decide_eq_true rfl | exact decide_eq_true (by first | assumption | omega) | exact decide_eq_false (by first | assumption | omega) | with_reducible rfl | exact (rfl : false = !true) | exact (rfl : true = !false)) rfl ?_
    refine jl_op ?_ (nb rfl)
    refine ow_assign rfl ?_
    refine jl_nil ?_
    refine jq_then ?_
    refine jc_ret ?_
    refine jq_ret1 rfl rfl [] rfl (fun K h' => by rw [show holdsF f l = decide ((sumF f l).1 ≤ f.most) by unfold holdsF; rw [decide_eq_true h]; rfl] at h'; exact h')
  · refine con_intro Try.func17 rfl rfl (Nat.le_of_ble_eq_true rfl) (fun c hc => ?_)
    refine jc_seq ?_
    refine jc_region ?_
    refine jl_op ?_ (nb rfl)
    refine ow_box rfl (fun bx => ?_)
    refine jl_op ?_ (nb rfl)
    refine ow_assign rfl ?_
    refine jl_nil ?_
    refine jq_then ?_
    refine jc_seq ?_
    refine jc_region ?_
    refine jl_op ?_ (nb rfl)
    refine ow_loadAll 0 rfl rfl rfl rfl ?_
    refine jl_op ?_ (nb rfl)
    refine ow_move rfl ?_
    refine jl_op ?_ (nb rfl)
    refine ow_call0 rfl (hS) ?_
    refine jl_op ?_ (nb rfl)
    refine ow_move rfl ?_
    refine jl_op ?_ (nb rfl)
    refine ow_extract rfl rfl ?_
    refine jl_op ?_ (nb rfl)
    refine ow_extract rfl rfl ?_
    refine jl_op ?_ (nb rfl)
    refine ow_assign rfl ?_
    refine jl_op ?_ (nb rfl)
    refine ow_assign rfl ?_
    refine jl_nil ?_
    refine jq_then ?_
    refine jc_seq ?_
    refine jc_region ?_
    refine jl_op ?_ (nb rfl)
    refine ow_move rfl ?_
    refine jl_op ?_ (nb rfl)
    refine ow_eql rfl rfl ?_
    refine jl_op ?_ (nb rfl)
    refine ow_move rfl ?_
    refine jl_guardN rfl (by first | assumption | exact decide_eq_true rfl | exact decide_eq_true (by first | assumption | omega) | exact decide_eq_false (by first | assumption | omega) | with_reducible rfl | exact (rfl : false = !true) | exact (rfl : true = !false)) (nb rfl) ?_
    refine jl_guardN rfl (by first | assumption | exact decide_eq_true rfl | exact decide_eq_true (by first | assumption | omega) | exact decide_eq_false (by first | assumption | omega) | with_reducible rfl | exact (rfl : false = !true) | exact (rfl : true = !false)) (nb rfl) ?_
    refine jl_guardN rfl (by first | assumption | exact decide_eq_true rfl | exact decide_eq_true (by first | assumption | omega) | exact decide_eq_false (by first | assumption | omega) | with_reducible rfl | exact (rfl : false = !true) | exact (rfl : true = !false)) (nb rfl) ?_
    refine jl_guardN rfl (by first | assumption | exact decide_eq_true rfl | exact decide_eq_true (by first | assumption | omega) | exact decide_eq_false (by first | assumption | omega) | with_reducible rfl | exact (rfl : false = !true) | exact (rfl : true = !false)) (nb rfl) ?_
    refine jl_op ?_ (nb rfl)
    refine ow_pickF rfl (by first | assumption | exact decide_eq_true rfl | exact decide_eq_true (by first | assumption | omega) | exact decide_eq_false (by first | assumption | omega) | with_reducible rfl | exact (rfl : false = !true) | exact (rfl : true = !false)) rfl ?_
    refine jl_op ?_ (nb rfl)
    refine ow_assign rfl ?_
    refine jl_nil ?_
    refine jq_then ?_
    refine jc_ret ?_
    refine jq_ret1 rfl rfl [] rfl (fun K h' => by rw [show holdsF f l = false by unfold holdsF; rw [decide_eq_false h]; rfl] at h'; exact h')
end Go.Proofs.Ytjkkkjikhjfdnaa
