import Derived.Test.YtccojifhaoadbaaDoorTy
import Derived.Test.YtccojifhaoadbaaDoorVcg
namespace Go.Proofs.YtccojifhaoadbaaDoor
open Go.Vc
attribute [local irreducible] JL JC JQ OpWp Con ConN

/-! The program's tokens -/
def isL (n : Int) : Bool := decide (97 ≤ n) && decide (n ≤ 122)
def isD (n : Int) : Bool := decide (48 ≤ n) && decide (n ≤ 57)
def isLD (n : Int) : Bool := isL n || isD n

theorem letter_c (n : Int) : Con Tryd.prog 31 [In .u8 n] [] (fun K => K (Bl (isL n)) []) := by
  by_cases h : (97 : Int) ≤ n
  · refine con_intro Tryd.func31 rfl rfl (Nat.le_of_ble_eq_true rfl) (fun c hc => ?_)
    refine jc_seq ?_
    refine jc_region ?_
    refine jl_op ?_ (nb rfl)
    refine ow_assign rfl ?_
    refine jl_nil ?_
    refine jq_then ?_
    refine jc_seq ?_
    refine jc_region ?_
    refine jl_op ?_ (nb rfl)
    refine ow_move rfl ?_
    refine jl_op ?_ (nb rfl)
    refine ow_geq rfl rfl ?_
    refine jl_op ?_ (nb rfl)
    refine ow_move rfl ?_
    refine jl_guardY rfl (by first | assumption | exact decide_eq_true (by first | assumption | omega) | exact decide_eq_false (by first | assumption | omega) | with_reducible rfl | exact (rfl : false = !true) | exact (rfl : true = !false)) (nb rfl) ?_
    refine ow_move rfl ?_
    refine jl_guardY rfl (by first | assumption | exact decide_eq_true (by first | assumption | omega) | exact decide_eq_false (by first | assumption | omega) | with_reducible rfl | exact (rfl : false = !true) | exact (rfl : true = !false)) (nb rfl) ?_
    refine ow_leq rfl rfl ?_
    refine jl_op ?_ (nb rfl)
    refine ow_pickT rfl (by first | assumption | exact decide_eq_true (by first | assumption | omega) | exact decide_eq_false (by first | assumption | omega) | with_reducible rfl | exact (rfl : false = !true) | exact (rfl : true = !false)) rfl ?_
    refine jl_op ?_ (nb rfl)
    refine ow_assign rfl ?_
    refine jl_nil ?_
    refine jq_then ?_
    refine jc_ret ?_
    refine jq_ret1 rfl rfl [] rfl (fun K h' => by rw [show isL n = decide (n ≤ 122) by simp [isL, h]] at h'; exact h')
  · refine con_intro Tryd.func31 rfl rfl (Nat.le_of_ble_eq_true rfl) (fun c hc => ?_)
    refine jc_seq ?_
    refine jc_region ?_
    refine jl_op ?_ (nb rfl)
    refine ow_assign rfl ?_
    refine jl_nil ?_
    refine jq_then ?_
    refine jc_seq ?_
    refine jc_region ?_
    refine jl_op ?_ (nb rfl)
    refine ow_move rfl ?_
    refine jl_op ?_ (nb rfl)
    refine ow_geq rfl rfl ?_
    refine jl_op ?_ (nb rfl)
    refine ow_move rfl ?_
    refine jl_guardN rfl (by first | assumption | exact decide_eq_true (by first | assumption | omega) | exact decide_eq_false (by first | assumption | omega) | with_reducible rfl | exact (rfl : false = !true) | exact (rfl : true = !false)) (nb rfl) ?_
    refine jl_guardN rfl (by first | assumption | exact decide_eq_true (by first | assumption | omega) | exact decide_eq_false (by first | assumption | omega) | with_reducible rfl | exact (rfl : false = !true) | exact (rfl : true = !false)) (nb rfl) ?_
    refine jl_op ?_ (nb rfl)
    refine ow_pickF rfl (by first | assumption | exact decide_eq_true (by first | assumption | omega) | exact decide_eq_false (by first | assumption | omega) | with_reducible rfl | exact (rfl : false = !true) | exact (rfl : true = !false)) rfl ?_
    refine jl_op ?_ (nb rfl)
    refine ow_assign rfl ?_
    refine jl_nil ?_
    refine jq_then ?_
    refine jc_ret ?_
    refine jq_ret1 rfl rfl [] rfl (fun K h' => by rw [show isL n = false by simp [isL, h]] at h'; exact h')
theorem digit_c (n : Int) : Con Tryd.prog 27 [In .u8 n] [] (fun K => K (Bl (isD n)) []) := by
  by_cases h : (48 : Int) ≤ n
  · refine con_intro Tryd.func27 rfl rfl (Nat.le_of_ble_eq_true rfl) (fun c hc => ?_)
    refine jc_seq ?_
    refine jc_region ?_
    refine jl_op ?_ (nb rfl)
    refine ow_assign rfl ?_
    refine jl_nil ?_
    refine jq_then ?_
    refine jc_seq ?_
    refine jc_region ?_
    refine jl_op ?_ (nb rfl)
    refine ow_move rfl ?_
    refine jl_op ?_ (nb rfl)
    refine ow_geq rfl rfl ?_
    refine jl_op ?_ (nb rfl)
    refine ow_move rfl ?_
    refine jl_guardY rfl (by first | assumption | exact decide_eq_true (by first | assumption | omega) | exact decide_eq_false (by first | assumption | omega) | with_reducible rfl | exact (rfl : false = !true) | exact (rfl : true = !false)) (nb rfl) ?_
    refine ow_move rfl ?_
    refine jl_guardY rfl (by first | assumption | exact decide_eq_true (by first | assumption | omega) | exact decide_eq_false (by first | assumption | omega) | with_reducible rfl | exact (rfl : false = !true) | exact (rfl : true = !false)) (nb rfl) ?_
    refine ow_leq rfl rfl ?_
    refine jl_op ?_ (nb rfl)
    refine ow_pickT rfl (by first | assumption | exact decide_eq_true (by first | assumption | omega) | exact decide_eq_false (by first | assumption | omega) | with_reducible rfl | exact (rfl : false = !true) | exact (rfl : true = !false)) rfl ?_
    refine jl_op ?_ (nb rfl)
    refine ow_assign rfl ?_
    refine jl_nil ?_
    refine jq_then ?_
    refine jc_ret ?_
    refine jq_ret1 rfl rfl [] rfl (fun K h' => by rw [show isD n = decide (n ≤ 57) by simp [isD, h]] at h'; exact h')
  · refine con_intro Tryd.func27 rfl rfl (Nat.le_of_ble_eq_true rfl) (fun c hc => ?_)
    refine jc_seq ?_
    refine jc_region ?_
    refine jl_op ?_ (nb rfl)
    refine ow_assign rfl ?_
    refine jl_nil ?_
    refine jq_then ?_
    refine jc_seq ?_
    refine jc_region ?_
    refine jl_op ?_ (nb rfl)
    refine ow_move rfl ?_
    refine jl_op ?_ (nb rfl)
    refine ow_geq rfl rfl ?_
    refine jl_op ?_ (nb rfl)
    refine ow_move rfl ?_
    refine jl_guardN rfl (by first | assumption | exact decide_eq_true (by first | assumption | omega) | exact decide_eq_false (by first | assumption | omega) | with_reducible rfl | exact (rfl : false = !true) | exact (rfl : true = !false)) (nb rfl) ?_
    refine jl_guardN rfl (by first | assumption | exact decide_eq_true (by first | assumption | omega) | exact decide_eq_false (by first | assumption | omega) | with_reducible rfl | exact (rfl : false = !true) | exact (rfl : true = !false)) (nb rfl) ?_
    refine jl_op ?_ (nb rfl)
    refine ow_pickF rfl (by first | assumption | exact decide_eq_true (by first | assumption | omega) | exact decide_eq_false (by first | assumption | omega) | with_reducible rfl | exact (rfl : false = !true) | exact (rfl : true = !false)) rfl ?_
    refine jl_op ?_ (nb rfl)
    refine ow_assign rfl ?_
    refine jl_nil ?_
    refine jq_then ?_
    refine jc_ret ?_
    refine jq_ret1 rfl rfl [] rfl (fun K h' => by rw [show isD n = false by simp [isD, h]] at h'; exact h')
theorem both_c (n : Int) : Con Tryd.prog 32 [In .u8 n] [] (fun K => K (Bl (isLD n)) []) := by
  cases h : isL n with
  | true =>
    refine con_intro Tryd.func32 rfl rfl (Nat.le_of_ble_eq_true rfl) (fun c hc => ?_)
    refine jc_seq ?_
    refine jc_region ?_
    refine jl_op ?_ (nb rfl)
    refine ow_assign rfl ?_
    refine jl_nil ?_
    refine jq_then ?_
    refine jc_seq ?_
    refine jc_region ?_
    refine jl_op ?_ (nb rfl)
    refine ow_move rfl ?_
    refine jl_op ?_ (nb rfl)
    refine ow_call0 rfl (letter_c _) ?_
    refine jl_op ?_ (nb rfl)
    refine ow_move rfl ?_
    refine jl_guardN rfl (by first | assumption | exact decide_eq_true (by first | assumption | omega) | exact decide_eq_false (by first | assumption | omega) | with_reducible rfl | exact (rfl : false = !true) | exact (rfl : true = !false)) (nb rfl) ?_
    refine jl_guardN rfl (by first | assumption | exact decide_eq_true (by first | assumption | omega) | exact decide_eq_false (by first | assumption | omega) | with_reducible rfl | exact (rfl : false = !true) | exact (rfl : true = !false)) (nb rfl) ?_
    refine jl_op ?_ (nb rfl)
    refine ow_pickT rfl (by first | assumption | exact decide_eq_true (by first | assumption | omega) | exact decide_eq_false (by first | assumption | omega) | with_reducible rfl | exact (rfl : false = !true) | exact (rfl : true = !false)) rfl ?_
    refine jl_op ?_ (nb rfl)
    refine ow_assign rfl ?_
    refine jl_nil ?_
    refine jq_then ?_
    refine jc_ret ?_
    refine jq_ret1 rfl rfl [] rfl (fun K h' => by rw [show isLD n = true by simp [isLD, h]] at h'; exact h')
  | false =>
    refine con_intro Tryd.func32 rfl rfl (Nat.le_of_ble_eq_true rfl) (fun c hc => ?_)
    refine jc_seq ?_
    refine jc_region ?_
    refine jl_op ?_ (nb rfl)
    refine ow_assign rfl ?_
    refine jl_nil ?_
    refine jq_then ?_
    refine jc_seq ?_
    refine jc_region ?_
    refine jl_op ?_ (nb rfl)
    refine ow_move rfl ?_
    refine jl_op ?_ (nb rfl)
    refine ow_call0 rfl (letter_c _) ?_
    refine jl_op ?_ (nb rfl)
    refine ow_move rfl ?_
    refine jl_guardY rfl (by first | assumption | exact decide_eq_true (by first | assumption | omega) | exact decide_eq_false (by first | assumption | omega) | with_reducible rfl | exact (rfl : false = !true) | exact (rfl : true = !false)) (nb rfl) ?_
    refine ow_move rfl ?_
    refine jl_guardY rfl (by first | assumption | exact decide_eq_true (by first | assumption | omega) | exact decide_eq_false (by first | assumption | omega) | with_reducible rfl | exact (rfl : false = !true) | exact (rfl : true = !false)) (nb rfl) ?_
    refine ow_call0 rfl (digit_c _) ?_
    refine jl_op ?_ (nb rfl)
    refine ow_pickF rfl (by first | assumption | exact decide_eq_true (by first | assumption | omega) | exact decide_eq_false (by first | assumption | omega) | with_reducible rfl | exact (rfl : false = !true) | exact (rfl : true = !false)) rfl ?_
    refine jl_op ?_ (nb rfl)
    refine ow_assign rfl ?_
    refine jl_nil ?_
    refine jq_then ?_
    refine jc_ret ?_
    refine jq_ret1 rfl rfl [] rfl (fun K h' => by rw [show isLD n = isD n by simp [isLD, h]] at h'; exact h')

theorem run_c (p : Int → Bool) (f : FuncId) [FI Tryd.prog f] (hp : ∀ n, Con Tryd.prog f [In .u8 n] [] (fun K => K (Bl (p n)) [])) (s : ByteArray) (hs : s.size ≤ 1000000) :
    Con Tryd.prog 26 [Str s, .cell (.val (.func (.func f) #[] #[]))] [] (fun K => K (In .i64 (runLen p s : Int)) []) := by
  refine con_intro Tryd.func26 rfl rfl (Nat.le_of_ble_eq_true rfl) (fun c hc => ?_)
  refine jc_seq ?_
  refine jc_region ?_
  refine jl_op ?_ (nb rfl)
  refine ow_assign rfl ?_
  refine jl_nil ?_
  refine jq_then ?_
  refine jc_seq ?_
  refine jc_region ?_
  refine jl_op ?_ (nb rfl)
  refine ow_assign rfl ?_
  refine jl_nil ?_
  refine jq_then ?_
  refine jc_seq ?_
  refine jc_block ?_
  refine jc_loopS [] (fun k : Nat => k ≤ s.size ∧ ∀ j, j < k → p (byteAt s j) = true) (fun k => [(0, Str s), (1, .cell (.val (.func (.func f) #[] #[]))), (5, In .i64 (k : Int))]) (fun _ => []) (fun k => s.size - k) 0 ⟨Nat.zero_le _, fun j h => by omega⟩ ?_ ?_ ?_
  · exact sub_end
  · (repeat (first | exact True.intro | refine ⟨rfl, ?_⟩))
  · rintro k ⟨hk, hall⟩
    by_cases hlt : (k : Int) < (s.size : Int)
    · refine jc_seq ?_
      refine jc_seq ?_
      refine jc_region ?_
      refine jl_op ?_ (nb rfl)
      refine ow_move rfl ?_
      refine jl_op ?_ (nb rfl)
      refine ow_move rfl ?_
      refine jl_op ?_ (nb rfl)
      refine ow_lenstr rfl rfl ?_
      refine jl_op ?_ (nb rfl)
      refine ow_lss rfl rfl ?_
      refine jl_op ?_ (nb rfl)
      refine ow_move rfl ?_
      refine jl_guardY rfl (by first | assumption | exact decide_eq_true (by first | assumption | omega) | exact decide_eq_false (by first | assumption | omega) | with_reducible rfl | exact (rfl : false = !true) | exact (rfl : true = !false)) (nb rfl) ?_
      refine ow_move rfl ?_
      refine jl_guardY rfl (by first | assumption | exact decide_eq_true (by first | assumption | omega) | exact decide_eq_false (by first | assumption | omega) | with_reducible rfl | exact (rfl : false = !true) | exact (rfl : true = !false)) (nb rfl) ?_
      refine ow_move rfl ?_
      refine jl_guardY rfl (by first | assumption | exact decide_eq_true (by first | assumption | omega) | exact decide_eq_false (by first | assumption | omega) | with_reducible rfl | exact (rfl : false = !true) | exact (rfl : true = !false)) (nb rfl) ?_
      refine ow_move rfl ?_
      refine jl_guardY rfl (by first | assumption | exact decide_eq_true (by first | assumption | omega) | exact decide_eq_false (by first | assumption | omega) | with_reducible rfl | exact (rfl : false = !true) | exact (rfl : true = !false)) (nb rfl) ?_
      refine ow_indexStr rfl rfl rfl (by omega) (by omega) ?_
      refine jl_guardY rfl (by first | assumption | exact decide_eq_true (by first | assumption | omega) | exact decide_eq_false (by first | assumption | omega) | with_reducible rfl | exact (rfl : false = !true) | exact (rfl : true = !false)) (nb rfl) ?_
      refine ow_callv0 rfl rfl (hp _) ?_
      refine jl_op ?_ (nb rfl)
      refine ow_pickT rfl (by first | assumption | exact decide_eq_true (by first | assumption | omega) | exact decide_eq_false (by first | assumption | omega) | with_reducible rfl | exact (rfl : false = !true) | exact (rfl : true = !false)) rfl ?_
      refine jl_nil ?_
      refine jq_then ?_
      refine jc_cond rfl (fun hb => ?_) (fun hb => ?_)
      · refine jc_skip ?_
        refine jq_then ?_
        refine jc_block ?_
        refine jc_region ?_
        refine jl_op ?_ (nb rfl)
        refine ow_move rfl ?_
        refine jl_op ?_ (nb rfl)
        refine ow_add64 rfl rfl (by omega) ?_
        refine jl_op ?_ (nb rfl)
        refine ow_assign rfl ?_
        refine jl_nil ?_
        refine jq_block ?_
        refine jq_againS (k + 1) ⟨by omega, fun j hj => ?_⟩ (by omega) ?_ ?_
        · by_cases hjk : j < k
          · exact hall j hjk
          · obtain rfl : j = k := by omega
            exact hb
        · exact sub_end
        · (repeat (first | exact True.intro | refine ⟨rfl, ?_⟩))
      · refine jc_exit ?_
        refine jq_then_exit ?_
        refine jq_then_exit ?_
        refine jq_block_exit ?_
        refine jq_then ?_
        refine jc_seq ?_
        refine jc_region ?_
        refine jl_op ?_ (nb rfl)
        refine ow_move rfl ?_
        refine jl_op ?_ (nb rfl)
        refine ow_assign rfl ?_
        refine jl_nil ?_
        refine jq_then ?_
        refine jc_ret ?_
        have e : runLen p s = k := runLen_eq hall hk (fun _ => hb)
        refine jq_ret1 rfl rfl [] rfl (fun K h => by rw [e] at h; exact h)
    · refine jc_seq ?_
      refine jc_seq ?_
      refine jc_region ?_
      refine jl_op ?_ (nb rfl)
      refine ow_move rfl ?_
      refine jl_op ?_ (nb rfl)
      refine ow_move rfl ?_
      refine jl_op ?_ (nb rfl)
      refine ow_lenstr rfl rfl ?_
      refine jl_op ?_ (nb rfl)
      refine ow_lss rfl rfl ?_
      refine jl_op ?_ (nb rfl)
      refine ow_move rfl ?_
      refine jl_guardN rfl (by first | assumption | exact decide_eq_true (by first | assumption | omega) | exact decide_eq_false (by first | assumption | omega) | with_reducible rfl | exact (rfl : false = !true) | exact (rfl : true = !false)) (nb rfl) ?_
      refine jl_guardN rfl (by first | assumption | exact decide_eq_true (by first | assumption | omega) | exact decide_eq_false (by first | assumption | omega) | with_reducible rfl | exact (rfl : false = !true) | exact (rfl : true = !false)) (nb rfl) ?_
      refine jl_guardN rfl (by first | assumption | exact decide_eq_true (by first | assumption | omega) | exact decide_eq_false (by first | assumption | omega) | with_reducible rfl | exact (rfl : false = !true) | exact (rfl : true = !false)) (nb rfl) ?_
      refine jl_guardN rfl (by first | assumption | exact decide_eq_true (by first | assumption | omega) | exact decide_eq_false (by first | assumption | omega) | with_reducible rfl | exact (rfl : false = !true) | exact (rfl : true = !false)) (nb rfl) ?_
      refine jl_guardN rfl (by first | assumption | exact decide_eq_true (by first | assumption | omega) | exact decide_eq_false (by first | assumption | omega) | with_reducible rfl | exact (rfl : false = !true) | exact (rfl : true = !false)) (nb rfl) ?_
      refine jl_op ?_ (nb rfl)
      refine ow_pickF rfl (by first | assumption | exact decide_eq_true (by first | assumption | omega) | exact decide_eq_false (by first | assumption | omega) | with_reducible rfl | exact (rfl : false = !true) | exact (rfl : true = !false)) rfl ?_
      refine jl_nil ?_
      refine jq_then ?_
      refine jc_cond rfl (fun h => by cases h) (fun _ => ?_)
      refine jc_exit ?_
      refine jq_then_exit ?_
      refine jq_then_exit ?_
      refine jq_block_exit ?_
      refine jq_then ?_
      refine jc_seq ?_
      refine jc_region ?_
      refine jl_op ?_ (nb rfl)
      refine ow_move rfl ?_
      refine jl_op ?_ (nb rfl)
      refine ow_assign rfl ?_
      refine jl_nil ?_
      refine jq_then ?_
      refine jc_ret ?_
      have e : runLen p s = k := runLen_eq hall hk (fun h => by omega)
      refine jq_ret1 rfl rfl [] rfl (fun K h => by rw [e] at h; exact h)

/-- How many bytes a name has at the beginning. -/
def nameLen (s : ByteArray) : Nat := if 0 < s.size ∧ isL (byteAt s 0) = true then runLen isLD s else 0
theorem name_c (s : ByteArray) (hs : s.size ≤ 1000000) : Con Tryd.prog 23 [Str s] [] (fun K => K (In .i64 (nameLen s : Int)) []) := by
  refine con_intro Tryd.func23 rfl rfl (Nat.le_of_ble_eq_true rfl) (fun c hc => ?_)
  refine jc_seq ?_
  refine jc_region ?_
  refine jl_op ?_ (nb rfl)
  refine ow_assign rfl ?_
  refine jl_nil ?_
  refine jq_then ?_
  refine jc_seq ?_
  refine jc_seq ?_
  refine jc_cut (ι := Bool) [] (fun b => b = !(decide (0 < s.size) && isL (byteAt s 0))) (fun b => [(0, Str s), (10, Bl b)]) (fun _ => []) ?_ ?_
  · by_cases h0 : s = ⟨#[]⟩
    · refine jc_region ?_
      refine jl_op ?_ (nb rfl)
      refine ow_move rfl ?_
      refine jl_op ?_ (nb rfl)
      refine ow_streql rfl rfl ?_
      refine jl_op ?_ (nb rfl)
      refine ow_move rfl ?_
      refine jl_guardN rfl (by first | assumption | exact decide_eq_true (by first | assumption | omega) | exact decide_eq_false (by first | assumption | omega) | with_reducible rfl | exact (rfl : false = !true) | exact (rfl : true = !false)) (nb rfl) ?_
      refine jl_guardN rfl (by first | assumption | exact decide_eq_true (by first | assumption | omega) | exact decide_eq_false (by first | assumption | omega) | with_reducible rfl | exact (rfl : false = !true) | exact (rfl : true = !false)) (nb rfl) ?_
      refine jl_guardN rfl (by first | assumption | exact decide_eq_true (by first | assumption | omega) | exact decide_eq_false (by first | assumption | omega) | with_reducible rfl | exact (rfl : false = !true) | exact (rfl : true = !false)) (nb rfl) ?_
      refine jl_guardN rfl (by first | assumption | exact decide_eq_true (by first | assumption | omega) | exact decide_eq_false (by first | assumption | omega) | with_reducible rfl | exact (rfl : false = !true) | exact (rfl : true = !false)) (nb rfl) ?_
      refine jl_op ?_ (nb rfl)
      refine ow_pickT rfl (by first | assumption | exact decide_eq_true (by first | assumption | omega) | exact decide_eq_false (by first | assumption | omega) | with_reducible rfl | exact (rfl : false = !true) | exact (rfl : true = !false)) rfl ?_
      refine jl_nil ?_
      refine jq_cutS true ?_ ?_ ?_
      · rw [h0]; rfl
      · exact sub_end
      · (repeat (first | exact True.intro | refine ⟨rfl, ?_⟩))
    · have hpos : 0 < s.size := by
        rcases Nat.eq_zero_or_pos s.size with h | h
        · exact absurd (by cases s; rename_i d; have : d = #[] := Array.eq_empty_of_size_eq_zero h; rw [this]) h0
        · exact h
      refine jc_region ?_
      refine jl_op ?_ (nb rfl)
      refine ow_move rfl ?_
      refine jl_op ?_ (nb rfl)
      refine ow_streql rfl rfl ?_
      refine jl_op ?_ (nb rfl)
      refine ow_move rfl ?_
      refine jl_guardY rfl (by first | assumption | exact decide_eq_true (by first | assumption | omega) | exact decide_eq_false (by first | assumption | omega) | with_reducible rfl | exact (rfl : false = !true) | exact (rfl : true = !false)) (nb rfl) ?_
      refine ow_move rfl ?_
      refine jl_guardY rfl (by first | assumption | exact decide_eq_true (by first | assumption | omega) | exact decide_eq_false (by first | assumption | omega) | with_reducible rfl | exact (rfl : false = !true) | exact (rfl : true = !false)) (nb rfl) ?_
      refine ow_indexStr rfl rfl rfl (by omega) (by omega) ?_
      refine jl_guardY rfl (by first | assumption | exact decide_eq_true (by first | assumption | omega) | exact decide_eq_false (by first | assumption | omega) | with_reducible rfl | exact (rfl : false = !true) | exact (rfl : true = !false)) (nb rfl) ?_
      refine ow_call0 rfl (letter_c _) ?_
      refine jl_guardY rfl (by first | assumption | exact decide_eq_true (by first | assumption | omega) | exact decide_eq_false (by first | assumption | omega) | with_reducible rfl | exact (rfl : false = !true) | exact (rfl : true = !false)) (nb rfl) ?_
      refine ow_not rfl ?_
      refine jl_op ?_ (nb rfl)
      refine ow_pickF rfl (by first | assumption | exact decide_eq_true (by first | assumption | omega) | exact decide_eq_false (by first | assumption | omega) | with_reducible rfl | exact (rfl : false = !true) | exact (rfl : true = !false)) rfl ?_
      refine jl_nil ?_
      refine jq_cutS (!isL (byteAt s 0)) (by simp [hpos]) ?_ ?_
      · exact sub_end
      · (repeat (first | exact True.intro | refine ⟨rfl, ?_⟩))
  · intro b hb
    refine jc_cond rfl (fun h => ?_) (fun h => ?_)
    · refine jc_seq ?_
      refine jc_region ?_
      refine jl_op ?_ (nb rfl)
      refine ow_assign rfl ?_
      refine jl_nil ?_
      refine jq_then ?_
      refine jc_ret ?_
      refine jq_then_ret ?_
      have e : nameLen s = 0 := by
        unfold nameLen
        rw [if_neg]
        rintro ⟨h1, h2⟩
        rw [hb] at h
        simp [h1, h2] at h
      refine jq_ret1 rfl rfl [] rfl (fun K h => by rw [e] at h; exact h)
    · refine jc_skip ?_
      refine jq_then ?_
      refine jc_seq ?_
      refine jc_region ?_
      refine jl_op ?_ (nb rfl)
      refine ow_move rfl ?_
      refine jl_op ?_ (nb rfl)
      refine ow_call0 rfl (run_c isLD _ both_c s hs) ?_
      refine jl_op ?_ (nb rfl)
      refine ow_assign rfl ?_
      refine jl_nil ?_
      refine jq_then ?_
      refine jc_ret ?_
      have e : nameLen s = runLen isLD s := by
        unfold nameLen
        rw [if_pos]
        rw [hb] at h
        simpa using h
      refine jq_ret1 rfl rfl [] rfl (fun K h => by rw [e] at h; exact h)

/-- The number that digits say; 2^31 if it is that or more. -/
def numVal (l : List Int) : Int := l.foldl (fun n c => min (10 * n + (c - 48)) 2147483648) 0
theorem numVal_snoc (l : List Int) (c : Int) : numVal (l ++ [c]) = min (10 * numVal l + (c - 48)) 2147483648 := by simp [numVal]
theorem numVal_bdF : ∀ (l : List Int) (n : Int), (∀ c ∈ l, isD c = true) → 0 ≤ n ∧ n ≤ 2147483648 →
    0 ≤ l.foldl (fun n c => min (10 * n + (c - 48)) 2147483648) n ∧ l.foldl (fun n c => min (10 * n + (c - 48)) 2147483648) n ≤ 2147483648 := by
  intro l
  induction l with
  | nil => intro n _ h; exact h
  | cons c l ih =>
    intro n hd hn
    have h2 : isD c = true := hd c (by simp)
    simp only [isD, Bool.and_eq_true, decide_eq_true_eq] at h2
    rw [List.foldl_cons]
    exact ih _ (fun x hx => hd x (by simp [hx])) (by omega)
theorem numVal_bd (l : List Int) (h : ∀ c ∈ l, isD c = true) : 0 ≤ numVal l ∧ numVal l ≤ 2147483648 :=
  numVal_bdF l 0 h (by omega)
theorem number_c (s : ByteArray) (hs : s.size ≤ 1000000) (hd : ∀ c ∈ bytesI s, isD c = true) : Con Tryd.prog 28 [Str s] [] (fun K => K (In .i64 (numVal (bytesI s))) []) := by
  refine con_intro Tryd.func28 rfl rfl (Nat.le_of_ble_eq_true rfl) (fun c hc => ?_)
  refine jc_seq ?_
  refine jc_region ?_
  refine jl_op ?_ (nb rfl)
  refine ow_assign rfl ?_
  refine jl_nil ?_
  refine jq_then ?_
  refine jc_seq ?_
  refine jc_region ?_
  refine jl_op ?_ (nb rfl)
  refine ow_assign rfl ?_
  refine jl_nil ?_
  refine jq_then ?_
  refine jc_seq ?_
  refine jc_seq ?_
  refine jc_region ?_
  refine jl_op ?_ (nb rfl)
  refine ow_move rfl ?_
  refine jl_op ?_ (nb rfl)
  refine ow_strBytes rfl rfl (by omega) rfl ?_
  refine jl_op ?_ (nb rfl)
  refine ow_len rfl (fun hlen => ?_)
  refine jl_op ?_ (nb rfl)
  refine ow_move rfl ?_
  refine jl_nil ?_
  refine jq_then ?_
  refine jc_block ?_
  have eL : ((bytesI s).map Brow).length = (bytesI s).length := List.length_map _
  refine jc_loopS [] (fun k : Nat => k ≤ (bytesI s).length) (fun k => [(7, .cell (.list ((bytesI s).map Brow))), (8, In .i64 (((bytesI s).map Brow).length : Int)), (3, In .i64 (numVal ((bytesI s).take k))), (9, In .i64 (k : Int))]) (fun _ => []) (fun k => (bytesI s).length - k) 0 (Nat.zero_le _) ?_ ?_ ?_
  · exact sub_end
  · (repeat (first | exact True.intro | refine ⟨rfl, ?_⟩))
  · intro k hk
    refine jc_seq ?_
    refine jc_region ?_
    refine jl_op ?_ (nb rfl)
    refine ow_lss rfl rfl ?_
    refine jl_nil ?_
    refine jq_then ?_
    refine jc_seq ?_
    refine jc_condd rfl (fun hlt => ?_) (fun hge => ?_)
    · have hlt' : k < (bytesI s).length := by omega
      have h1 := hd (bytesI s)[k] (List.getElem_mem hlt')
      simp only [isD, Bool.and_eq_true, decide_eq_true_eq] at h1
      have h2 := numVal_bd ((bytesI s).take k) (fun c hc => hd c (List.mem_of_mem_take hc))
      have e : numVal ((bytesI s).take (k + 1)) = min (10 * numVal ((bytesI s).take k) + ((bytesI s)[k] - 48)) 2147483648 := by rw [List.take_succ_eq_append_getElem hlt', numVal_snoc]
      refine jc_skip ?_
      refine jq_then ?_
      refine jc_seq ?_
      refine jc_block ?_
      refine jc_seq ?_
      refine jc_region ?_
      refine jl_op ?_ (nb rfl)
      refine ow_indexAddrMapE rfl rfl (by omega) rfl rfl (nb rfl) ?_
      refine jl_op ?_ (nb rfl)
      refine ow_loadPlace rfl rfl ?_
      refine jl_op ?_ (nb rfl)
      refine ow_assign rfl ?_
      refine jl_nil ?_
      refine jq_then ?_
      refine jc_region ?_
      refine jl_op ?_ (nb rfl)
      refine ow_move rfl ?_
      refine jl_op ?_ (nb rfl)
      refine ow_mul64 rfl rfl (by omega) ?_
      refine jl_op ?_ (nb rfl)
      refine ow_move rfl ?_
      refine jl_op ?_ (nb rfl)
      refine ow_subU8 rfl rfl (by omega) ?_
      refine jl_op ?_ (nb rfl)
      refine ow_convI64 rfl rfl rfl (by omega) ?_
      refine jl_op ?_ (nb rfl)
      refine ow_add64 rfl rfl (by omega) ?_
      refine jl_op ?_ (nb rfl)
      refine ow_min2 rfl rfl ?_
      refine jl_op ?_ (nb rfl)
      refine ow_assign rfl ?_
      refine jl_nil ?_
      refine jq_block ?_
      refine jq_then ?_
      refine jc_region ?_
      refine jl_op ?_ (nb rfl)
      refine ow_add64 rfl rfl (by omega) ?_
      refine jl_op ?_ (nb rfl)
      refine ow_move rfl ?_
      refine jl_nil ?_
      refine jq_againS (k + 1) (by omega) (by omega) ?_ ?_
      · exact sub_end
      · rw [e]
        (repeat (first | exact True.intro | refine ⟨rfl, ?_⟩))
    · refine jc_exit ?_
      refine jq_then_exit ?_
      refine jq_then_exit ?_
      refine jq_block_exit ?_
      refine jq_then ?_
      refine jc_seq ?_
      refine jc_region ?_
      refine jl_op ?_ (nb rfl)
      refine ow_move rfl ?_
      refine jl_op ?_ (nb rfl)
      refine ow_assign rfl ?_
      refine jl_nil ?_
      refine jq_then ?_
      refine jc_ret ?_
      refine jq_ret1 rfl rfl [] rfl (fun K h => by rw [← List.take_of_length_le (show (bytesI s).length ≤ k by omega)] at h; exact h)

/-- All signs. -/
def SG : List ByteArray := [⟨#[43]⟩, ⟨#[45]⟩, ⟨#[42]⟩, ⟨#[47]⟩, ⟨#[37]⟩, ⟨#[38]⟩, ⟨#[124]⟩, ⟨#[94]⟩, ⟨#[60, 60]⟩, ⟨#[62, 62]⟩, ⟨#[60]⟩, ⟨#[60, 61]⟩, ⟨#[61, 61]⟩, ⟨#[33, 61]⟩, ⟨#[61]⟩, ⟨#[40]⟩, ⟨#[41]⟩, ⟨#[91]⟩, ⟨#[93]⟩, ⟨#[123]⟩, ⟨#[125]⟩]
theorem signs_c : Con Tryd.prog 17 [] [] (fun K => K (.cell (.map (setE SG))) []) := by
  refine con_intro Tryd.func17 rfl rfl (Nat.le_of_ble_eq_true rfl) (fun c hc => ?_)
  refine jc_seq ?_
  refine jc_region ?_
  refine jl_op ?_ (nb rfl)
  refine ow_assign rfl ?_
  refine jl_nil ?_
  refine jq_then ?_
  refine jc_seq ?_
  refine jc_region ?_
  refine jl_op ?_ (nb rfl)
  refine ow_makeMap (fun bm hbm => ?_)
  refine jl_op0 ?_
  refine ow_insertSet 0 rfl rfl rfl rfl (by decide) ?_
  refine jl_op0 ?_
  refine ow_insertSet 0 rfl rfl rfl rfl (by decide) ?_
  refine jl_op0 ?_
  refine ow_insertSet 0 rfl rfl rfl rfl (by decide) ?_
  refine jl_op0 ?_
  refine ow_insertSet 0 rfl rfl rfl rfl (by decide) ?_
  refine jl_op0 ?_
  refine ow_insertSet 0 rfl rfl rfl rfl (by decide) ?_
  refine jl_op0 ?_
  refine ow_insertSet 0 rfl rfl rfl rfl (by decide) ?_
  refine jl_op0 ?_
  refine ow_insertSet 0 rfl rfl rfl rfl (by decide) ?_
  refine jl_op0 ?_
  refine ow_insertSet 0 rfl rfl rfl rfl (by decide) ?_
  refine jl_op0 ?_
  refine ow_insertSet 0 rfl rfl rfl rfl (by decide) ?_
  refine jl_op0 ?_
  refine ow_insertSet 0 rfl rfl rfl rfl (by decide) ?_
  refine jl_op0 ?_
  refine ow_insertSet 0 rfl rfl rfl rfl (by decide) ?_
  refine jl_op0 ?_
  refine ow_insertSet 0 rfl rfl rfl rfl (by decide) ?_
  refine jl_op0 ?_
  refine ow_insertSet 0 rfl rfl rfl rfl (by decide) ?_
  refine jl_op0 ?_
  refine ow_insertSet 0 rfl rfl rfl rfl (by decide) ?_
  refine jl_op0 ?_
  refine ow_insertSet 0 rfl rfl rfl rfl (by decide) ?_
  refine jl_op0 ?_
  refine ow_insertSet 0 rfl rfl rfl rfl (by decide) ?_
  refine jl_op0 ?_
  refine ow_insertSet 0 rfl rfl rfl rfl (by decide) ?_
  refine jl_op0 ?_
  refine ow_insertSet 0 rfl rfl rfl rfl (by decide) ?_
  refine jl_op0 ?_
  refine ow_insertSet 0 rfl rfl rfl rfl (by decide) ?_
  refine jl_op0 ?_
  refine ow_insertSet 0 rfl rfl rfl rfl (by decide) ?_
  refine jl_op0 ?_
  refine ow_insertSet 0 rfl rfl rfl rfl (by decide) ?_
  refine jl_op ?_ (nb rfl)
  refine ow_move rfl ?_
  refine jl_op ?_ (nb rfl)
  refine ow_assign rfl ?_
  refine jl_nil ?_
  refine jq_then ?_
  refine jc_ret ?_
  refine jq_freezeM 0 0 rfl rfl hbm ?_
  refine jq_ret1 rfl rfl [] rfl (fun K h => h)

/-- How many bytes a sign has at the beginning. -/
def signLen (s : ByteArray) : Nat := if 2 ≤ s.size ∧ hasS SG (s.extract 0 2) = true then 2 else if 1 ≤ s.size ∧ hasS SG (s.extract 0 1) = true then 1 else 0
theorem sign_c (s : ByteArray) (hs : s.size ≤ 1000000) : Con Tryd.prog 29 [Str s, .cell (.map (setE SG))] [] (fun K => K (In .i64 (signLen s : Int)) []) := by
  refine con_intro Tryd.func29 rfl rfl (Nat.le_of_ble_eq_true rfl) (fun c hc => ?_)
  refine jc_seq ?_
  refine jc_region ?_
  refine jl_op ?_ (nb rfl)
  refine ow_assign rfl ?_
  refine jl_nil ?_
  refine jq_then ?_
  refine jc_seq ?_
  refine jc_seq ?_
  refine jc_region ?_
  refine jl_op ?_ (nb rfl)
  refine ow_move rfl ?_
  refine jl_op ?_ (nb rfl)
  refine ow_lenstr rfl rfl ?_
  refine jl_op ?_ (nb rfl)
  refine ow_min2 rfl rfl ?_
  refine jl_op ?_ (nb rfl)
  refine ow_assign rfl ?_
  refine jl_nil ?_
  refine jq_then ?_
  refine jc_block ?_
  obtain ⟨n0, hn0, hn2, hns⟩ : ∃ n : Nat, min 2 (s.size : Int) = (n : Int) ∧ n ≤ 2 ∧ n = min 2 s.size := ⟨min 2 s.size, by omega, by omega, rfl⟩
  rw [hn0]
  refine jc_loopS [] (fun k : Nat => k ≤ 2 ∧ k ≤ s.size ∧ (k < 2 → ¬ (2 ≤ s.size ∧ hasS SG (s.extract 0 2) = true)) ∧ (k < 1 → ¬ (1 ≤ s.size ∧ hasS SG (s.extract 0 1) = true))) (fun k => [(0, Str s), (1, .cell (.map (setE SG))), (5, In .i64 (k : Int))]) (fun _ => []) (fun k => k) n0 ⟨hn2, by omega, fun h => by omega, fun h => by omega⟩ ?_ ?_ ?_
  · exact sub_end
  · (repeat (first | exact True.intro | refine ⟨rfl, ?_⟩))
  · rintro k ⟨h2, hle, hn2, hn1⟩
    refine jc_seq ?_
    refine jc_seq ?_
    refine jc_region ?_
    refine jl_op ?_ (nb rfl)
    refine ow_move rfl ?_
    refine jl_op ?_ (nb rfl)
    refine ow_gtr rfl rfl ?_
    refine jl_nil ?_
    refine jq_then ?_
    refine jc_condd rfl (fun hpos => ?_) (fun hz => ?_)
    · refine jc_skip ?_
      refine jq_then ?_
      refine jc_seq ?_
      refine jc_block ?_
      refine jc_seq ?_
      refine jc_region ?_
      refine jl_op ?_ (nb rfl)
      refine ow_move rfl ?_
      refine jl_op ?_ (nb rfl)
      refine ow_move rfl ?_
      refine jl_op ?_ (nb rfl)
      refine ow_move rfl ?_
      refine jl_op ?_ (nb rfl)
      refine ow_substrHi rfl rfl rfl (by omega) (by omega) ?_
      refine jl_op ?_ (nb rfl)
      refine ow_lookupSet rfl rfl rfl ?_
      refine jl_nil ?_
      refine jq_then ?_
      refine jc_cond rfl (fun hb => ?_) (fun hb => ?_)
      · have e : signLen s = k := by
          have hk : k = 2 ∨ k = 1 := by omega
          rcases hk with rfl | rfl
          · unfold signLen; rw [if_pos ⟨by omega, hb⟩]
          · unfold signLen; rw [if_neg (hn2 (by omega)), if_pos ⟨by omega, hb⟩]
        refine jc_seq ?_
        refine jc_region ?_
        refine jl_op ?_ (nb rfl)
        refine ow_move rfl ?_
        refine jl_op ?_ (nb rfl)
        refine ow_assign rfl ?_
        refine jl_nil ?_
        refine jq_then ?_
        refine jc_ret ?_
        refine jq_block_ret ?_
        refine jq_then_ret ?_
        refine jq_then_ret ?_
        refine jq_block_ret ?_
        refine jq_then_ret ?_
        refine jq_ret1 rfl rfl [] rfl (fun K h => by rw [e] at h; exact h)
      · refine jc_skip ?_
        refine jq_block ?_
        refine jq_then ?_
        refine jc_region ?_
        refine jl_op ?_ (nb rfl)
        refine ow_move rfl ?_
        refine jl_op ?_ (nb rfl)
        refine ow_sub64 rfl rfl (by omega) ?_
        refine jl_op ?_ (nb rfl)
        refine ow_assign rfl ?_
        refine jl_nil ?_
        obtain ⟨m, rfl⟩ : ∃ m, k = m + 1 := ⟨k - 1, by omega⟩
        refine jq_againS (i := m + 1) m ⟨by omega, by omega, fun h hh => ?_, fun h hh => ?_⟩ (by omega) ?_ ?_
        · have hm : m = 1 ∨ m = 0 := by omega
          rcases hm with rfl | rfl
          · have hb' : hasS SG (s.extract 0 2) = false := hb
            rw [hb'] at hh; exact absurd hh.2 (by simp)
          · exact hn2 (by omega) hh
        · obtain rfl : m = 0 := by omega
          have hb' : hasS SG (s.extract 0 1) = false := hb
          rw [hb'] at hh; exact absurd hh.2 (by simp)
        · exact sub_end
        · rw [show ((m : Nat) : Int) = ((m + 1 : Nat) : Int) - 1 by omega]
          (repeat (first | exact True.intro | refine ⟨rfl, ?_⟩))
    · obtain rfl : k = 0 := by omega
      have e : signLen s = 0 := by unfold signLen; rw [if_neg (hn2 (by omega)), if_neg (hn1 (by omega))]
      refine jc_exit ?_
      refine jq_then_exit ?_
      refine jq_then_exit ?_
      refine jq_block_exit ?_
      refine jq_then ?_
      refine jc_seq ?_
      refine jc_region ?_
      refine jl_op ?_ (nb rfl)
      refine ow_assign rfl ?_
      refine jl_nil ?_
      refine jq_then ?_
      refine jc_ret ?_
      refine jq_ret1 rfl rfl [] rfl (fun K h => by rw [e] at h; exact h)
end Go.Proofs.YtccojifhaoadbaaDoor
