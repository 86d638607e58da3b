import Derived.Test.YtjkkkjikhjfdnaaSt5
import Derived.Test.YtjkkkjikhjfdnaaVcl
namespace Go.Proofs.Ytjkkkjikhjfdnaa
open Go.Vc
attribute [local irreducible] JL JC JQ OpWp Con ConN
set_option maxHeartbeats 4000000

/-! Terms -/
def isBlock (n : Int) : Bool := decide (0 ≤ n) && decide (n < 256)
def isSmall (n : Int) : Bool := decide (-1048576 ≤ n) && decide (n ≤ 1048576)
theorem isBlock_iff {n : Int} : isBlock n = true ↔ 0 ≤ n ∧ n < 256 := by simp [isBlock]
theorem isSmall_iff {n : Int} : isSmall n = true ↔ -1048576 ≤ n ∧ n ≤ 1048576 := by simp [isSmall]
theorem block_c (n : Int) : Con Try.prog 30 [In .i64 n] [] (fun K => K (Bl (isBlock n)) []) := by
  by_cases h : (0 : Int) ≤ n
  · refine con_intro Try.func30 rfl rfl (Nat.le_of_ble_eq_true rfl) (fun c hc => ?_)
    refine jc_seq ?_
    refine jc_region ?_
    refine jl_op ?_ (nb rfl)
    refine ow_assign rfl ?_
    refine jl_nil ?_
    refine jq_then ?_
    refine jc_seq ?_
    refine jc_region ?_
    refine jl_op ?_ (nb rfl)
    refine ow_move rfl ?_
    refine jl_op ?_ (nb rfl)
    refine ow_geq rfl rfl ?_
    refine jl_op ?_ (nb rfl)
    refine ow_move rfl ?_
    refine jl_guardY rfl (by first | assumption | exact decide_eq_true rfl | exact decide_eq_true (by first | assumption | omega) | exact decide_eq_false (by first | assumption | omega) | with_reducible rfl | exact (rfl : false = !true) | exact (rfl : true = !false)) (nb rfl) ?_
    refine ow_move rfl ?_
    refine jl_guardY rfl (by first | assumption | exact decide_eq_true rfl | exact decide_eq_true (by first | assumption | omega) | exact decide_eq_false (by first | assumption | omega) | with_reducible rfl | exact (rfl : false = !true) | exact (rfl : true = !false)) (nb rfl) ?_
    refine ow_lss rfl rfl ?_
    refine jl_op ?_ (nb rfl)
    refine ow_pickT rfl (by first | assumption | exact decide_eq_true rfl | exact decide_eq_true (by first | assumption | omega) | exact decide_eq_false (by first | assumption | omega) | with_reducible rfl | exact (rfl : false = !true) | exact (rfl : true = !false)) rfl ?_
    refine jl_op ?_ (nb rfl)
    refine ow_assign rfl ?_
    refine jl_nil ?_
    refine jq_then ?_
    refine jc_ret ?_
    refine jq_ret1 rfl rfl [] rfl (fun K h' => by rw [show isBlock n = decide (n < 256) by simp [isBlock, h]] at h'; exact h')
  · refine con_intro Try.func30 rfl rfl (Nat.le_of_ble_eq_true rfl) (fun c hc => ?_)
    refine jc_seq ?_
    refine jc_region ?_
    refine jl_op ?_ (nb rfl)
    refine ow_assign rfl ?_
    refine jl_nil ?_
    refine jq_then ?_
    refine jc_seq ?_
    refine jc_region ?_
    refine jl_op ?_ (nb rfl)
    refine ow_move rfl ?_
    refine jl_op ?_ (nb rfl)
    refine ow_geq rfl rfl ?_
    refine jl_op ?_ (nb rfl)
    refine ow_move rfl ?_
    refine jl_guardN rfl (by first | assumption | exact decide_eq_true rfl | exact decide_eq_true (by first | assumption | omega) | exact decide_eq_false (by first | assumption | omega) | with_reducible rfl | exact (rfl : false = !true) | exact (rfl : true = !false)) (nb rfl) ?_
    refine jl_guardN rfl (by first | assumption | exact decide_eq_true rfl | exact decide_eq_true (by first | assumption | omega) | exact decide_eq_false (by first | assumption | omega) | with_reducible rfl | exact (rfl : false = !true) | exact (rfl : true = !false)) (nb rfl) ?_
    refine jl_op ?_ (nb rfl)
    refine ow_pickF rfl (by first | assumption | exact decide_eq_true rfl | exact decide_eq_true (by first | assumption | omega) | exact decide_eq_false (by first | assumption | omega) | with_reducible rfl | exact (rfl : false = !true) | exact (rfl : true = !false)) rfl ?_
    refine jl_op ?_ (nb rfl)
    refine ow_assign rfl ?_
    refine jl_nil ?_
    refine jq_then ?_
    refine jc_ret ?_
    refine jq_ret1 rfl rfl [] rfl (fun K h' => by rw [show isBlock n = false by simp [isBlock, h]] at h'; exact h')
theorem small_c (n : Int) : Con Try.prog 31 [In .i64 n] [] (fun K => K (Bl (isSmall n)) []) := by
  by_cases h : (-1048576 : Int) ≤ n
  · refine con_intro Try.func31 rfl rfl (Nat.le_of_ble_eq_true rfl) (fun c hc => ?_)
    refine jc_seq ?_
    refine jc_region ?_
    refine jl_op ?_ (nb rfl)
    refine ow_assign rfl ?_
    refine jl_nil ?_
    refine jq_then ?_
    refine jc_seq ?_
    refine jc_region ?_
    refine jl_op ?_ (nb rfl)
    refine ow_move rfl ?_
    refine jl_op ?_ (nb rfl)
    refine ow_geq rfl rfl ?_
    refine jl_op ?_ (nb rfl)
    refine ow_move rfl ?_
    refine jl_guardY rfl (by first | assumption | exact decide_eq_true rfl | exact decide_eq_true (by first | assumption | omega) | exact decide_eq_false (by first | assumption | omega) | with_reducible rfl | exact (rfl : false = !true) | exact (rfl : true = !false)) (nb rfl) ?_
    refine ow_move rfl ?_
    refine jl_guardY rfl (by first | assumption | exact decide_eq_true rfl | exact decide_eq_true (by first | assumption | omega) | exact decide_eq_false (by first | assumption | omega) | with_reducible rfl | exact (rfl : false = !true) | exact (rfl : true = !false)) (nb rfl) ?_
    refine ow_leq rfl rfl ?_
    refine jl_op ?_ (nb rfl)
    refine ow_pickT rfl (by first | assumption | exact decide_eq_true rfl | exact decide_eq_true (by first | assumption | omega) | exact decide_eq_false (by first | assumption | omega) | with_reducible rfl | exact (rfl : false = !true) | exact (rfl : true = !false)) rfl ?_
    refine jl_op ?_ (nb rfl)
    refine ow_assign rfl ?_
    refine jl_nil ?_
    refine jq_then ?_
    refine jc_ret ?_
    refine jq_ret1 rfl rfl [] rfl (fun K h' => by rw [show isSmall n = decide (n ≤ 1048576) by simp [isSmall, h]] at h'; exact h')
  · refine con_intro Try.func31 rfl rfl (Nat.le_of_ble_eq_true rfl) (fun c hc => ?_)
    refine jc_seq ?_
    refine jc_region ?_
    refine jl_op ?_ (nb rfl)
    refine ow_assign rfl ?_
    refine jl_nil ?_
    refine jq_then ?_
    refine jc_seq ?_
    refine jc_region ?_
    refine jl_op ?_ (nb rfl)
    refine ow_move rfl ?_
    refine jl_op ?_ (nb rfl)
    refine ow_geq rfl rfl ?_
    refine jl_op ?_ (nb rfl)
    refine ow_move rfl ?_
    refine jl_guardN rfl (by first | assumption | exact decide_eq_true rfl | exact decide_eq_true (by first | assumption | omega) | exact decide_eq_false (by first | assumption | omega) | with_reducible rfl | exact (rfl : false = !true) | exact (rfl : true = !false)) (nb rfl) ?_
    refine jl_guardN rfl (by first | assumption | exact decide_eq_true rfl | exact decide_eq_true (by first | assumption | omega) | exact decide_eq_false (by first | assumption | omega) | with_reducible rfl | exact (rfl : false = !true) | exact (rfl : true = !false)) (nb rfl) ?_
    refine jl_op ?_ (nb rfl)
    refine ow_pickF rfl (by first | assumption | exact decide_eq_true rfl | exact decide_eq_true (by first | assumption | omega) | exact decide_eq_false (by first | assumption | omega) | with_reducible rfl | exact (rfl : false = !true) | exact (rfl : true = !false)) rfl ?_
    refine jl_op ?_ (nb rfl)
    refine ow_assign rfl ?_
    refine jl_nil ?_
    refine jq_then ?_
    refine jc_ret ?_
    refine jq_ret1 rfl rfl [] rfl (fun K h' => by rw [show isSmall n = false by simp [isSmall, h]] at h'; exact h')
def badT (t : Tm) : Bool := !isBlock t.1 || !isSmall t.2
def bigT (t : Tm) : Bool := !isSmall t.2
def zeroT (t : Tm) : Bool := decide (t.2 = 0)
theorem of1_c (t : Tm) : Con Try.prog 33 [.row (TR t)] [] (fun K => K (Bl (badT t)) []) := by
  cases hb : isBlock t.1 with
  | true =>
    have hb' : (!isBlock t.1) = false := by rw [hb]; rfl
    refine con_intro Try.func33 rfl rfl (Nat.le_of_ble_eq_true rfl) (fun c hc => ?_)
    refine jc_seq ?_
    refine jc_region ?_
    refine jl_op ?_ (nb rfl)
    refine ow_box rfl (fun bx => ?_)
    refine jl_op ?_ (nb rfl)
    refine ow_assign rfl ?_
    refine jl_nil ?_
    refine jq_then ?_
    refine jc_seq ?_
    refine jc_region ?_
    refine jl_op ?_ (nb rfl)
    refine ow_fieldAddr rfl rfl rfl (nb rfl) ?_
    refine jl_op ?_ (nb rfl)
    refine ow_load 0 rfl rfl rfl rfl ?_
    refine jl_op ?_ (nb rfl)
    refine ow_call0 rfl (block_c _) ?_
    refine jl_op ?_ (nb rfl)
    refine ow_not rfl ?_
    refine jl_op ?_ (nb rfl)
    refine ow_move rfl ?_
    refine jl_guardY rfl (by first | assumption | exact decide_eq_true rfl | exact decide_eq_true (by first | assumption | omega) | exact decide_eq_false (by first | assumption | omega) | with_reducible rfl | exact (rfl : false = !true) | exact (rfl : true = !false)) (nb rfl) ?_
    refine ow_fieldAddr rfl rfl rfl (nb rfl) ?_
    refine jl_guardY rfl (by first | assumption | exact decide_eq_true rfl | exact decide_eq_true (by first | assumption | omega) | exact decide_eq_false (by first | assumption | omega) | with_reducible rfl | exact (rfl : false = !true) | exact (rfl : true = !false)) (nb rfl) ?_
    refine ow_load 0 rfl rfl rfl rfl ?_
    refine jl_guardY rfl (by first | assumption | exact decide_eq_true rfl | exact decide_eq_true (by first | assumption | omega) | exact decide_eq_false (by first | assumption | omega) | with_reducible rfl | exact (rfl : false = !true) | exact (rfl : true = !false)) (nb rfl) ?_
    refine ow_call0 rfl (small_c _) ?_
    refine jl_guardY rfl (by first | assumption | exact decide_eq_true rfl | exact decide_eq_true (by first | assumption | omega) | exact decide_eq_false (by first | assumption | omega) | with_reducible rfl | exact (rfl : false = !true) | exact (rfl : true = !false)) (nb rfl) ?_
    refine ow_not rfl ?_
    refine jl_op ?_ (nb rfl)
    refine ow_pickF rfl (by first | assumption | exact decide_eq_true rfl | exact decide_eq_true (by first | assumption | omega) | exact decide_eq_false (by first | assumption | omega) | with_reducible rfl | exact (rfl : false = !true) | exact (rfl : true = !false)) rfl ?_
    refine jl_op ?_ (nb rfl)
    refine ow_assign rfl ?_
    refine jl_nil ?_
    refine jq_then ?_
    refine jc_ret ?_
    refine jq_ret1 rfl rfl [] rfl (fun K h' => by rw [show badT t = !isSmall t.2 by simp [badT, hb]] at h'; exact h')
  | false =>
    have hb' : (!isBlock t.1) = true := by rw [hb]; rfl
    refine con_intro Try.func33 rfl rfl (Nat.le_of_ble_eq_true rfl) (fun c hc => ?_)
    refine jc_seq ?_
    refine jc_region ?_
    refine jl_op ?_ (nb rfl)
    refine ow_box rfl (fun bx => ?_)
    refine jl_op ?_ (nb rfl)
    refine ow_assign rfl ?_
    refine jl_nil ?_
    refine jq_then ?_
    refine jc_seq ?_
    refine jc_region ?_
    refine jl_op ?_ (nb rfl)
    refine ow_fieldAddr rfl rfl rfl (nb rfl) ?_
    refine jl_op ?_ (nb rfl)
    refine ow_load 0 rfl rfl rfl rfl ?_
    refine jl_op ?_ (nb rfl)
    refine ow_call0 rfl (block_c _) ?_
    refine jl_op ?_ (nb rfl)
    refine ow_not rfl ?_
    refine jl_op ?_ (nb rfl)
    refine ow_move rfl ?_
    refine jl_guardN rfl (by first | assumption | exact decide_eq_true rfl | exact decide_eq_true (by first | assumption | omega) | exact decide_eq_false (by first | assumption | omega) | with_reducible rfl | exact (rfl : false = !true) | exact (rfl : true = !false)) (nb rfl) ?_
    refine jl_guardN rfl (by first | assumption | exact decide_eq_true rfl | exact decide_eq_true (by first | assumption | omega) | exact decide_eq_false (by first | assumption | omega) | with_reducible rfl | exact (rfl : false = !true) | exact (rfl : true = !false)) (nb rfl) ?_
    refine jl_guardN rfl (by first | assumption | exact decide_eq_true rfl | exact decide_eq_true (by first | assumption | omega) | exact decide_eq_false (by first | assumption | omega) | with_reducible rfl | exact (rfl : false = !true) | exact (rfl : true = !false)) (nb rfl) ?_
    refine jl_guardN rfl (by first | assumption | exact decide_eq_true rfl | exact decide_eq_true (by first | assumption | omega) | exact decide_eq_false (by first | assumption | omega) | with_reducible rfl | exact (rfl : false = !true) | exact (rfl : true = !false)) (nb rfl) ?_
    refine jl_op ?_ (nb rfl)
    refine ow_pickT rfl (by first | assumption | exact decide_eq_true rfl | exact decide_eq_true (by first | assumption | omega) | exact decide_eq_false (by first | assumption | omega) | with_reducible rfl | exact (rfl : false = !true) | exact (rfl : true = !false)) rfl ?_
    refine jl_op ?_ (nb rfl)
    refine ow_assign rfl ?_
    refine jl_nil ?_
    refine jq_then ?_
    refine jc_ret ?_
    refine jq_ret1 rfl rfl [] rfl (fun K h' => by rw [show badT t = true by simp [badT, hb]] at h'; exact h')
theorem of2_c (t : Tm) : Con Try.prog 35 [.row (TR t)] [] (fun K => K (Bl (bigT t)) []) := by
  refine con_intro Try.func35 rfl rfl (Nat.le_of_ble_eq_true rfl) (fun c hc => ?_)
  refine jc_seq ?_
  refine jc_region ?_
  refine jl_op ?_ (nb rfl)
  refine ow_box rfl (fun bx => ?_)
  refine jl_op ?_ (nb rfl)
  refine ow_assign rfl ?_
  refine jl_nil ?_
  refine jq_then ?_
  refine jc_seq ?_
  refine jc_region ?_
  refine jl_op ?_ (nb rfl)
  refine ow_fieldAddr rfl rfl rfl (nb rfl) ?_
  refine jl_op ?_ (nb rfl)
  refine ow_load 0 rfl rfl rfl rfl ?_
  refine jl_op ?_ (nb rfl)
  refine ow_call0 rfl (small_c _) ?_
  refine jl_op ?_ (nb rfl)
  refine ow_not rfl ?_
  refine jl_op ?_ (nb rfl)
  refine ow_assign rfl ?_
  refine jl_nil ?_
  refine jq_then ?_
  refine jc_ret ?_
  refine jq_ret1 rfl rfl [] rfl (fun K h' => h')
theorem ga2_c (t : Tm) : Con Try.prog 54 [.row (TR t)] [] (fun K => K (Bl (zeroT t)) []) := by
  refine con_intro Try.func54 rfl rfl (Nat.le_of_ble_eq_true rfl) (fun c hc => ?_)
  refine jc_seq ?_
  refine jc_region ?_
  refine jl_op ?_ (nb rfl)
  refine ow_box rfl (fun bx => ?_)
  refine jl_op ?_ (nb rfl)
  refine ow_assign rfl ?_
  refine jl_nil ?_
  refine jq_then ?_
  refine jc_seq ?_
  refine jc_region ?_
  refine jl_op ?_ (nb rfl)
  refine ow_fieldAddr rfl rfl rfl (nb rfl) ?_
  refine jl_op ?_ (nb rfl)
  refine ow_load 0 rfl rfl rfl rfl ?_
  refine jl_op ?_ (nb rfl)
  refine ow_eql rfl rfl ?_
  refine jl_op ?_ (nb rfl)
  refine ow_assign rfl ?_
  refine jl_nil ?_
  refine jq_then ?_
  refine jc_ret ?_
  refine jq_ret1 rfl rfl [] rfl (fun K h' => h')

/-! slices.IndexFunc, ContainsFunc, Clone, DeleteFunc -/
/-- Where the first fits; -1 if none does. -/
def idxOf {α : Type} (p : α → Bool) (l : List α) : Int := match l.findIdx? p with | some i => (i : Int) | none => -1
theorem idx_some {α : Type} {p : α → Bool} {l : List α} {k : Nat} (hk : k < l.length) (h : p l[k] = true) (hno : ∀ j (hj : j < l.length), j < k → p l[j] = false) : idxOf p l = (k : Int) := by
  unfold idxOf
  rw [List.findIdx?_eq_some_iff_getElem.2 ⟨hk, h, fun j hj => by rw [hno j (by omega) hj]; simp⟩]
theorem idx_none {α : Type} {p : α → Bool} {l : List α} (hno : ∀ j (hj : j < l.length), p l[j] = false) : idxOf p l = -1 := by
  unfold idxOf
  rw [List.findIdx?_eq_none_iff.2 (fun x hx => by obtain ⟨j, hj, rfl⟩ := List.mem_iff_getElem.1 hx; exact hno j hj)]
theorem idx_any {α : Type} (p : α → Bool) (l : List α) : decide (0 ≤ idxOf p l) = l.any p := by
  unfold idxOf
  cases h : l.findIdx? p with
  | some i =>
    obtain ⟨hi, hp, _⟩ := List.findIdx?_eq_some_iff_getElem.1 h
    have : l.any p = true := List.any_eq_true.2 ⟨_, List.getElem_mem hi, hp⟩
    rw [this]
    exact decide_eq_true (show (0 : Int) ≤ (i : Int) by omega)
  | none =>
    have : l.any p = false := by
      rw [List.any_eq_false]
      intro x hx
      rw [List.findIdx?_eq_none_iff.1 h x hx]
      simp
    rw [this]
    rfl
abbrev FV (F : FuncId) : S := .cell (.val (.func (.func F) #[] #[]))

theorem idxT_c (F : FuncId) [FI Try.prog F] (p : Tm → Bool) (hp : ∀ t, Con Try.prog F [.row (TR t)] [] (fun K => K (Bl (p t)) [])) (l : List Tm) :
    Con Try.prog 49 [.cell (.list (l.map TR)), FV F] [] (fun K => K (In .i64 (idxOf p l)) []) := by
  have eL : (l.map TR).length = l.length := List.length_map _
  refine con_intro Try.func49 rfl rfl (Nat.le_of_ble_eq_true rfl) (fun c hc => ?_)
  refine jc_seq ?_
  refine jc_region ?_
  refine jl_op ?_ (nb rfl)
  refine ow_assign rfl ?_
  refine jl_nil ?_
  refine jq_then ?_
  refine jc_seq ?_
  refine jc_seq ?_
  refine jc_region ?_
  refine jl_op ?_ (nb rfl)
  refine ow_move rfl ?_
  refine jl_op ?_ (nb rfl)
  refine ow_len rfl (fun hlen => ?_)
  refine jl_op ?_ (nb rfl)
  refine ow_move rfl ?_
  refine jl_nil ?_
  refine jq_then ?_
  refine jc_block ?_
  refine jc_loopS [] (fun k : Nat => k ≤ l.length ∧ ∀ j (hj : j < l.length), j < k → p l[j] = false) (fun k => [(0, .cell (.list (l.map TR))), (1, FV F), (7, In .i64 ((l.map TR).length : Int)), (8, In .i64 (k : Int))]) (fun _ => []) (fun k => l.length - k) 0 ⟨Nat.zero_le _, fun j _ h => by omega⟩ ?_ ?_ ?_
  · exact sub_end
  · (repeat (first | exact True.intro | refine ⟨rfl, ?_⟩))
  · rintro k ⟨hk, hno⟩
    refine jc_reset [(0, .cell (.list (l.map TR))), (1, FV F), (7, In .i64 ((l.map TR).length : Int)), (8, In .i64 (k : Int))] [] ?_ ⟨[], [], rfl⟩ ?_
    · (repeat (first | exact True.intro | refine ⟨rfl, ?_⟩))
    refine jc_seq ?_
    refine jc_region ?_
    refine jl_op ?_ (nb rfl)
    refine ow_lss rfl rfl ?_
    refine jl_nil ?_
    refine jq_then ?_
    refine jc_seq ?_
    refine jc_condd rfl (fun hlt => ?_) (fun hge => ?_)
    · have hlt' : k < l.length := by omega
      refine jc_skip ?_
      refine jq_then ?_
      refine jc_seq ?_
      refine jc_block ?_
      refine jc_seq ?_
      refine jc_region ?_
      refine jl_op ?_ (nb rfl)
      refine ow_move rfl ?_
      refine jl_op ?_ (nb rfl)
      refine ow_assign rfl ?_
      refine jl_nil ?_
      refine jq_then ?_
      refine jc_seq ?_
      refine jc_region ?_
      refine jl_op ?_ (nb rfl)
      refine ow_move rfl ?_
      refine jl_op ?_ (nb rfl)
      refine ow_move rfl ?_
      refine jl_op ?_ (nb rfl)
      refine ow_move rfl ?_
      refine jl_op ?_ (nb rfl)
      refine ow_indexAddrMapE rfl rfl (by omega) rfl rfl (nb rfl) ?_
      refine jl_op ?_ (nb rfl)
      refine ow_loadPlaceN rfl rfl rfl ?_
      refine jl_op ?_ (nb rfl)
      refine ow_callv0 rfl rfl (hp _) ?_
      refine jl_nil ?_
      refine jq_then ?_
      refine jc_cond rfl (fun hb => ?_) (fun hb => ?_)
      · refine jc_seq ?_
        refine jc_region ?_
        refine jl_op ?_ (nb rfl)
        refine ow_move rfl ?_
        refine jl_op ?_ (nb rfl)
        refine ow_assign rfl ?_
        refine jl_nil ?_
        refine jq_then ?_
        refine jc_ret ?_
        refine jq_block_ret ?_
        refine jq_then_ret ?_
        refine jq_then_ret ?_
        refine jq_block_ret ?_
        refine jq_then_ret ?_
        refine jq_ret1 rfl rfl [] rfl (fun K h => by rw [idx_some hlt' hb hno] at h; exact h)
      · refine jc_skip ?_
        refine jq_block ?_
        refine jq_then ?_
        refine jc_region ?_
        refine jl_op ?_ (nb rfl)
        refine ow_add64 rfl rfl (by omega) ?_
        refine jl_op ?_ (nb rfl)
        refine ow_move rfl ?_
        refine jl_nil ?_
        refine jq_againS (k + 1) ⟨by omega, fun j hj hjk => ?_⟩ (by omega) ?_ ?_
        · by_cases e : j < k
          · exact hno j hj e
          · obtain rfl : j = k := by omega
            exact hb
        · exact sub_end
        · (repeat (first | exact True.intro | refine ⟨rfl, ?_⟩))
    · refine jc_exit ?_
      refine jq_then_exit ?_
      refine jq_then_exit ?_
      refine jq_block_exit ?_
      refine jq_then ?_
      refine jc_seq ?_
      refine jc_region ?_
      refine jl_op ?_ (nb rfl)
      refine ow_assign rfl ?_
      refine jl_nil ?_
      refine jq_then ?_
      refine jc_ret ?_
      refine jq_ret1 rfl rfl [] rfl (fun K h => by rw [idx_none (fun j hj => hno j hj (by omega))] at h; exact h)
theorem hasT_c (F : FuncId) [FI Try.prog F] (p : Tm → Bool) (hp : ∀ t, Con Try.prog F [.row (TR t)] [] (fun K => K (Bl (p t)) [])) (l : List Tm) :
    Con Try.prog 32 [.cell (.list (l.map TR)), FV F] [] (fun K => K (Bl (l.any p)) []) := by
  refine con_intro Try.func32 rfl rfl (Nat.le_of_ble_eq_true rfl) (fun c hc => ?_)
  refine jc_seq ?_
  refine jc_region ?_
  refine jl_op ?_ (nb rfl)
  refine ow_assign rfl ?_
  refine jl_nil ?_
  refine jq_then ?_
  refine jc_seq ?_
  refine jc_region ?_
  refine jl_op ?_ (nb rfl)
  refine ow_move rfl ?_
  refine jl_op ?_ (nb rfl)
  refine ow_move rfl ?_
  refine jl_op ?_ (nb rfl)
  refine ow_call0 rfl (idxT_c F p hp l) ?_
  refine jl_op ?_ (nb rfl)
  refine ow_geq rfl rfl ?_
  refine jl_op ?_ (nb rfl)
  refine ow_assign rfl ?_
  refine jl_nil ?_
  refine jq_then ?_
  refine jc_ret ?_
  refine jq_ret1 rfl rfl [] rfl (fun K h => by rw [← idx_any] at h; exact h)
/-- .. of a slice of one's own. -/
theorem idxO_c (F : FuncId) [FI Try.prog F] (p : Tm → Bool) (hp : ∀ t, Con Try.prog F [.row (TR t)] [] (fun K => K (Bl (p t)) [])) (V : Value) (l : List Tm) :
    Con Try.prog 49 [.cell (.val V), FV F] [Ow V l] (fun K => K (In .i64 (idxOf p l)) [Ow V l]) := by
  have eL : (l.map TR).length = l.length := List.length_map _
  refine con_intro Try.func49 rfl rfl (Nat.le_of_ble_eq_true rfl) (fun c hc => ?_)
  refine jc_seq ?_
  refine jc_region ?_
  refine jl_op ?_ (nb rfl)
  refine ow_assign rfl ?_
  refine jl_nil ?_
  refine jq_then ?_
  refine jc_seq ?_
  refine jc_seq ?_
  refine jc_region ?_
  refine jl_op ?_ (nb rfl)
  refine ow_move rfl ?_
  refine jl_op ?_ (nb rfl)
  refine ow_lenown 0 rfl rfl (fun hlen => ?_)
  refine jl_op ?_ (nb rfl)
  refine ow_move rfl ?_
  refine jl_nil ?_
  refine jq_then ?_
  refine jc_block ?_
  refine jc_loopS [] (fun k : Nat => k ≤ l.length ∧ ∀ j (hj : j < l.length), j < k → p l[j] = false) (fun k => [(0, .cell (.val V)), (1, FV F), (7, In .i64 ((l.map TR).length : Int)), (8, In .i64 (k : Int))]) (fun _ => [Ow V l]) (fun k => l.length - k) 0 ⟨Nat.zero_le _, fun j _ h => by omega⟩ ?_ ?_ ?_
  · refine sub_step 0 rfl ?_
    exact sub_end
  · (repeat (first | exact True.intro | refine ⟨rfl, ?_⟩))
  · rintro k ⟨hk, hno⟩
    refine jc_reset [(0, .cell (.val V)), (1, FV F), (7, In .i64 ((l.map TR).length : Int)), (8, In .i64 (k : Int))] [Ow V l] ?_ ⟨[0], [], rfl⟩ ?_
    · (repeat (first | exact True.intro | refine ⟨rfl, ?_⟩))
    refine jc_seq ?_
    refine jc_region ?_
    refine jl_op ?_ (nb rfl)
    refine ow_lss rfl rfl ?_
    refine jl_nil ?_
    refine jq_then ?_
    refine jc_seq ?_
    refine jc_condd rfl (fun hlt => ?_) (fun hge => ?_)
    · have hlt' : k < l.length := by omega
      refine jc_skip ?_
      refine jq_then ?_
      refine jc_seq ?_
      refine jc_block ?_
      refine jc_seq ?_
      refine jc_region ?_
      refine jl_op ?_ (nb rfl)
      refine ow_move rfl ?_
      refine jl_op ?_ (nb rfl)
      refine ow_assign rfl ?_
      refine jl_nil ?_
      refine jq_then ?_
      refine jc_seq ?_
      refine jc_region ?_
      refine jl_op ?_ (nb rfl)
      refine ow_move rfl ?_
      refine jl_op ?_ (nb rfl)
      refine ow_move rfl ?_
      refine jl_op ?_ (nb rfl)
      refine ow_move rfl ?_
      refine jl_op ?_ (nb rfl)
      refine ow_indexOwn 0 rfl rfl rfl (by omega) (by first | omega | (simp only [List.length_map]; omega) | (simp only [List.length_map, List.length_set]; omega)) rfl ?_
      refine jl_op (ow_loadInnN 0 k rfl rfl rfl (by omega) (map_at hlt') rfl ?_) (nb rfl)
      refine jl_op ?_ (nb rfl)
      refine ow_callv0 rfl rfl (hp _) ?_
      refine jl_nil ?_
      refine jq_then ?_
      refine jc_cond rfl (fun hb => ?_) (fun hb => ?_)
      · refine jc_seq ?_
        refine jc_region ?_
        refine jl_op ?_ (nb rfl)
        refine ow_move rfl ?_
        refine jl_op ?_ (nb rfl)
        refine ow_assign rfl ?_
        refine jl_nil ?_
        refine jq_then ?_
        refine jc_ret ?_
        refine jq_block_ret ?_
        refine jq_then_ret ?_
        refine jq_then_ret ?_
        refine jq_block_ret ?_
        refine jq_then_ret ?_
        refine jq_ret1S rfl rfl (fun K h => by rw [idx_some hlt' hb hno] at h; exact h) ?_
        refine sub_step 0 rfl ?_
        exact sub_end
      · refine jc_skip ?_
        refine jq_block ?_
        refine jq_then ?_
        refine jc_region ?_
        refine jl_op ?_ (nb rfl)
        refine ow_add64 rfl rfl (by omega) ?_
        refine jl_op ?_ (nb rfl)
        refine ow_move rfl ?_
        refine jl_nil ?_
        refine jq_againS (k + 1) ⟨by omega, fun j hj hjk => ?_⟩ (by omega) ?_ ?_
        · by_cases e : j < k
          · exact hno j hj e
          · obtain rfl : j = k := by omega
            exact hb
        · refine sub_step 0 rfl ?_
          exact sub_end
        · (repeat (first | exact True.intro | refine ⟨rfl, ?_⟩))
    · refine jc_exit ?_
      refine jq_then_exit ?_
      refine jq_then_exit ?_
      refine jq_block_exit ?_
      refine jq_then ?_
      refine jc_seq ?_
      refine jc_region ?_
      refine jl_op ?_ (nb rfl)
      refine ow_assign rfl ?_
      refine jl_nil ?_
      refine jq_then ?_
      refine jc_ret ?_
      refine jq_ret1S rfl rfl (fun K h => by rw [idx_none (fun j hj => hno j hj (by omega))] at h; exact h) ?_
      refine sub_step 0 rfl ?_
      exact sub_end

theorem Clone_c (l : List Tm) (hl : l.length ≤ 1000000) :
    Con Try.prog 50 [.cell (.list (l.map TR))] [] (fun K => ∀ V : Value, V.oneCell' = true → K (.cell (.val V)) [Ow V l]) := by
  have eL : (l.map TR).length = l.length := List.length_map _
  refine con_intro Try.func50 rfl rfl (Nat.le_of_ble_eq_true rfl) (fun c hc => ?_)
  refine jc_seq ?_
  refine jc_region ?_
  refine jl_op ?_ (nb rfl)
  refine ow_assign rfl ?_
  refine jl_nil ?_
  refine jq_then ?_
  refine jc_seq ?_
  refine jc_seq ?_
  refine jc_region ?_
  refine jl_op ?_ (nb rfl)
  refine ow_move rfl ?_
  refine jl_op (ow_slnil rfl rfl (fun b hb => ?_)) (nb rfl)
  refine jl_nil ?_
  refine jq_then ?_
  refine jc_cond rfl (fun h => ?_) (fun _ => ?_)
  · have h0 : l = [] := List.map_eq_nil_iff.1 (hb h)
    subst h0
    refine jc_seq ?_
    refine jc_region ?_
    refine jl_op ?_ (nb rfl)
    refine ow_assign rfl ?_
    refine jl_nil ?_
    refine jq_then ?_
    refine jc_ret ?_
    refine jq_then_ret ?_
    refine jq_ownNil 44 2 (by omega) ?_
    refine jq_ret1 rfl rfl [0] rfl (fun K h => h _ rfl)
  · refine jc_skip ?_
    refine jq_then ?_
    refine jc_seq ?_
    refine jc_region ?_
    refine jl_op (ow_buildSliceOwn rfl rfl (nb rfl) rfl rfl (nb rfl) (fun v hv fv => ?_)) (nb rfl)
    refine jl_op ?_ (nb rfl)
    refine ow_move rfl ?_
    have h00 : ([] : List Tm).length = 0 := rfl
    change JL c _ _ _ _ [Ow v ([] : List Tm)]
    refine jl_op (ow_appendM 0 rfl rfl rfl rfl rfl rfl rfl (fun _ => rfl) (by show (_ + _) * 16 ≤ _; first | omega | (simp only [List.length_append]; omega)) (by first | omega | (simp only [List.length_append]; omega)) (fun V hV => ?_)) (nb rfl)
    refine jl_op ?_ (nb rfl)
    refine ow_assign rfl ?_
    refine jl_nil ?_
    refine jq_then ?_
    refine jc_ret ?_
    refine jq_ret1 rfl rfl [0] rfl (fun K h => h V hV)

theorem filter_none {p : Tm → Bool} {l : List Tm} (h : idxOf p l = -1) : l.filter (fun t => !p t) = l := by
  unfold idxOf at h
  cases hf : l.findIdx? p with
  | some i => rw [hf] at h; exact absurd h (show ¬ (i : Int) = -1 by omega)
  | none =>
    rw [List.filter_eq_self]
    intro x hx
    rw [List.findIdx?_eq_none_iff.1 hf x hx]
    rfl
theorem idx_first {p : Tm → Bool} {l : List Tm} (h : ¬ idxOf p l = -1) : ∃ k : Nat, idxOf p l = (k : Int) ∧ ∃ hk : k < l.length, p l[k] = true ∧ (l.take k).filter (fun t => !p t) = l.take k := by
  unfold idxOf at h ⊢
  cases hf : l.findIdx? p with
  | none => rw [hf] at h; exact absurd rfl h
  | some i =>
    obtain ⟨hi, hp, hno⟩ := List.findIdx?_eq_some_iff_getElem.1 hf
    refine ⟨i, rfl, hi, hp, ?_⟩
    rw [List.filter_eq_self]
    intro x hx
    obtain ⟨j, hj, rfl⟩ := List.mem_iff_getElem.1 hx
    rw [List.length_take] at hj
    rw [List.getElem_take]
    simpa using hno j (by omega)
theorem trimV_one {V : Value} (h : V.oneCell' = true) (m : Nat) : (trimV V m).oneCell' = true := by
  unfold trimV
  split
  · rfl
  · exact h
theorem DeleteFunc_c (F : FuncId) [FI Try.prog F] (p : Tm → Bool) (hp : ∀ t, Con Try.prog F [.row (TR t)] [] (fun K => K (Bl (p t)) [])) (V : Value) (hV : V.oneCell' = true) (l : List Tm) (hl : l.length ≤ 1000000) :
    Con Try.prog 53 [.cell (.val V), FV F] [Ow V l] (fun K => ∀ V' : Value, V'.oneCell' = true → K (.cell (.val V')) [Ow V' (l.filter (fun t => !p t))]) := by
  have hidx := idxO_c F p hp V l
  refine con_intro Try.func53 rfl rfl (Nat.le_of_ble_eq_true rfl) (fun c hc => ?_)
  refine jc_seq ?_
  refine jc_region ?_
  refine jl_op ?_ (nb rfl)
  refine ow_assign rfl ?_
  refine jl_nil ?_
  refine jq_then ?_
  refine jc_seq ?_
  refine jc_region ?_
  refine jl_op ?_ (nb rfl)
  refine ow_move rfl ?_
  refine jl_op ?_ (nb rfl)
  refine ow_move rfl ?_
  refine jl_op (ow_call1 [0] rfl rfl hidx ?_) (nb rfl)
  by_cases hm1 : idxOf p l = -1
  · rw [hm1]
    refine jl_op ?_ (nb rfl)
    refine ow_assign rfl ?_
    refine jl_nil ?_
    refine jq_then ?_
    refine jc_seq ?_
    refine jc_seq ?_
    refine jc_region ?_
    refine jl_op ?_ (nb rfl)
    refine ow_move rfl ?_
    refine jl_op ?_ (nb rfl)
    refine ow_eql rfl rfl ?_
    refine jl_nil ?_
    refine jq_then ?_
    refine jc_condd rfl (fun _ => ?_) (fun h => absurd rfl h)
    refine jc_seq ?_
    refine jc_region ?_
    refine jl_op ?_ (nb rfl)
    refine ow_move rfl ?_
    refine jl_op ?_ (nb rfl)
    refine ow_assign rfl ?_
    refine jl_nil ?_
    refine jq_then ?_
    refine jc_ret ?_
    refine jq_then_ret ?_
    refine jq_ret1 rfl rfl [0] rfl (fun K h => by have := h V hV; rw [filter_none hm1] at this; exact this)
  · obtain ⟨k0, hk0, hk0l, hpk, hfil⟩ := idx_first hm1
    rw [hk0]
    refine jl_op ?_ (nb rfl)
    refine ow_assign rfl ?_
    refine jl_nil ?_
    refine jq_then ?_
    refine jc_seq ?_
    refine jc_seq ?_
    refine jc_region ?_
    refine jl_op ?_ (nb rfl)
    refine ow_move rfl ?_
    refine jl_op ?_ (nb rfl)
    refine ow_eql rfl rfl ?_
    refine jl_nil ?_
    refine jq_then ?_
    refine jc_condd rfl (fun h => absurd h (show ¬ (k0 : Int) = -1 by omega)) (fun _ => ?_)
    refine jc_skip ?_
    refine jq_then ?_
    refine jc_seq ?_
    refine jc_seq ?_
    refine jc_region ?_
    refine jl_op ?_ (nb rfl)
    refine ow_move rfl ?_
    refine jl_op ?_ (nb rfl)
    refine ow_add64 rfl rfl (by omega) ?_
    refine jl_op ?_ (nb rfl)
    refine ow_assign rfl ?_
    refine jl_nil ?_
    refine jq_then ?_
    refine jc_block ?_
    refine jc_loopS (ι := Nat × Nat × List Tm) [] (fun i => i.1 < i.2.1 ∧ i.2.1 ≤ l.length ∧ i.2.2.length = l.length ∧ i.2.2.take i.1 = (l.take i.2.1).filter (fun t => !p t) ∧ i.2.2.drop i.2.1 = l.drop i.2.1) (fun i => [(0, .cell (.val V)), (1, FV F), (5, In .i64 (i.1 : Int)), (6, In .i64 (i.2.1 : Int))]) (fun i => [Ow V i.2.2]) (fun i => l.length - i.2.1) (k0, k0 + 1, l) ⟨by dsimp only; omega, by dsimp only; omega, rfl, by dsimp only; rw [List.take_succ_eq_append_getElem hk0l, List.filter_append, hfil]; simp [hpk], rfl⟩ ?_ ?_ ?_
    · refine sub_step 0 rfl ?_
      exact sub_end
    · (repeat (first | exact True.intro | refine ⟨rfl, ?_⟩))
    · rintro ⟨i, j, u⟩ ⟨h1, h2, h3, h4, h5⟩
      dsimp only at h1 h2 h3 h4 h5 ⊢
      have eU : (u.map TR).length = l.length := by rw [List.length_map, h3]
      refine jc_reset [(0, .cell (.val V)), (1, FV F), (5, In .i64 (i : Int)), (6, In .i64 (j : Int))] [Ow V u] ?_ ⟨[0], [], rfl⟩ ?_
      · (repeat (first | exact True.intro | refine ⟨rfl, ?_⟩))
      refine jc_seq ?_
      refine jc_seq ?_
      refine jc_region ?_
      refine jl_op ?_ (nb rfl)
      refine ow_move rfl ?_
      refine jl_op ?_ (nb rfl)
      refine ow_move rfl ?_
      refine jl_op ?_ (nb rfl)
      refine ow_lenown 0 rfl rfl (fun hlen => ?_)
      refine jl_op ?_ (nb rfl)
      refine ow_lss rfl rfl ?_
      refine jl_nil ?_
      refine jq_then ?_
      refine jc_condd rfl (fun hlt => ?_) (fun hge => ?_)
      · have hj : j < u.length := by omega
        have hjl : j < l.length := by omega
        have hi : i < u.length := by omega
        have euj : u[j] = l[j] := by
          have := congrArg (·[0]?) h5
          simp only [List.getElem?_drop, Nat.add_zero, List.getElem?_eq_getElem hj, List.getElem?_eq_getElem hjl, Option.some.injEq] at this
          exact this
        have hdrop : u.drop (j + 1) = l.drop (j + 1) := by
          have := congrArg (List.drop 1) h5
          simpa only [List.drop_drop] using this
        refine jc_skip ?_
        refine jq_then ?_
        refine jc_seq ?_
        refine jc_block ?_
        refine jc_seq ?_
        refine jc_region ?_
        refine jl_op ?_ (nb rfl)
        refine ow_move rfl ?_
        refine jl_op ?_ (nb rfl)
        refine ow_move rfl ?_
        refine jl_op ?_ (nb rfl)
        refine ow_indexOwn 0 rfl rfl rfl (by omega) (by first | omega | (simp only [List.length_map]; omega) | (simp only [List.length_map, List.length_set]; omega)) rfl ?_
        refine jl_op (ow_loadInnN 0 j rfl rfl rfl (by omega) (map_at hj) rfl ?_) (nb rfl)
        refine jl_op ?_ (nb rfl)
        refine ow_alloc rfl rfl (fun bl => ?_)
        refine jl_op0 ?_
        refine ow_storeAll 0 rfl rfl rfl rfl rfl rfl ?_
        refine jl_nil ?_
        refine jq_then ?_
        refine jc_seq ?_
        refine jc_region ?_
        refine jl_op ?_ (nb rfl)
        refine ow_move rfl ?_
        refine jl_op ?_ (nb rfl)
        refine ow_loadAll 0 rfl rfl rfl rfl ?_
        refine jl_op ?_ (nb rfl)
        refine ow_callv0 rfl rfl (hp _) ?_
        refine jl_op ?_ (nb rfl)
        refine ow_not rfl ?_
        refine jl_nil ?_
        refine jq_then ?_
        refine jc_cond rfl (fun hb => ?_) (fun hb => ?_)
        · have hb' : p l[j] = false := by rw [← euj]; simpa using hb
          refine jc_seq ?_
          refine jc_region ?_
          refine jl_op ?_ (nb rfl)
          refine ow_move rfl ?_
          refine jl_op ?_ (nb rfl)
          refine ow_move rfl ?_
          refine jl_op ?_ (nb rfl)
          refine ow_loadAll 0 rfl rfl rfl rfl ?_
          refine jl_op ?_ (nb rfl)
          refine ow_indexOwn 1 rfl rfl rfl (by omega) (by first | omega | (simp only [List.length_map]; omega) | (simp only [List.length_map, List.length_set]; omega)) rfl ?_
          refine jl_op0 (ow_storeInnAll 1 i rfl rfl rfl rfl (by omega) (map_at hi) rfl rfl rfl ?_)
          refine jl_nil ?_
          refine jq_then ?_
          refine jc_region ?_
          refine jl_op ?_ (nb rfl)
          refine ow_move rfl ?_
          refine jl_op ?_ (nb rfl)
          refine ow_add64 rfl rfl (by omega) ?_
          refine jl_op ?_ (nb rfl)
          refine ow_assign rfl ?_
          refine jl_nil ?_
          refine jq_block ?_
          refine jq_then ?_
          refine jc_region ?_
          refine jl_op ?_ (nb rfl)
          refine ow_move rfl ?_
          refine jl_op ?_ (nb rfl)
          refine ow_add64 rfl rfl (by omega) ?_
          refine jl_op ?_ (nb rfl)
          refine ow_assign rfl ?_
          refine jl_nil ?_
          refine jq_againS (i := (i, j, u)) (i + 1, j + 1, u.set i u[j]) ⟨by dsimp only; omega, by dsimp only; omega, by dsimp only; rw [List.length_set]; exact h3, ?_, ?_⟩ (by dsimp only; omega) ?_ ?_
          · dsimp only
            rw [List.take_succ_eq_append_getElem (by rw [List.length_set]; exact hi), List.take_set_of_le (Nat.le_refl _), h4, List.getElem_set_self, List.take_succ_eq_append_getElem hjl, List.filter_append, euj]
            simp [hb']
          · dsimp only
            rw [List.drop_set_of_lt (by omega)]
            exact hdrop
          · dsimp only
            rw [show (Ow V (u.set i u[j])) = .own V 44 2 ((u.map TR).set i (TR u[j])) by show Ch.own V 44 2 (List.map TR (u.set i u[j])) = _; rw [List.map_set]]
            refine sub_step 0 rfl ?_
            exact sub_end
          · (repeat (first | exact True.intro | refine ⟨rfl, ?_⟩))
        · have hb' : p l[j] = true := by rw [← euj]; simpa using hb
          refine jc_skip ?_
          refine jq_block ?_
          refine jq_then ?_
          refine jc_region ?_
          refine jl_op ?_ (nb rfl)
          refine ow_move rfl ?_
          refine jl_op ?_ (nb rfl)
          refine ow_add64 rfl rfl (by omega) ?_
          refine jl_op ?_ (nb rfl)
          refine ow_assign rfl ?_
          refine jl_nil ?_
          refine jq_againS (i := (i, j, u)) (i, j + 1, u) ⟨by dsimp only; omega, by dsimp only; omega, h3, ?_, hdrop⟩ (by dsimp only; omega) ?_ ?_
          · dsimp only
            rw [h4, List.take_succ_eq_append_getElem hjl, List.filter_append]
            simp [hb']
          · refine sub_step 1 rfl ?_
            exact sub_end
          · (repeat (first | exact True.intro | refine ⟨rfl, ?_⟩))
      · obtain rfl : j = l.length := by omega
        rw [List.take_length] at h4
        refine jc_exit ?_
        refine jq_then_exit ?_
        refine jq_then_exit ?_
        refine jq_block_exit ?_
        refine jq_then ?_
        refine jc_seq ?_
        refine jc_region ?_
        refine jl_op ?_ (nb rfl)
        refine ow_move rfl ?_
        refine jl_op ?_ (nb rfl)
        refine ow_move rfl ?_
        refine jl_op (ow_sufOwn 0 rfl rfl rfl (by omega) (by omega) rfl ?_) (nb rfl)
        skip
        refine jl_op0 (ow_clearSuf 0 rfl rfl (by omega) rfl rfl rfl ?_)
        refine jl_nil ?_
        refine jq_then ?_
        refine jc_seq ?_
        refine jc_region ?_
        refine jl_op ?_ (nb rfl)
        refine ow_move rfl ?_
        refine jl_op ?_ (nb rfl)
        refine ow_move rfl ?_
        refine jl_op (ow_trim 0 rfl rfl rfl (by omega) (by simp only [List.length_append, List.length_take, List.length_replicate]; omega) ?_) (nb rfl)
        refine jl_op ?_ (nb rfl)
        refine ow_assign rfl ?_
        refine jl_nil ?_
        refine jq_then ?_
        refine jc_ret ?_
        have e : (List.take (i : Int).toNat (u.map TR) ++ List.replicate ((u.map TR).length - (i : Int).toNat) (zeroRow (.agg #[.int .i64 0, .int .i64 0]))).take i = (l.filter (fun t => !p t)).map TR := by
          rw [List.take_append_of_le_length (by rw [List.length_take, Int.toNat_natCast]; omega), Int.toNat_natCast, List.take_take, Nat.min_self, ← List.map_take, h4]
        refine jq_trim 0 i rfl (by simp only [List.length_append, List.length_take, List.length_replicate]; omega) ?_
        rw [e]
        refine jq_ret1 rfl rfl [0] rfl (fun K h => h (trimV V i) (trimV_one hV i))
end Go.Proofs.Ytjkkkjikhjfdnaa
