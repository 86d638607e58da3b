import Derived.Test.YtjkkkjikhjfdnaaFb5
import Derived.Test.YtjkkkjikhjfdnaaVcn
namespace Go.Proofs.Ytjkkkjikhjfdnaa
open Go.Vc
attribute [local irreducible] JL JC JQ OpWp Con ConN HL HOk
attribute [local irreducible] isSmall isBlock
set_option maxHeartbeats 4000000

/-! Sums of facts -/
def timesT (a : Int) : List Tm → List Tm
  | [] => []
  | t :: r => (t.1, t.2 * a) :: timesT a r
theorem timesT_append (a : Int) (x y : List Tm) : timesT a (x ++ y) = timesT a x ++ timesT a y := by
  induction x with
  | nil => rfl
  | cons t x ih => simp only [List.cons_append, timesT, ih]
theorem timesT_len (a : Int) (x : List Tm) : (timesT a x).length = x.length := by
  induction x with
  | nil => rfl
  | cons t x ih => simp only [timesT, List.length_cons, ih]
theorem mul_bd {a m A B : Int} (ha : 0 ≤ a ∧ a ≤ A) (hm : -B ≤ m ∧ m ≤ B) (hB : 0 ≤ B) : -(A * B) ≤ m * a ∧ m * a ≤ A * B := by
  have h1 : m * a ≤ B * a := Int.mul_le_mul_of_nonneg_right hm.2 ha.1
  have h2 : -B * a ≤ m * a := Int.mul_le_mul_of_nonneg_right hm.1 ha.1
  have h3 : B * a ≤ B * A := Int.mul_le_mul_of_nonneg_left ha.2 hB
  rw [Int.neg_mul] at h2
  rw [Int.mul_comm A B]
  omega
theorem times_c (l : List Tm) (most a : Int) (hl : l.length ≤ 64) (hok : ∀ t ∈ l, -1048576 ≤ t.2 ∧ t.2 ≤ 1048576) (ha : 0 ≤ a ∧ a ≤ 1048576) :
    Con Try.prog 36 [.row [.list (l.map TR), .val (.int .i64 most)], In .i64 a] [] (fun K => ∀ V : Value, V.oneCell' = true → K (.cell (.val V)) [Ow V (timesT a l)]) := by
  have eL : (l.map TR).length = l.length := List.length_map _
  refine con_intro Try.func36 rfl rfl (Nat.le_of_ble_eq_true rfl) (fun c hc => ?_)
  refine jc_seq ?_
  refine jc_region ?_
  refine jl_op ?_ (nb rfl)
  refine ow_box rfl (fun bx => ?_)
  refine jl_op ?_ (nb rfl)
  refine ow_assign rfl ?_
  refine jl_nil ?_
  refine jq_then ?_
  refine jc_seq ?_
  refine jc_region ?_
  refine jl_op ?_ (nb rfl)
  refine ow_assign rfl ?_
  refine jl_nil ?_
  refine jq_then ?_
  refine jc_seq ?_
  refine jc_seq ?_
  refine jc_region ?_
  refine jl_op ?_ (nb rfl)
  refine ow_fieldAddr rfl rfl rfl (nb rfl) ?_
  refine jl_op ?_ (nb rfl)
  refine ow_load 0 rfl rfl rfl rfl ?_
  refine jl_op ?_ (nb rfl)
  refine ow_len rfl (fun hlen => ?_)
  refine jl_op ?_ (nb rfl)
  refine ow_move rfl ?_
  refine jl_nil ?_
  refine jq_then ?_
  refine jc_block ?_
  refine jc_ownNil 44 2 (by omega) ?_
  refine jc_loopS (ι := Nat × Value) [] (fun i => i.1 ≤ l.length ∧ i.2.oneCell' = true) (fun i => [(1, In .i64 a), (5, .cell (.val i.2)), (9, .cell (.list (l.map TR))), (10, In .i64 ((l.map TR).length : Int)), (11, In .i64 (i.1 : Int))]) (fun i => [Ow i.2 (timesT a (l.take i.1))]) (fun i => l.length - i.1) (0, .slice none 0 0) ⟨Nat.zero_le _, rfl⟩ ?_ ?_ ?_
  · show Vc.Sub _ (Ow _ (timesT a (l.take 0)) :: _)
    rw [List.take_zero]
    refine sub_step 0 rfl ?_
    exact sub_end
  · (repeat (first | exact True.intro | refine ⟨rfl, ?_⟩))
  · rintro ⟨k, W⟩ ⟨hk, hW⟩
    dsimp only at hk hW ⊢
    refine jc_reset [(1, In .i64 a), (5, .cell (.val W)), (9, .cell (.list (l.map TR))), (10, In .i64 ((l.map TR).length : Int)), (11, In .i64 (k : Int))] [Ow W (timesT a (l.take k))] ?_ ⟨[0], [], rfl⟩ ?_
    · (repeat (first | exact True.intro | refine ⟨rfl, ?_⟩))
    have hlen := timesT_len a (l.take k)
    rw [List.length_take] at hlen
    refine jc_seq ?_
    refine jc_region ?_
    refine jl_op ?_ (nb rfl)
    refine ow_lss rfl rfl ?_
    refine jl_nil ?_
    refine jq_then ?_
    refine jc_seq ?_
    refine jc_condd rfl (fun hlt => ?_) (fun hge => ?_)
    · have hlt' : k < l.length := by omega
      have hb2 := mul_bd (B := 1048576) ha (hok l[k] (List.getElem_mem hlt')) (by omega)
      have estep : timesT a (l.take (k + 1)) = timesT a (l.take k) ++ [(l[k].1, l[k].2 * a)] := by
        rw [List.take_succ_eq_append_getElem hlt', timesT_append]
        rfl
      generalize timesT a (l.take k) = O at hlen estep ⊢
      refine jc_skip ?_
      refine jq_then ?_
      refine jc_seq ?_
      refine jc_block ?_
      refine jc_seq ?_
      refine jc_region ?_
      refine jl_op ?_ (nb rfl)
      refine ow_indexAddrMapE rfl rfl (by omega) rfl rfl (nb rfl) ?_
      refine jl_op ?_ (nb rfl)
      refine ow_loadPlaceN rfl rfl rfl ?_
      refine jl_op ?_ (nb rfl)
      refine ow_alloc rfl rfl (fun bl => ?_)
      refine jl_op0 ?_
      refine ow_storeAll 0 rfl rfl rfl rfl rfl rfl ?_
      refine jl_nil ?_
      refine jq_then ?_
      refine jc_region ?_
      refine jl_op ?_ (nb rfl)
      refine ow_move rfl ?_
      refine jl_op ?_ (nb rfl)
      refine ow_fieldAddr rfl rfl rfl (nb rfl) ?_
      refine jl_op ?_ (nb rfl)
      refine ow_load 0 rfl rfl rfl rfl ?_
      refine jl_op ?_ (nb rfl)
      refine ow_fieldAddr rfl rfl rfl (nb rfl) ?_
      refine jl_op ?_ (nb rfl)
      refine ow_load 0 rfl rfl rfl rfl ?_
      refine jl_op ?_ (nb rfl)
      refine ow_move rfl ?_
      refine jl_op ?_ (nb rfl)
      refine ow_mul64 rfl rfl (by omega) ?_
      refine jl_op ?_ (nb rfl)
      refine ow_build rfl rfl rfl rfl rfl ?_
      refine jl_op ?_ (nb rfl)
      refine ow_buildSlice rfl rfl (nb rfl) rfl rfl (nb rfl) ?_
      refine jl_op (ow_append1 1 ((l[k].1, l[k].2 * a)) rfl rfl rfl rfl rfl rfl rfl (fun _ => rfl) (by show (_ + _) * 16 ≤ _; first | omega | (simp only [List.length_append]; omega)) (by first | omega | (simp only [List.length_append]; omega)) (fun W2 hW2 => ?_)) (nb rfl)
      refine jl_op ?_ (nb rfl)
      refine ow_assign rfl ?_
      refine jl_nil ?_
      refine jq_block ?_
      refine jq_then ?_
      refine jc_region ?_
      refine jl_op ?_ (nb rfl)
      refine ow_add64 rfl rfl (by omega) ?_
      refine jl_op ?_ (nb rfl)
      refine ow_move rfl ?_
      refine jl_nil ?_
      refine jq_againS (i := (k, W)) (k + 1, W2) ⟨by dsimp only; omega, hW2⟩ (by dsimp only; omega) ?_ ?_
      · dsimp only
        rw [estep]
        refine sub_step 0 rfl ?_
        exact sub_end
      · (repeat (first | exact True.intro | refine ⟨rfl, ?_⟩))
    · obtain rfl : k = l.length := by omega
      rw [List.take_length]
      refine jc_exit ?_
      refine jq_then_exit ?_
      refine jq_then_exit ?_
      refine jq_block_exit ?_
      refine jq_then ?_
      refine jc_seq ?_
      refine jc_region ?_
      refine jl_op ?_ (nb rfl)
      refine ow_move rfl ?_
      refine jl_op ?_ (nb rfl)
      refine ow_assign rfl ?_
      refine jl_nil ?_
      refine jq_then ?_
      refine jc_ret ?_
      refine jq_ret1 rfl rfl [0] rfl (fun K h => h W hW)
def addBad (a b : Int) : Bool := decide (a < 0) || decide (1048576 < a) || decide (b < 0) || decide (1048576 < b)
def addF (f g : Fct) (a b : Int) : Fct × Int :=
  if checkF f ≠ 0 then (F0, checkF f) else if checkF g ≠ 0 then (F0, checkF g) else if addBad a b = true then (F0, 3) else ofF (timesT a f.terms ++ timesT b g.terms) (a * f.most + b * g.most)
theorem AddM_c (l m : List Tm) (p q a b : Int) : Con Try.prog 21 [.row [.list (l.map TR), .val (.int .i64 p)], .row [.list (m.map TR), .val (.int .i64 q)], In .i64 a, In .i64 b] [] (fun K => K (.tup [.row (FR (addF ⟨l, p⟩ ⟨m, q⟩ a b).1), In .i64 (addF ⟨l, p⟩ ⟨m, q⟩ a b).2]) []) := by
  have cF : Con Try.prog 18 [.row [.list (l.map TR), .val (.int .i64 p)]] [] (fun K => K (In .i64 (checkF ⟨l, p⟩)) []) := CheckM_c l p
  have cG : Con Try.prog 18 [.row [.list (m.map TR), .val (.int .i64 q)]] [] (fun K => K (In .i64 (checkF ⟨m, q⟩)) []) := CheckM_c m q
  refine con_intro Try.func21 rfl rfl (Nat.le_of_ble_eq_true rfl) (fun c hc => ?_)
  refine jc_seq ?_
  refine jc_region ?_
  refine jl_op ?_ (nb rfl)
  refine ow_box rfl (fun bx => ?_)
  refine jl_op ?_ (nb rfl)
  refine ow_box rfl (fun bx => ?_)
  refine jl_op ?_ (nb rfl)
  refine ow_alloc rfl rfl (fun bl => ?_)
  refine jl_op ?_ (nb rfl)
  refine ow_assign rfl ?_
  refine jl_nil ?_
  refine jq_then ?_
  refine jc_seq ?_
  refine jc_seq ?_
  refine jc_region ?_
  refine jl_op ?_ (nb rfl)
  refine ow_loadAll 2 rfl rfl rfl rfl ?_
  refine jl_op ?_ (nb rfl)
  refine ow_call0 rfl (cF) ?_
  refine jl_op ?_ (nb rfl)
  refine ow_assign rfl ?_
  refine jl_nil ?_
  refine jq_then ?_
  refine jc_seq ?_
  refine jc_region ?_
  refine jl_op ?_ (nb rfl)
  refine ow_move rfl ?_
  refine jl_op ?_ (nb rfl)
  refine ow_neq rfl rfl ?_
  refine jl_nil ?_
  refine jq_then ?_
  refine jc_condd rfl (fun hne => ?_) (fun heq => ?_)
  · have e : addF ⟨l, p⟩ ⟨m, q⟩ a b = (F0, checkF ⟨l, p⟩) := by unfold addF; rw [if_pos hne]
    refine jc_seq ?_
    refine jc_region ?_
    refine jl_op ?_ (nb rfl)
    refine ow_build rfl rfl rfl rfl rfl ?_
    refine jl_op ?_ (nb rfl)
    refine ow_move rfl ?_
    refine jl_op0 ?_
    refine ow_storeAll 0 rfl rfl rfl rfl rfl rfl ?_
    refine jl_op ?_ (nb rfl)
    refine ow_assign rfl ?_
    refine jl_nil ?_
    refine jq_then ?_
    refine jc_ret ?_
    refine jq_then_ret ?_
    refine jq_row 0 (FR F0) rfl (.cons .nil (.cons (.refl _) .nil)) ?_
    refine jq_retRowT rfl rfl rfl rfl rfl 0 rfl (fun K h => by rw [e] at h; exact h) ?_
    exact sub_end
  · have hf0 : checkF ⟨l, p⟩ = 0 := by omega
    refine jc_skip ?_
    refine jq_then ?_
    refine jc_seq ?_
    refine jc_seq ?_
    refine jc_region ?_
    refine jl_op ?_ (nb rfl)
    refine ow_loadAll 1 rfl rfl rfl rfl ?_
    refine jl_op ?_ (nb rfl)
    refine ow_call0 rfl (cG) ?_
    refine jl_op ?_ (nb rfl)
    refine ow_assign rfl ?_
    refine jl_nil ?_
    refine jq_then ?_
    refine jc_seq ?_
    refine jc_region ?_
    refine jl_op ?_ (nb rfl)
    refine ow_move rfl ?_
    refine jl_op ?_ (nb rfl)
    refine ow_neq rfl rfl ?_
    refine jl_nil ?_
    refine jq_then ?_
    refine jc_condd rfl (fun hne => ?_) (fun heq2 => ?_)
    · have e : addF ⟨l, p⟩ ⟨m, q⟩ a b = (F0, checkF ⟨m, q⟩) := by unfold addF; rw [if_neg (by omega), if_pos hne]
      refine jc_seq ?_
      refine jc_region ?_
      refine jl_op ?_ (nb rfl)
      refine ow_build rfl rfl rfl rfl rfl ?_
      refine jl_op ?_ (nb rfl)
      refine ow_move rfl ?_
      refine jl_op0 ?_
      refine ow_storeAll 0 rfl rfl rfl rfl rfl rfl ?_
      refine jl_op ?_ (nb rfl)
      refine ow_assign rfl ?_
      refine jl_nil ?_
      refine jq_then ?_
      refine jc_ret ?_
      refine jq_then_ret ?_
      refine jq_row 0 (FR F0) rfl (.cons .nil (.cons (.refl _) .nil)) ?_
      refine jq_retRowT rfl rfl rfl rfl rfl 0 rfl (fun K h => by rw [e] at h; exact h) ?_
      exact sub_end
    · have hg0 : checkF ⟨m, q⟩ = 0 := by omega
      have bad : addBad a b = true → addF ⟨l, p⟩ ⟨m, q⟩ a b = (F0, 3) := fun h => by unfold addF; rw [if_neg (by omega), if_neg (by omega), if_pos h]
      by_cases h1 : a < 0
      · have e := bad (by simp [addBad, h1])
        refine jc_skip ?_
        refine jq_then ?_
        refine jc_seq ?_
        refine jc_seq ?_
        refine jc_region ?_
        refine jl_op ?_ (nb rfl)
        refine ow_move rfl ?_
        refine jl_op ?_ (nb rfl)
        refine ow_lss rfl rfl ?_
        refine jl_op ?_ (nb rfl)
        refine ow_move rfl ?_
        refine jl_guardN rfl (by first | assumption | exact decide_eq_true rfl | exact decide_eq_true (by first | assumption | omega) | exact decide_eq_false (by first | assumption | omega) | with_reducible rfl | exact (rfl : false = !true) | exact (rfl : true = !false)) (nb rfl) ?_
        refine jl_guardN rfl (by first | assumption | exact decide_eq_true rfl | exact decide_eq_true (by first | assumption | omega) | exact decide_eq_false (by first | assumption | omega) | with_reducible rfl | exact (rfl : false = !true) | exact (rfl : true = !false)) (nb rfl) ?_
        refine jl_op ?_ (nb rfl)
        refine ow_pickT rfl (by first | assumption | exact decide_eq_true rfl | exact decide_eq_true (by first | assumption | omega) | exact decide_eq_false (by first | assumption | omega) | with_reducible rfl | exact (rfl : false = !true) | exact (rfl : true = !false)) rfl ?_
        refine jl_op ?_ (nb rfl)
        refine ow_move rfl ?_
        refine jl_guardN rfl (by first | assumption | exact decide_eq_true rfl | exact decide_eq_true (by first | assumption | omega) | exact decide_eq_false (by first | assumption | omega) | with_reducible rfl | exact (rfl : false = !true) | exact (rfl : true = !false)) (nb rfl) ?_
        refine jl_guardN rfl (by first | assumption | exact decide_eq_true rfl | exact decide_eq_true (by first | assumption | omega) | exact decide_eq_false (by first | assumption | omega) | with_reducible rfl | exact (rfl : false = !true) | exact (rfl : true = !false)) (nb rfl) ?_
        refine jl_op ?_ (nb rfl)
        refine ow_pickT rfl (by first | assumption | exact decide_eq_true rfl | exact decide_eq_true (by first | assumption | omega) | exact decide_eq_false (by first | assumption | omega) | with_reducible rfl | exact (rfl : false = !true) | exact (rfl : true = !false)) rfl ?_
        refine jl_op ?_ (nb rfl)
        refine ow_move rfl ?_
        refine jl_guardN rfl (by first | assumption | exact decide_eq_true rfl | exact decide_eq_true (by first | assumption | omega) | exact decide_eq_false (by first | assumption | omega) | with_reducible rfl | exact (rfl : false = !true) | exact (rfl : true = !false)) (nb rfl) ?_
        refine jl_guardN rfl (by first | assumption | exact decide_eq_true rfl | exact decide_eq_true (by first | assumption | omega) | exact decide_eq_false (by first | assumption | omega) | with_reducible rfl | exact (rfl : false = !true) | exact (rfl : true = !false)) (nb rfl) ?_
        refine jl_op ?_ (nb rfl)
        refine ow_pickT rfl (by first | assumption | exact decide_eq_true rfl | exact decide_eq_true (by first | assumption | omega) | exact decide_eq_false (by first | assumption | omega) | with_reducible rfl | exact (rfl : false = !true) | exact (rfl : true = !false)) rfl ?_
        refine jl_nil ?_
        refine jq_then ?_
        refine jc_cond rfl (fun _ => ?_) (fun h => by cases h)
        refine jc_seq ?_
        refine jc_region ?_
        refine jl_op ?_ (nb rfl)
        refine ow_build rfl rfl rfl rfl rfl ?_
        refine jl_op0 ?_
        refine ow_storeAll 0 rfl rfl rfl rfl rfl rfl ?_
        refine jl_op ?_ (nb rfl)
        refine ow_assign rfl ?_
        refine jl_nil ?_
        refine jq_then ?_
        refine jc_ret ?_
        refine jq_then_ret ?_
        refine jq_row 0 (FR F0) rfl (.cons .nil (.cons (.refl _) .nil)) ?_
        refine jq_retRowT rfl rfl rfl rfl rfl 0 rfl (fun K h => by rw [e] at h; exact h) ?_
        exact sub_end
      · by_cases h2 : 1048576 < a
        · have e := bad (by simp [addBad, h2])
          refine jc_skip ?_
          refine jq_then ?_
          refine jc_seq ?_
          refine jc_seq ?_
          refine jc_region ?_
          refine jl_op ?_ (nb rfl)
          refine ow_move rfl ?_
          refine jl_op ?_ (nb rfl)
          refine ow_lss rfl rfl ?_
          refine jl_op ?_ (nb rfl)
          refine ow_move rfl ?_
          refine jl_guardY rfl (by first | assumption | exact decide_eq_true rfl | exact decide_eq_true (by first | assumption | omega) | exact decide_eq_false (by first | assumption | omega) | with_reducible rfl | exact (rfl : false = !true) | exact (rfl : true = !false)) (nb rfl) ?_
          refine ow_move rfl ?_
          refine jl_guardY rfl (by first | assumption | exact decide_eq_true rfl | exact decide_eq_true (by first | assumption | omega) | exact decide_eq_false (by first | assumption | omega) | with_reducible rfl | exact (rfl : false = !true) | exact (rfl : true = !false)) (nb rfl) ?_
          refine ow_gtr rfl rfl ?_
          refine jl_op ?_ (nb rfl)
          refine ow_pickF rfl (by first | assumption | exact decide_eq_true rfl | exact decide_eq_true (by first | assumption | omega) | exact decide_eq_false (by first | assumption | omega) | with_reducible rfl | exact (rfl : false = !true) | exact (rfl : true = !false)) rfl ?_
          refine jl_op ?_ (nb rfl)
          refine ow_move rfl ?_
          refine jl_guardN rfl (by first | assumption | exact decide_eq_true rfl | exact decide_eq_true (by first | assumption | omega) | exact decide_eq_false (by first | assumption | omega) | with_reducible rfl | exact (rfl : false = !true) | exact (rfl : true = !false)) (nb rfl) ?_
          refine jl_guardN rfl (by first | assumption | exact decide_eq_true rfl | exact decide_eq_true (by first | assumption | omega) | exact decide_eq_false (by first | assumption | omega) | with_reducible rfl | exact (rfl : false = !true) | exact (rfl : true = !false)) (nb rfl) ?_
          refine jl_op ?_ (nb rfl)
          refine ow_pickT rfl (by first | assumption | exact decide_eq_true rfl | exact decide_eq_true (by first | assumption | omega) | exact decide_eq_false (by first | assumption | omega) | with_reducible rfl | exact (rfl : false = !true) | exact (rfl : true = !false)) rfl ?_
          refine jl_op ?_ (nb rfl)
          refine ow_move rfl ?_
          refine jl_guardN rfl (by first | assumption | exact decide_eq_true rfl | exact decide_eq_true (by first | assumption | omega) | exact decide_eq_false (by first | assumption | omega) | with_reducible rfl | exact (rfl : false = !true) | exact (rfl : true = !false)) (nb rfl) ?_
          refine jl_guardN rfl (by first | assumption | exact decide_eq_true rfl | exact decide_eq_true (by first | assumption | omega) | exact decide_eq_false (by first | assumption | omega) | with_reducible rfl | exact (rfl : false = !true) | exact (rfl : true = !false)) (nb rfl) ?_
          refine jl_op ?_ (nb rfl)
          refine ow_pickT rfl (by first | assumption | exact decide_eq_true rfl | exact decide_eq_true (by first | assumption | omega) | exact decide_eq_false (by first | assumption | omega) | with_reducible rfl | exact (rfl : false = !true) | exact (rfl : true = !false)) rfl ?_
          refine jl_nil ?_
          refine jq_then ?_
          refine jc_cond rfl (fun _ => ?_) (fun h => by cases h)
          refine jc_seq ?_
          refine jc_region ?_
          refine jl_op ?_ (nb rfl)
          refine ow_build rfl rfl rfl rfl rfl ?_
          refine jl_op0 ?_
          refine ow_storeAll 0 rfl rfl rfl rfl rfl rfl ?_
          refine jl_op ?_ (nb rfl)
          refine ow_assign rfl ?_
          refine jl_nil ?_
          refine jq_then ?_
          refine jc_ret ?_
          refine jq_then_ret ?_
          refine jq_row 0 (FR F0) rfl (.cons .nil (.cons (.refl _) .nil)) ?_
          refine jq_retRowT rfl rfl rfl rfl rfl 0 rfl (fun K h => by rw [e] at h; exact h) ?_
          exact sub_end
        · by_cases h3 : b < 0
          · have e := bad (by simp [addBad, h3])
            refine jc_skip ?_
            refine jq_then ?_
            refine jc_seq ?_
            refine jc_seq ?_
            refine jc_region ?_
            refine jl_op ?_ (nb rfl)
            refine ow_move rfl ?_
            refine jl_op ?_ (nb rfl)
            refine ow_lss rfl rfl ?_
            refine jl_op ?_ (nb rfl)
            refine ow_move rfl ?_
            refine jl_guardY rfl (by first | assumption | exact decide_eq_true rfl | exact decide_eq_true (by first | assumption | omega) | exact decide_eq_false (by first | assumption | omega) | with_reducible rfl | exact (rfl : false = !true) | exact (rfl : true = !false)) (nb rfl) ?_
            refine ow_move rfl ?_
            refine jl_guardY rfl (by first | assumption | exact decide_eq_true rfl | exact decide_eq_true (by first | assumption | omega) | exact decide_eq_false (by first | assumption | omega) | with_reducible rfl | exact (rfl : false = !true) | exact (rfl : true = !false)) (nb rfl) ?_
            refine ow_gtr rfl rfl ?_
            refine jl_op ?_ (nb rfl)
            refine ow_pickF rfl (by first | assumption | exact decide_eq_true rfl | exact decide_eq_true (by first | assumption | omega) | exact decide_eq_false (by first | assumption | omega) | with_reducible rfl | exact (rfl : false = !true) | exact (rfl : true = !false)) rfl ?_
            refine jl_op ?_ (nb rfl)
            refine ow_move rfl ?_
            refine jl_guardY rfl (by first | assumption | exact decide_eq_true rfl | exact decide_eq_true (by first | assumption | omega) | exact decide_eq_false (by first | assumption | omega) | with_reducible rfl | exact (rfl : false = !true) | exact (rfl : true = !false)) (nb rfl) ?_
            refine ow_move rfl ?_
            refine jl_guardY rfl (by first | assumption | exact decide_eq_true rfl | exact decide_eq_true (by first | assumption | omega) | exact decide_eq_false (by first | assumption | omega) | with_reducible rfl | exact (rfl : false = !true) | exact (rfl : true = !false)) (nb rfl) ?_
            refine ow_lss rfl rfl ?_
            refine jl_op ?_ (nb rfl)
            refine ow_pickF rfl (by first | assumption | exact decide_eq_true rfl | exact decide_eq_true (by first | assumption | omega) | exact decide_eq_false (by first | assumption | omega) | with_reducible rfl | exact (rfl : false = !true) | exact (rfl : true = !false)) rfl ?_
            refine jl_op ?_ (nb rfl)
            refine ow_move rfl ?_
            refine jl_guardN rfl (by first | assumption | exact decide_eq_true rfl | exact decide_eq_true (by first | assumption | omega) | exact decide_eq_false (by first | assumption | omega) | with_reducible rfl | exact (rfl : false = !true) | exact (rfl : true = !false)) (nb rfl) ?_
            refine jl_guardN rfl (by first | assumption | exact decide_eq_true rfl | exact decide_eq_true (by first | assumption | omega) | exact decide_eq_false (by first | assumption | omega) | with_reducible rfl | exact (rfl : false = !true) | exact (rfl : true = !false)) (nb rfl) ?_
            refine jl_op ?_ (nb rfl)
            refine ow_pickT rfl (by first | assumption | exact decide_eq_true rfl | exact decide_eq_true (by first | assumption | omega) | exact decide_eq_false (by first | assumption | omega) | with_reducible rfl | exact (rfl : false = !true) | exact (rfl : true = !false)) rfl ?_
            refine jl_nil ?_
            refine jq_then ?_
            refine jc_cond rfl (fun _ => ?_) (fun h => by cases h)
            refine jc_seq ?_
            refine jc_region ?_
            refine jl_op ?_ (nb rfl)
            refine ow_build rfl rfl rfl rfl rfl ?_
            refine jl_op0 ?_
            refine ow_storeAll 0 rfl rfl rfl rfl rfl rfl ?_
            refine jl_op ?_ (nb rfl)
            refine ow_assign rfl ?_
            refine jl_nil ?_
            refine jq_then ?_
            refine jc_ret ?_
            refine jq_then_ret ?_
            refine jq_row 0 (FR F0) rfl (.cons .nil (.cons (.refl _) .nil)) ?_
            refine jq_retRowT rfl rfl rfl rfl rfl 0 rfl (fun K h => by rw [e] at h; exact h) ?_
            exact sub_end
          · refine jc_skip ?_
            refine jq_then ?_
            refine jc_seq ?_
            refine jc_seq ?_
            refine jc_region ?_
            refine jl_op ?_ (nb rfl)
            refine ow_move rfl ?_
            refine jl_op ?_ (nb rfl)
            refine ow_lss rfl rfl ?_
            refine jl_op ?_ (nb rfl)
            refine ow_move rfl ?_
            refine jl_guardY rfl (by first | assumption | exact decide_eq_true rfl | exact decide_eq_true (by first | assumption | omega) | exact decide_eq_false (by first | assumption | omega) | with_reducible rfl | exact (rfl : false = !true) | exact (rfl : true = !false)) (nb rfl) ?_
            refine ow_move rfl ?_
            refine jl_guardY rfl (by first | assumption | exact decide_eq_true rfl | exact decide_eq_true (by first | assumption | omega) | exact decide_eq_false (by first | assumption | omega) | with_reducible rfl | exact (rfl : false = !true) | exact (rfl : true = !false)) (nb rfl) ?_
            refine ow_gtr rfl rfl ?_
            refine jl_op ?_ (nb rfl)
            refine ow_pickF rfl (by first | assumption | exact decide_eq_true rfl | exact decide_eq_true (by first | assumption | omega) | exact decide_eq_false (by first | assumption | omega) | with_reducible rfl | exact (rfl : false = !true) | exact (rfl : true = !false)) rfl ?_
            refine jl_op ?_ (nb rfl)
            refine ow_move rfl ?_
            refine jl_guardY rfl (by first | assumption | exact decide_eq_true rfl | exact decide_eq_true (by first | assumption | omega) | exact decide_eq_false (by first | assumption | omega) | with_reducible rfl | exact (rfl : false = !true) | exact (rfl : true = !false)) (nb rfl) ?_
            refine ow_move rfl ?_
            refine jl_guardY rfl (by first | assumption | exact decide_eq_true rfl | exact decide_eq_true (by first | assumption | omega) | exact decide_eq_false (by first | assumption | omega) | with_reducible rfl | exact (rfl : false = !true) | exact (rfl : true = !false)) (nb rfl) ?_
            refine ow_lss rfl rfl ?_
            refine jl_op ?_ (nb rfl)
            refine ow_pickF rfl (by first | assumption | exact decide_eq_true rfl | exact decide_eq_true (by first | assumption | omega) | exact decide_eq_false (by first | assumption | omega) | with_reducible rfl | exact (rfl : false = !true) | exact (rfl : true = !false)) rfl ?_
            refine jl_op ?_ (nb rfl)
            refine ow_move rfl ?_
            refine jl_guardY rfl (by first | assumption | exact decide_eq_true rfl | exact decide_eq_true (by first | assumption | omega) | exact decide_eq_false (by first | assumption | omega) | with_reducible rfl | exact (rfl : false = !true) | exact (rfl : true = !false)) (nb rfl) ?_
            refine ow_move rfl ?_
            refine jl_guardY rfl (by first | assumption | exact decide_eq_true rfl | exact decide_eq_true (by first | assumption | omega) | exact decide_eq_false (by first | assumption | omega) | with_reducible rfl | exact (rfl : false = !true) | exact (rfl : true = !false)) (nb rfl) ?_
            refine ow_gtr rfl rfl ?_
            refine jl_op ?_ (nb rfl)
            refine ow_pickF rfl (by first | assumption | exact decide_eq_true rfl | exact decide_eq_true (by first | assumption | omega) | exact decide_eq_false (by first | assumption | omega) | with_reducible rfl | exact (rfl : false = !true) | exact (rfl : true = !false)) rfl ?_
            refine jl_nil ?_
            refine jq_then ?_
            refine jc_condd rfl (fun h4 => ?_) (fun h4 => ?_)
            · have e := bad (by simp [addBad, h4])
              refine jc_seq ?_
              refine jc_region ?_
              refine jl_op ?_ (nb rfl)
              refine ow_build rfl rfl rfl rfl rfl ?_
              refine jl_op0 ?_
              refine ow_storeAll 0 rfl rfl rfl rfl rfl rfl ?_
              refine jl_op ?_ (nb rfl)
              refine ow_assign rfl ?_
              refine jl_nil ?_
              refine jq_then ?_
              refine jc_ret ?_
              refine jq_then_ret ?_
              refine jq_row 0 (FR F0) rfl (.cons .nil (.cons (.refl _) .nil)) ?_
              refine jq_retRowT rfl rfl rfl rfl rfl 0 rfl (fun K h => by rw [e] at h; exact h) ?_
              exact sub_end
            · have e : addF ⟨l, p⟩ ⟨m, q⟩ a b = ofF (timesT a l ++ timesT b m) (a * p + b * q) := by
                unfold addF
                rw [if_neg (by omega), if_neg (by omega), if_neg (by simp [addBad]; omega)]
              have vf := valid_of hf0
              have vg := valid_of hg0
              have okf : ∀ t ∈ l, -1048576 ≤ t.2 ∧ t.2 ≤ 1048576 := fun t ht => (okB_parts (vf.ok t ht).1).2
              have okg : ∀ t ∈ m, -1048576 ≤ t.2 ∧ t.2 ≤ 1048576 := fun t ht => (okB_parts (vg.ok t ht).1).2
              have bp := mul_bd (a := a) (m := p) (A := 1048576) (B := 1048576) (by omega) (isSmall_iff.1 vf.most) (by omega)
              have bq := mul_bd (a := b) (m := q) (A := 1048576) (B := 1048576) (by omega) (isSmall_iff.1 vg.most) (by omega)
              rw [Int.mul_comm p a] at bp
              rw [Int.mul_comm q b] at bq
              have l64 : l.length ≤ 64 := vf.len
              have m64 : m.length ≤ 64 := vg.len
              have cT1 := times_c l p a l64 okf (by omega)
              have cT2 := times_c m q b m64 okg (by omega)
              have cO := Of_c (timesT a l ++ timesT b m) (a * p + b * q)
              have lT1 := timesT_len a l
              have lT2 := timesT_len b m
              refine jc_skip ?_
              refine jq_then ?_
              refine jc_seq ?_
              refine jc_held2 (n := 21) rfl 2 1 (by kernel_rfl) rfl (fun cs1 cs2 => ?_)
              refine hl_take (i := 0) rfl (by kernel_rfl) (by kernel_rfl) (by kernel_rfl) (nb rfl) (hok_loadAll 2 rfl rfl rfl (List.Mem.head _) rfl) ?_
              refine hl_take (i := 1) rfl (by kernel_rfl) (by kernel_rfl) (by kernel_rfl) (nb rfl) (hok_move rfl) ?_
              refine hl_take (i := 3) rfl (by kernel_rfl) (by kernel_rfl) (by kernel_rfl) (nb rfl) (hok_loadAll 1 rfl rfl rfl (List.Mem.tail _ (List.Mem.head _)) rfl) ?_
              refine hl_take (i := 4) rfl (by kernel_rfl) (by kernel_rfl) (by kernel_rfl) (nb rfl) (hok_move rfl) ?_
              refine hl_take (i := 7) rfl (by kernel_rfl) (by kernel_rfl) (by kernel_rfl) (nb rfl) (hok_move rfl) ?_
              refine hl_take (i := 8) rfl (by kernel_rfl) (by kernel_rfl) (by kernel_rfl) (nb rfl) (hok_fieldAddr rfl rfl rfl (nb rfl)) ?_
              refine hl_take (i := 9) rfl (by kernel_rfl) (by kernel_rfl) (by kernel_rfl) (nb rfl) (hok_load 2 rfl rfl rfl (List.Mem.head _) rfl) ?_
              refine hl_take (i := 10) rfl (by kernel_rfl) (by kernel_rfl) (by kernel_rfl) (nb rfl) (hok_mul rfl rfl (by omega)) ?_
              refine hl_take (i := 11) rfl (by kernel_rfl) (by kernel_rfl) (by kernel_rfl) (nb rfl) (hok_move rfl) ?_
              refine hl_take (i := 12) rfl (by kernel_rfl) (by kernel_rfl) (by kernel_rfl) (nb rfl) (hok_fieldAddr rfl rfl rfl (nb rfl)) ?_
              refine hl_take (i := 13) rfl (by kernel_rfl) (by kernel_rfl) (by kernel_rfl) (nb rfl) (hok_load 1 rfl rfl rfl (List.Mem.tail _ (List.Mem.head _)) rfl) ?_
              refine hl_take (i := 14) rfl (by kernel_rfl) (by kernel_rfl) (by kernel_rfl) (nb rfl) (hok_mul rfl rfl (by omega)) ?_
              refine hl_take (i := 15) rfl (by kernel_rfl) (by kernel_rfl) (by kernel_rfl) (nb rfl) (hok_add rfl rfl (by omega)) ?_
              refine hl_exact 2 rfl (List.Mem.head _) ?_
              refine hl_exact 2 rfl (List.Mem.tail _ (List.Mem.head _)) ?_
              refine hl_op (i := 2) rfl (by kernel_rfl) (nb rfl) (ow_callP [] rfl rfl cT1 (fun V1 hV1 => ⟨keep_of2 (List.Mem.tail _ (List.Mem.tail _ (List.Mem.head _))) (List.Mem.tail _ (List.Mem.head _)), ?_⟩))
              refine hl_op (i := 5) rfl (by kernel_rfl) (nb rfl) (ow_callP [] rfl rfl cT2 (fun V2 hV2 => ⟨keep_of2 (List.Mem.tail _ (List.Mem.tail _ (List.Mem.tail _ (List.Mem.head _)))) (List.Mem.tail _ (List.Mem.tail _ (List.Mem.head _))), ?_⟩))
              refine hl_freeze 44 0 rfl rfl (by rw [hc]; simp [hb]) ?_
              refine hl_op (i := 6) rfl (by kernel_rfl) (nb rfl) (ow_appendM (f := TR) (l1 := timesT a l) (l2 := timesT b m) 0 rfl rfl rfl rfl rfl rfl rfl (fun _ => rfl) (by show (_ + _) * 16 ≤ _; omega) (by omega) (fun V3 hV3 => ⟨keep_of2 (List.Mem.tail _ (List.Mem.tail _ (List.Mem.head _))) (List.Mem.tail _ (List.Mem.head _)), ?_⟩))
              refine hl_freeze 45 0 rfl rfl (by rw [hc]; simp [hb]) ?_
              refine hl_op (i := 16) rfl (by kernel_rfl) (nb rfl) (ow_call0 rfl cO ⟨keep_of2 (List.Mem.tail _ (List.Mem.head _)) (List.Mem.head _), ?_⟩)
              refine hl_take (i := 17) rfl (by kernel_rfl) (by kernel_rfl) (by kernel_rfl) (nb rfl) (hok_extract rfl rfl) ?_
              refine hl_take (i := 18) rfl (by kernel_rfl) (by kernel_rfl) (by kernel_rfl) (nb rfl) (hok_extract rfl rfl) ?_
              refine hl_op0 (i := 19) rfl (by kernel_rfl) (ow_storeAll 2 rfl rfl rfl rfl rfl rfl ⟨keep_of2 (List.Mem.tail _ (List.Mem.tail _ (List.Mem.head _))) (List.Mem.tail _ (List.Mem.head _)), ?_⟩)
              refine hl_op (i := 20) rfl (by kernel_rfl) (nb rfl) (ow_assign rfl ⟨keep_of2 (List.Mem.tail _ (List.Mem.tail _ (List.Mem.head _))) (List.Mem.tail _ (List.Mem.head _)), ?_⟩)
              refine hl_done (by kernel_rfl) ?_
              refine jq_then ?_
              refine jc_ret ?_
              refine jq_retRowT rfl rfl rfl rfl rfl 0 rfl (fun K h => by rw [e] at h; exact h) ?_
              exact sub_end
theorem Add_c (f g : Fct) (a b : Int) : Con Try.prog 21 [.row (FR f), .row (FR g), In .i64 a, In .i64 b] [] (fun K => K (.tup [.row (FR (addF f g a b).1), In .i64 (addF f g a b).2]) []) := AddM_c f.terms g.terms f.most g.most a b
end Go.Proofs.Ytjkkkjikhjfdnaa
