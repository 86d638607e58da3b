import Derived.Test.YtccojifhaoadbaaDoorTka
import Derived.Test.YtccojifhaoadbaaDoorLay
namespace Go.Proofs.YtccojifhaoadbaaDoor
open Go.Vc
attribute [local irreducible] JL JC JQ OpWp
attribute [local irreducible] nextT scan byteAt rsign runLen signLen numVal isL isD

theorem itoa_c (n : Int) (h0 : 0 ≤ n) (h1 : n ≤ 2147483647) : Con Tryd.prog 24 [In .i64 n] [] (fun K => K (Str (decS n.toNat)) []) := by
  rintro vs w A _ _ _ ⟨v, r, rfl, ⟨rfl, _⟩, hr⟩ _ ⟨g, hg1, hg2, htab⟩
  simp only [SOks] at hr
  subst hr
  refine (Any.strconv_Itoa laysItoa n (by omega) (by omega) w htab).mono ?_
  rintro e w' ⟨rfl, k, os, rfl⟩
  refine ⟨_, _, [], rfl, fun K h => h, ⟨?_, rfl⟩, by simp, by simp [hb], by simp [hb], ⟨rfl, rfl, rfl, ?_, ?_⟩⟩
  · obtain ⟨u, rfl⟩ : ∃ u : Nat, n = u := ⟨n.toNat, by omega⟩
    rw [Lib.itoa_nonneg, Int.toNat_natCast]
    unfold decS
    rfl
  · simp [Sort.grow]
  · intro j hj _
    show (w.heap ++ os)[j]? = _
    rw [Array.getElem?_append_left hj]

/-- A token's word. -/
def wordT (t : Tok) : ByteArray := if t.kind = 1 ∨ t.kind = 3 then t.text else if t.kind = 2 then (if t.num < 0 ∨ 2147483647 < t.num then ⟨#[48]⟩ else decS t.num.toNat) else ⟨#[]⟩
theorem Word_c (t : Tok) : Con Tryd.prog 13 [.row t.row] [] (fun K => K (Str (wordT t)) []) := by
  refine con_intro Tryd.func13 rfl rfl (Nat.le_of_ble_eq_true rfl) (fun c hc => ?_)
  refine jc_seq ?_
  refine jc_region ?_
  refine jl_op ?_ (nb rfl)
  refine ow_box rfl (fun bx => ?_)
  refine jl_op ?_ (nb rfl)
  refine ow_assign rfl ?_
  refine jl_nil ?_
  refine jq_then ?_
  refine jc_seq ?_
  refine jc_seq ?_
  refine jc_region ?_
  refine jl_op ?_ (nb rfl)
  refine ow_fieldAddr rfl rfl rfl (nb rfl) ?_
  refine jl_op ?_ (nb rfl)
  refine ow_load 0 rfl rfl rfl rfl ?_
  refine jl_nil ?_
  refine jq_then ?_
  refine jc_block ?_
  refine jc_seq ?_
  refine jc_seq ?_
  refine jc_region ?_
  refine jl_op ?_ (nb rfl)
  refine ow_eql rfl rfl ?_
  refine jl_op ?_ (nb rfl)
  refine ow_assign rfl ?_
  refine jl_nil ?_
  refine jq_then ?_
  refine jc_condd rfl (fun h1 => ?_) (fun h1 => ?_)
  · refine jc_skip ?_
    refine jq_then ?_
    refine jc_condd rfl (fun _ => ?_) (fun h => absurd h1 h)
    refine jc_seq ?_
    refine jc_region ?_
    refine jl_op ?_ (nb rfl)
    refine ow_fieldAddr rfl rfl rfl (nb rfl) ?_
    refine jl_op ?_ (nb rfl)
    refine ow_load 0 rfl rfl rfl rfl ?_
    refine jl_op ?_ (nb rfl)
    refine ow_assign rfl ?_
    refine jl_nil ?_
    refine jq_then ?_
    refine jc_ret ?_
    refine jq_block_ret ?_
    refine jq_then_ret ?_
    have e : wordT t = t.text := by unfold wordT; rw [if_pos (.inl h1)]
    refine jq_ret1 rfl rfl [] rfl (fun K h => by rw [e] at h; exact h)
  · refine jc_region ?_
    refine jl_op ?_ (nb rfl)
    refine ow_eql rfl rfl ?_
    refine jl_op ?_ (nb rfl)
    refine ow_assign rfl ?_
    refine jl_nil ?_
    refine jq_then ?_
    refine jc_condd rfl (fun h3 => ?_) (fun h3 => ?_)
    · refine jc_seq ?_
      refine jc_region ?_
      refine jl_op ?_ (nb rfl)
      refine ow_fieldAddr rfl rfl rfl (nb rfl) ?_
      refine jl_op ?_ (nb rfl)
      refine ow_load 0 rfl rfl rfl rfl ?_
      refine jl_op ?_ (nb rfl)
      refine ow_assign rfl ?_
      refine jl_nil ?_
      refine jq_then ?_
      refine jc_ret ?_
      refine jq_block_ret ?_
      refine jq_then_ret ?_
      have e : wordT t = t.text := by unfold wordT; rw [if_pos (.inr h3)]
      refine jq_ret1 rfl rfl [] rfl (fun K h => by rw [e] at h; exact h)
    · refine jc_seq ?_
      refine jc_region ?_
      refine jl_op ?_ (nb rfl)
      refine ow_eql rfl rfl ?_
      refine jl_op ?_ (nb rfl)
      refine ow_assign rfl ?_
      refine jl_nil ?_
      refine jq_then ?_
      refine jc_condd rfl (fun h2 => ?_) (fun h2 => ?_)
      · have e : wordT t = if t.num < 0 ∨ 2147483647 < t.num then ⟨#[48]⟩ else decS t.num.toNat := by unfold wordT; rw [if_neg (fun h => h.elim h1 h3), if_pos h2]
        by_cases hn : t.num < 0
        · refine jc_seq ?_
          refine jc_seq ?_
          refine jc_region ?_
          refine jl_op ?_ (nb rfl)
          refine ow_fieldAddr rfl rfl rfl (nb rfl) ?_
          refine jl_op ?_ (nb rfl)
          refine ow_load 0 rfl rfl rfl rfl ?_
          refine jl_op ?_ (nb rfl)
          refine ow_lss rfl rfl ?_
          refine jl_op ?_ (nb rfl)
          refine ow_move rfl ?_
          refine jl_guardN rfl (by first | assumption | exact decide_eq_true rfl | exact decide_eq_true (by first | assumption | omega) | exact decide_eq_false (by first | assumption | omega) | with_reducible rfl | exact (rfl : false = !true) | exact (rfl : true = !false)) (nb rfl) ?_
          refine jl_guardN rfl (by first | assumption | exact decide_eq_true rfl | exact decide_eq_true (by first | assumption | omega) | exact decide_eq_false (by first | assumption | omega) | with_reducible rfl | exact (rfl : false = !true) | exact (rfl : true = !false)) (nb rfl) ?_
          refine jl_guardN rfl (by first | assumption | exact decide_eq_true rfl | exact decide_eq_true (by first | assumption | omega) | exact decide_eq_false (by first | assumption | omega) | with_reducible rfl | exact (rfl : false = !true) | exact (rfl : true = !false)) (nb rfl) ?_
          refine jl_op ?_ (nb rfl)
          refine ow_pickT rfl (by first | assumption | exact decide_eq_true rfl | exact decide_eq_true (by first | assumption | omega) | exact decide_eq_false (by first | assumption | omega) | with_reducible rfl | exact (rfl : false = !true) | exact (rfl : true = !false)) rfl ?_
          refine jl_nil ?_
          refine jq_then ?_
          refine jc_cond rfl (fun _ => ?_) (fun h => by cases h)
          refine jc_seq ?_
          refine jc_region ?_
          refine jl_op ?_ (nb rfl)
          refine ow_assign rfl ?_
          refine jl_nil ?_
          refine jq_then ?_
          refine jc_ret ?_
          refine jq_then_ret ?_
          refine jq_block_ret ?_
          refine jq_then_ret ?_
          rw [if_pos (.inl hn)] at e
          refine jq_ret1 rfl rfl [] rfl (fun K h => by rw [e] at h; exact h)
        · refine jc_seq ?_
          refine jc_seq ?_
          refine jc_region ?_
          refine jl_op ?_ (nb rfl)
          refine ow_fieldAddr rfl rfl rfl (nb rfl) ?_
          refine jl_op ?_ (nb rfl)
          refine ow_load 0 rfl rfl rfl rfl ?_
          refine jl_op ?_ (nb rfl)
          refine ow_lss rfl rfl ?_
          refine jl_op ?_ (nb rfl)
          refine ow_move rfl ?_
          refine jl_guardY rfl (by first | assumption | exact decide_eq_true rfl | exact decide_eq_true (by first | assumption | omega) | exact decide_eq_false (by first | assumption | omega) | with_reducible rfl | exact (rfl : false = !true) | exact (rfl : true = !false)) (nb rfl) ?_
          refine ow_fieldAddr rfl rfl rfl (nb rfl) ?_
          refine jl_guardY rfl (by first | assumption | exact decide_eq_true rfl | exact decide_eq_true (by first | assumption | omega) | exact decide_eq_false (by first | assumption | omega) | with_reducible rfl | exact (rfl : false = !true) | exact (rfl : true = !false)) (nb rfl) ?_
          refine ow_load 0 rfl rfl rfl rfl ?_
          refine jl_guardY rfl (by first | assumption | exact decide_eq_true rfl | exact decide_eq_true (by first | assumption | omega) | exact decide_eq_false (by first | assumption | omega) | with_reducible rfl | exact (rfl : false = !true) | exact (rfl : true = !false)) (nb rfl) ?_
          refine ow_gtr rfl rfl ?_
          refine jl_op ?_ (nb rfl)
          refine ow_pickF rfl (by first | assumption | exact decide_eq_true rfl | exact decide_eq_true (by first | assumption | omega) | exact decide_eq_false (by first | assumption | omega) | with_reducible rfl | exact (rfl : false = !true) | exact (rfl : true = !false)) rfl ?_
          refine jl_nil ?_
          refine jq_then ?_
          refine jc_condd rfl (fun hg => ?_) (fun hg => ?_)
          · refine jc_seq ?_
            refine jc_region ?_
            refine jl_op ?_ (nb rfl)
            refine ow_assign rfl ?_
            refine jl_nil ?_
            refine jq_then ?_
            refine jc_ret ?_
            refine jq_then_ret ?_
            refine jq_block_ret ?_
            refine jq_then_ret ?_
            rw [if_pos (.inr hg)] at e
            refine jq_ret1 rfl rfl [] rfl (fun K h => by rw [e] at h; exact h)
          · rw [if_neg (fun h => h.elim hn hg)] at e
            refine jc_skip ?_
            refine jq_then ?_
            refine jc_seq ?_
            refine jc_region ?_
            refine jl_op ?_ (nb rfl)
            refine ow_fieldAddr rfl rfl rfl (nb rfl) ?_
            refine jl_op ?_ (nb rfl)
            refine ow_load 0 rfl rfl rfl rfl ?_
            refine jl_op ?_ (nb rfl)
            refine ow_call0 rfl (itoa_c _ (by omega) (by omega)) ?_
            refine jl_op ?_ (nb rfl)
            refine ow_assign rfl ?_
            refine jl_nil ?_
            refine jq_then ?_
            refine jc_ret ?_
            refine jq_block_ret ?_
            refine jq_then_ret ?_
            refine jq_ret1 rfl rfl [] rfl (fun K h => by rw [e] at h; exact h)
      · have e : wordT t = ⟨#[]⟩ := by unfold wordT; rw [if_neg (fun h => h.elim h1 h3), if_neg h2]
        refine jc_skip ?_
        refine jq_block ?_
        refine jq_then ?_
        refine jc_seq ?_
        refine jc_region ?_
        refine jl_op ?_ (nb rfl)
        refine ow_assign rfl ?_
        refine jl_nil ?_
        refine jq_then ?_
        refine jc_ret ?_
        refine jq_ret1 rfl rfl [] rfl (fun K h => by rw [e] at h; exact h)
theorem rWord_c (t : Tok) : Con Tryd.prog 14 [.row t.row] [] (fun K => K (Str (wordT t)) []) := by
  refine con_intro Tryd.func14 rfl rfl (Nat.le_of_ble_eq_true rfl) (fun c hc => ?_)
  refine jc_seq ?_
  refine jc_region ?_
  refine jl_op ?_ (nb rfl)
  refine ow_box rfl (fun bx => ?_)
  refine jl_op ?_ (nb rfl)
  refine ow_assign rfl ?_
  refine jl_nil ?_
  refine jq_then ?_
  refine jc_seq ?_
  refine jc_seq ?_
  refine jc_region ?_
  refine jl_op ?_ (nb rfl)
  refine ow_fieldAddr rfl rfl rfl (nb rfl) ?_
  refine jl_op ?_ (nb rfl)
  refine ow_load 0 rfl rfl rfl rfl ?_
  refine jl_nil ?_
  refine jq_then ?_
  refine jc_block ?_
  refine jc_seq ?_
  refine jc_seq ?_
  refine jc_region ?_
  refine jl_op ?_ (nb rfl)
  refine ow_eql rfl rfl ?_
  refine jl_op ?_ (nb rfl)
  refine ow_assign rfl ?_
  refine jl_nil ?_
  refine jq_then ?_
  refine jc_condd rfl (fun h1 => ?_) (fun h1 => ?_)
  · refine jc_skip ?_
    refine jq_then ?_
    refine jc_condd rfl (fun _ => ?_) (fun h => absurd h1 h)
    refine jc_seq ?_
    refine jc_region ?_
    refine jl_op ?_ (nb rfl)
    refine ow_fieldAddr rfl rfl rfl (nb rfl) ?_
    refine jl_op ?_ (nb rfl)
    refine ow_load 0 rfl rfl rfl rfl ?_
    refine jl_op ?_ (nb rfl)
    refine ow_assign rfl ?_
    refine jl_nil ?_
    refine jq_then ?_
    refine jc_ret ?_
    refine jq_block_ret ?_
    refine jq_then_ret ?_
    have e : wordT t = t.text := by unfold wordT; rw [if_pos (.inl h1)]
    refine jq_ret1 rfl rfl [] rfl (fun K h => by rw [e] at h; exact h)
  · refine jc_region ?_
    refine jl_op ?_ (nb rfl)
    refine ow_eql rfl rfl ?_
    refine jl_op ?_ (nb rfl)
    refine ow_assign rfl ?_
    refine jl_nil ?_
    refine jq_then ?_
    refine jc_condd rfl (fun h3 => ?_) (fun h3 => ?_)
    · refine jc_seq ?_
      refine jc_region ?_
      refine jl_op ?_ (nb rfl)
      refine ow_fieldAddr rfl rfl rfl (nb rfl) ?_
      refine jl_op ?_ (nb rfl)
      refine ow_load 0 rfl rfl rfl rfl ?_
      refine jl_op ?_ (nb rfl)
      refine ow_assign rfl ?_
      refine jl_nil ?_
      refine jq_then ?_
      refine jc_ret ?_
      refine jq_block_ret ?_
      refine jq_then_ret ?_
      have e : wordT t = t.text := by unfold wordT; rw [if_pos (.inr h3)]
      refine jq_ret1 rfl rfl [] rfl (fun K h => by rw [e] at h; exact h)
    · refine jc_seq ?_
      refine jc_region ?_
      refine jl_op ?_ (nb rfl)
      refine ow_eql rfl rfl ?_
      refine jl_op ?_ (nb rfl)
      refine ow_assign rfl ?_
      refine jl_nil ?_
      refine jq_then ?_
      refine jc_condd rfl (fun h2 => ?_) (fun h2 => ?_)
      · have e : wordT t = if t.num < 0 ∨ 2147483647 < t.num then ⟨#[48]⟩ else decS t.num.toNat := by unfold wordT; rw [if_neg (fun h => h.elim h1 h3), if_pos h2]
        by_cases hn : t.num < 0
        · refine jc_seq ?_
          refine jc_seq ?_
          refine jc_region ?_
          refine jl_op ?_ (nb rfl)
          refine ow_fieldAddr rfl rfl rfl (nb rfl) ?_
          refine jl_op ?_ (nb rfl)
          refine ow_load 0 rfl rfl rfl rfl ?_
          refine jl_op ?_ (nb rfl)
          refine ow_lss rfl rfl ?_
          refine jl_op ?_ (nb rfl)
          refine ow_move rfl ?_
          refine jl_guardN rfl (by first | assumption | exact decide_eq_true rfl | exact decide_eq_true (by first | assumption | omega) | exact decide_eq_false (by first | assumption | omega) | with_reducible rfl | exact (rfl : false = !true) | exact (rfl : true = !false)) (nb rfl) ?_
          refine jl_guardN rfl (by first | assumption | exact decide_eq_true rfl | exact decide_eq_true (by first | assumption | omega) | exact decide_eq_false (by first | assumption | omega) | with_reducible rfl | exact (rfl : false = !true) | exact (rfl : true = !false)) (nb rfl) ?_
          refine jl_guardN rfl (by first | assumption | exact decide_eq_true rfl | exact decide_eq_true (by first | assumption | omega) | exact decide_eq_false (by first | assumption | omega) | with_reducible rfl | exact (rfl : false = !true) | exact (rfl : true = !false)) (nb rfl) ?_
          refine jl_op ?_ (nb rfl)
          refine ow_pickT rfl (by first | assumption | exact decide_eq_true rfl | exact decide_eq_true (by first | assumption | omega) | exact decide_eq_false (by first | assumption | omega) | with_reducible rfl | exact (rfl : false = !true) | exact (rfl : true = !false)) rfl ?_
          refine jl_nil ?_
          refine jq_then ?_
          refine jc_cond rfl (fun _ => ?_) (fun h => by cases h)
          refine jc_seq ?_
          refine jc_region ?_
          refine jl_op ?_ (nb rfl)
          refine ow_assign rfl ?_
          refine jl_nil ?_
          refine jq_then ?_
          refine jc_ret ?_
          refine jq_then_ret ?_
          refine jq_block_ret ?_
          refine jq_then_ret ?_
          rw [if_pos (.inl hn)] at e
          refine jq_ret1 rfl rfl [] rfl (fun K h => by rw [e] at h; exact h)
        · refine jc_seq ?_
          refine jc_seq ?_
          refine jc_region ?_
          refine jl_op ?_ (nb rfl)
          refine ow_fieldAddr rfl rfl rfl (nb rfl) ?_
          refine jl_op ?_ (nb rfl)
          refine ow_load 0 rfl rfl rfl rfl ?_
          refine jl_op ?_ (nb rfl)
          refine ow_lss rfl rfl ?_
          refine jl_op ?_ (nb rfl)
          refine ow_move rfl ?_
          refine jl_guardY rfl (by first | assumption | exact decide_eq_true rfl | exact decide_eq_true (by first | assumption | omega) | exact decide_eq_false (by first | assumption | omega) | with_reducible rfl | exact (rfl : false = !true) | exact (rfl : true = !false)) (nb rfl) ?_
          refine ow_fieldAddr rfl rfl rfl (nb rfl) ?_
          refine jl_guardY rfl (by first | assumption | exact decide_eq_true rfl | exact decide_eq_true (by first | assumption | omega) | exact decide_eq_false (by first | assumption | omega) | with_reducible rfl | exact (rfl : false = !true) | exact (rfl : true = !false)) (nb rfl) ?_
          refine ow_load 0 rfl rfl rfl rfl ?_
          refine jl_guardY rfl (by first | assumption | exact decide_eq_true rfl | exact decide_eq_true (by first | assumption | omega) | exact decide_eq_false (by first | assumption | omega) | with_reducible rfl | exact (rfl : false = !true) | exact (rfl : true = !false)) (nb rfl) ?_
          refine ow_geq rfl rfl ?_
          refine jl_op ?_ (nb rfl)
          refine ow_pickF rfl (by first | assumption | exact decide_eq_true rfl | exact decide_eq_true (by first | assumption | omega) | exact decide_eq_false (by first | assumption | omega) | with_reducible rfl | exact (rfl : false = !true) | exact (rfl : true = !false)) rfl ?_
          refine jl_nil ?_
          refine jq_then ?_
          refine jc_condd rfl (fun hg => ?_) (fun hg => ?_)
          · refine jc_seq ?_
            refine jc_region ?_
            refine jl_op ?_ (nb rfl)
            refine ow_assign rfl ?_
            refine jl_nil ?_
            refine jq_then ?_
            refine jc_ret ?_
            refine jq_then_ret ?_
            refine jq_block_ret ?_
            refine jq_then_ret ?_
            rw [if_pos (.inr (by omega))] at e
            refine jq_ret1 rfl rfl [] rfl (fun K h => by rw [e] at h; exact h)
          · rw [if_neg (fun h => by omega)] at e
            have hD := Decimal_c t.num.toNat (by omega)
            rw [show (t.num.toNat : Int) = t.num by omega] at hD
            refine jc_skip ?_
            refine jq_then ?_
            refine jc_seq ?_
            refine jc_region ?_
            refine jl_op ?_ (nb rfl)
            refine ow_fieldAddr rfl rfl rfl (nb rfl) ?_
            refine jl_op ?_ (nb rfl)
            refine ow_load 0 rfl rfl rfl rfl ?_
            refine jl_op ?_ (nb rfl)
            refine ow_call0 rfl (hD) ?_
            refine jl_op ?_ (nb rfl)
            refine ow_assign rfl ?_
            refine jl_nil ?_
            refine jq_then ?_
            refine jc_ret ?_
            refine jq_block_ret ?_
            refine jq_then_ret ?_
            refine jq_ret1 rfl rfl [] rfl (fun K h => by rw [e] at h; exact h)
      · have e : wordT t = ⟨#[]⟩ := by unfold wordT; rw [if_neg (fun h => h.elim h1 h3), if_neg h2]
        refine jc_skip ?_
        refine jq_block ?_
        refine jq_then ?_
        refine jc_seq ?_
        refine jc_region ?_
        refine jl_op ?_ (nb rfl)
        refine ow_assign rfl ?_
        refine jl_nil ?_
        refine jq_then ?_
        refine jc_ret ?_
        refine jq_ret1 rfl rfl [] rfl (fun K h => by rw [e] at h; exact h)
end Go.Proofs.YtccojifhaoadbaaDoor
