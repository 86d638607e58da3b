import Derived.Test.YtjkkkjikhjfdnaaSt1
import Derived.Test.YtjkkkjikhjfdnaaVck
namespace Go.Proofs.Ytjkkkjikhjfdnaa
open Go.Vc
attribute [local irreducible] JL JC JQ OpWp Con ConN
set_option maxHeartbeats 4000000

theorem rotate_c (V : Value) (l : List Tm) (a m b : Nat) (ha : a < m) (hm : m < b) (hb : b ≤ l.length) (hl : l.length ≤ 1000000) :
    Con Try.prog 61 [.cell (.val V), In .i64 (a : Int), In .i64 (m : Int), In .i64 (b : Int), CF] [Ow V l] (fun K => ∀ l' : List Tm, (Mv a b l l' ∧ ∀ p, l'[p]? = l[rotI a m b p]?) → K (.tup []) [Ow V l']) := by
  refine con_intro Try.func61 rfl rfl (Nat.le_of_ble_eq_true rfl) (fun c hc => ?_)
  refine jc_seq ?_
  refine jc_region ?_
  refine jl_op ?_ (nb rfl)
  refine ow_move rfl ?_
  refine jl_op ?_ (nb rfl)
  refine ow_move rfl ?_
  refine jl_op ?_ (nb rfl)
  refine ow_sub64 rfl rfl (by omega) ?_
  refine jl_op ?_ (nb rfl)
  refine ow_assign rfl ?_
  refine jl_nil ?_
  refine jq_then ?_
  refine jc_seq ?_
  refine jc_region ?_
  refine jl_op ?_ (nb rfl)
  refine ow_move rfl ?_
  refine jl_op ?_ (nb rfl)
  refine ow_move rfl ?_
  refine jl_op ?_ (nb rfl)
  refine ow_sub64 rfl rfl (by omega) ?_
  refine jl_op ?_ (nb rfl)
  refine ow_assign rfl ?_
  refine jl_nil ?_
  refine jq_then ?_
  refine jc_seq ?_
  refine jc_block ?_
  refine jc_loopS (ι := Nat × Nat × List Tm) [] (fun i => 0 < i.1 ∧ 0 < i.2.1 ∧ i.1 ≤ m - a ∧ i.2.1 ≤ b - m ∧ i.2.2.length = l.length ∧ i.2.2.Perm l ∧ ∀ p, i.2.2[rotI (m - i.1) m (m + i.2.1) p]? = l[rotI a m b p]?) (fun i => [(0, .cell (.val V)), (2, In .i64 (m : Int)), (4, CF), (10, In .i64 (i.1 : Int)), (11, In .i64 (i.2.1 : Int))]) (fun i => [Ow V i.2.2]) (fun i => i.1 + i.2.1) (m - a, b - m, l) ⟨by dsimp only; omega, by dsimp only; omega, Nat.le_refl _, Nat.le_refl _, rfl, .refl _, fun p => by dsimp only; rw [show m - (m - a) = a by omega, show m + (b - m) = b by omega]⟩ ?_ ?_ ?_
  · refine sub_step 0 rfl ?_
    exact sub_end
  · rw [show ((m : Int) - (a : Int)) = ((m - a : Nat) : Int) by omega, show ((b : Int) - (m : Int)) = ((b - m : Nat) : Int) by omega]
    (repeat (first | exact True.intro | refine ⟨rfl, ?_⟩))
  · rintro ⟨i, j, t⟩ ⟨hi0, hj0, hi, hj, hlen, hperm, ht⟩
    dsimp only at hi0 hj0 hi hj hlen hperm ht ⊢
    refine jc_reset [(0, .cell (.val V)), (2, In .i64 (m : Int)), (4, CF), (10, In .i64 (i : Int)), (11, In .i64 (j : Int))] [Ow V t] ?_ ⟨[0], [], rfl⟩ ?_
    · (repeat (first | exact True.intro | refine ⟨rfl, ?_⟩))
    refine jc_seq ?_
    refine jc_seq ?_
    refine jc_region ?_
    refine jl_op ?_ (nb rfl)
    refine ow_move rfl ?_
    refine jl_op ?_ (nb rfl)
    refine ow_move rfl ?_
    refine jl_op ?_ (nb rfl)
    refine ow_neq rfl rfl ?_
    refine jl_nil ?_
    refine jq_then ?_
    refine jc_condd rfl (fun hne => ?_) (fun heq => ?_)
    · refine jc_skip ?_
      refine jq_then ?_
      refine jc_block ?_
      refine jc_seq ?_
      refine jc_region ?_
      refine jl_op ?_ (nb rfl)
      refine ow_move rfl ?_
      refine jl_op ?_ (nb rfl)
      refine ow_move rfl ?_
      refine jl_op ?_ (nb rfl)
      refine ow_gtr rfl rfl ?_
      refine jl_nil ?_
      refine jq_then ?_
      refine jc_condd rfl (fun hgt => ?_) (fun hle => ?_)
      · have hc1 := swapRange_c V t (m - i) m j (by omega) (by omega) (by omega)
        rw [show ((m - i : Nat) : Int) = (m : Int) - (i : Int) by omega] at hc1
        refine jc_seq ?_
        refine jc_region ?_
        refine jl_op ?_ (nb rfl)
        refine ow_move rfl ?_
        refine jl_op ?_ (nb rfl)
        refine ow_move rfl ?_
        refine jl_op ?_ (nb rfl)
        refine ow_move rfl ?_
        refine jl_op ?_ (nb rfl)
        refine ow_sub64 rfl rfl (by omega) ?_
        refine jl_op ?_ (nb rfl)
        refine ow_move rfl ?_
        refine jl_op ?_ (nb rfl)
        refine ow_move rfl ?_
        refine jl_op ?_ (nb rfl)
        refine ow_move rfl ?_
        refine jl_op (ow_callP [0] rfl rfl (hc1) (fun t2 h2 => ?_)) (nb rfl)
        obtain ⟨g1, g2, g3⟩ := h2
        refine jl_nil ?_
        refine jq_then ?_
        refine jc_region ?_
        refine jl_op ?_ (nb rfl)
        refine ow_move rfl ?_
        refine jl_op ?_ (nb rfl)
        refine ow_move rfl ?_
        refine jl_op ?_ (nb rfl)
        refine ow_sub64 rfl rfl (by omega) ?_
        refine jl_op ?_ (nb rfl)
        refine ow_assign rfl ?_
        refine jl_nil ?_
        refine jq_block ?_
        refine jq_againS (i := (i, j, t)) (i - j, j, t2) ⟨by dsimp only; omega, hj0, by dsimp only; omega, hj, g1.trans hlen, g2.trans hperm, fun p => by dsimp only; rw [g3, ← rot_gt m i j p (by omega) (by omega) hj0]; exact ht p⟩ (by dsimp only; omega) ?_ ?_
        · refine sub_step 0 rfl ?_
          exact sub_end
        · rw [show ((i : Int) - (j : Int)) = ((i - j : Nat) : Int) by omega]
          (repeat (first | exact True.intro | refine ⟨rfl, ?_⟩))
      · have hc1 := swapRange_c V t (m - i) (m + j - i) i (by omega) (by omega) (by omega)
        rw [show ((m - i : Nat) : Int) = (m : Int) - (i : Int) by omega, show ((m + j - i : Nat) : Int) = (m : Int) + (j : Int) - (i : Int) by omega] at hc1
        refine jc_seq ?_
        refine jc_region ?_
        refine jl_op ?_ (nb rfl)
        refine ow_move rfl ?_
        refine jl_op ?_ (nb rfl)
        refine ow_move rfl ?_
        refine jl_op ?_ (nb rfl)
        refine ow_move rfl ?_
        refine jl_op ?_ (nb rfl)
        refine ow_sub64 rfl rfl (by omega) ?_
        refine jl_op ?_ (nb rfl)
        refine ow_move rfl ?_
        refine jl_op ?_ (nb rfl)
        refine ow_move rfl ?_
        refine jl_op ?_ (nb rfl)
        refine ow_add64 rfl rfl (by omega) ?_
        refine jl_op ?_ (nb rfl)
        refine ow_move rfl ?_
        refine jl_op ?_ (nb rfl)
        refine ow_sub64 rfl rfl (by omega) ?_
        refine jl_op ?_ (nb rfl)
        refine ow_move rfl ?_
        refine jl_op ?_ (nb rfl)
        refine ow_move rfl ?_
        refine jl_op (ow_callP [0] rfl rfl (hc1) (fun t2 h2 => ?_)) (nb rfl)
        obtain ⟨g1, g2, g3⟩ := h2
        refine jl_nil ?_
        refine jq_then ?_
        refine jc_region ?_
        refine jl_op ?_ (nb rfl)
        refine ow_move rfl ?_
        refine jl_op ?_ (nb rfl)
        refine ow_move rfl ?_
        refine jl_op ?_ (nb rfl)
        refine ow_sub64 rfl rfl (by omega) ?_
        refine jl_op ?_ (nb rfl)
        refine ow_assign rfl ?_
        refine jl_nil ?_
        refine jq_block ?_
        refine jq_againS (i := (i, j, t)) (i, j - i, t2) ⟨hi0, by dsimp only; omega, hi, by dsimp only; omega, g1.trans hlen, g2.trans hperm, fun p => by dsimp only; rw [g3, ← rot_lt m i j p (by omega) (by omega) hi0]; exact ht p⟩ (by dsimp only; omega) ?_ ?_
        · refine sub_step 0 rfl ?_
          exact sub_end
        · rw [show ((j : Int) - (i : Int)) = ((j - i : Nat) : Int) by omega]
          (repeat (first | exact True.intro | refine ⟨rfl, ?_⟩))
    · obtain rfl : i = j := by omega
      have hc1 := swapRange_c V t (m - i) m i (by omega) (by omega) (by omega)
      rw [show ((m - i : Nat) : Int) = (m : Int) - (i : Int) by omega] at hc1
      refine jc_exit ?_
      refine jq_then_exit ?_
      refine jq_then_exit ?_
      refine jq_block_exit ?_
      refine jq_then ?_
      refine jc_region ?_
      refine jl_op ?_ (nb rfl)
      refine ow_move rfl ?_
      refine jl_op ?_ (nb rfl)
      refine ow_move rfl ?_
      refine jl_op ?_ (nb rfl)
      refine ow_move rfl ?_
      refine jl_op ?_ (nb rfl)
      refine ow_sub64 rfl rfl (by omega) ?_
      refine jl_op ?_ (nb rfl)
      refine ow_move rfl ?_
      refine jl_op ?_ (nb rfl)
      refine ow_move rfl ?_
      refine jl_op ?_ (nb rfl)
      refine ow_move rfl ?_
      refine jl_op (ow_callP [0] rfl rfl (hc1) (fun t2 h2 => ?_)) (nb rfl)
      obtain ⟨g1, g2, g3⟩ := h2
      refine jl_nil ?_
      have e : ∀ p, t2[p]? = l[rotI a m b p]? := fun p => by rw [g3, ← rot_eq m i p (by omega)]; exact ht p
      refine jq_retG (ss := []) (.inr rfl) rfl (is := [0]) rfl (fun K h => h t2 ⟨⟨g1.trans hlen, g2.trans hperm, fun p hp => by rw [e, (rot_in (by omega) (by omega)).1 hp], fun p h1 h2 => ⟨_, ((rot_in (by omega) (by omega)).2 h1 h2).1, ((rot_in (by omega) (by omega)).2 h1 h2).2, e p⟩⟩, e⟩)

/-! The comparison -/
abbrev okT (l : List Tm) : Prop := ∀ t ∈ l, -1000000000 ≤ t.1 ∧ t.1 ≤ 1000000000
abbrev kOf (t : Tm) : Int := t.1
theorem cmp_c (x y : Tm) (hx : -1000000000 ≤ x.1 ∧ x.1 ≤ 1000000000) (hy : -1000000000 ≤ y.1 ∧ y.1 ≤ 1000000000) : Con Try.prog 52 [.row (TR x), .row (TR y)] [] (fun K => K (In .i64 (x.1 - y.1)) []) := by
  refine con_intro Try.func52 rfl rfl (Nat.le_of_ble_eq_true rfl) (fun c hc => ?_)
  refine jc_seq ?_
  refine jc_region ?_
  refine jl_op ?_ (nb rfl)
  refine ow_box rfl (fun bx => ?_)
  refine jl_op ?_ (nb rfl)
  refine ow_box rfl (fun bx => ?_)
  refine jl_op ?_ (nb rfl)
  refine ow_assign rfl ?_
  refine jl_nil ?_
  refine jq_then ?_
  refine jc_seq ?_
  refine jc_region ?_
  refine jl_op ?_ (nb rfl)
  refine ow_fieldAddr rfl rfl rfl (nb rfl) ?_
  refine jl_op ?_ (nb rfl)
  refine ow_load 1 rfl rfl rfl rfl ?_
  refine jl_op ?_ (nb rfl)
  refine ow_fieldAddr rfl rfl rfl (nb rfl) ?_
  refine jl_op ?_ (nb rfl)
  refine ow_load 0 rfl rfl rfl rfl ?_
  refine jl_op ?_ (nb rfl)
  refine ow_sub64 rfl rfl (by omega) ?_
  refine jl_op ?_ (nb rfl)
  refine ow_assign rfl ?_
  refine jl_nil ?_
  refine jq_then ?_
  refine jc_ret ?_
  refine jq_ret1 rfl rfl [] rfl (fun K h => h)
theorem okT_perm {l m : List Tm} (h : okT l) (hp : m.Perm l) : okT m := fun t ht => h t (hp.mem_iff.1 ht)

theorem insSort_c (V : Value) (l : List Tm) (a b : Nat) (hab : a ≤ b) (hb : b ≤ l.length) (hl : l.length ≤ 1000000) (hok : okT l) :
    Con Try.prog 59 [.cell (.val V), In .i64 (a : Int), In .i64 (b : Int), CF] [Ow V l] (fun K => ∀ l' : List Tm, (Mv a b l l' ∧ So kOf l' a b) → K (.tup []) [Ow V l']) := by
  refine con_intro Try.func59 rfl rfl (Nat.le_of_ble_eq_true rfl) (fun c hc => ?_)
  refine jc_seq ?_
  refine jc_region ?_
  refine jl_op ?_ (nb rfl)
  refine ow_move rfl ?_
  refine jl_op ?_ (nb rfl)
  refine ow_add64 rfl rfl (by omega) ?_
  refine jl_op ?_ (nb rfl)
  refine ow_assign rfl ?_
  refine jl_nil ?_
  refine jq_then ?_
  refine jc_block ?_
  refine jc_loopS (ι := Nat × List Tm) [] (fun i => a + 1 ≤ i.1 ∧ (i.1 ≤ b ∨ i.1 = a + 1) ∧ Mv a b l i.2 ∧ So kOf i.2 a i.1) (fun i => [(0, .cell (.val V)), (1, In .i64 (a : Int)), (2, In .i64 (b : Int)), (3, CF), (8, In .i64 (i.1 : Int))]) (fun i => [Ow V i.2]) (fun i => b + 1 - i.1) (a + 1, l) ⟨Nat.le_refl _, .inr rfl, Mv.refl _ _ _, so_small kOf (by dsimp only; omega)⟩ ?_ ?_ ?_
  · refine sub_step 0 rfl ?_
    exact sub_end
  · (repeat (first | exact True.intro | refine ⟨rfl, ?_⟩))
  · rintro ⟨i, t⟩ ⟨h1, h2, hm, hs⟩
    dsimp only at h1 h2 hm hs ⊢
    refine jc_reset [(0, .cell (.val V)), (1, In .i64 (a : Int)), (2, In .i64 (b : Int)), (3, CF), (8, In .i64 (i : Int))] [Ow V t] ?_ ⟨[0], [], rfl⟩ ?_
    · (repeat (first | exact True.intro | refine ⟨rfl, ?_⟩))
    refine jc_seq ?_
    refine jc_seq ?_
    refine jc_region ?_
    refine jl_op ?_ (nb rfl)
    refine ow_move rfl ?_
    refine jl_op ?_ (nb rfl)
    refine ow_move rfl ?_
    refine jl_op ?_ (nb rfl)
    refine ow_lss rfl rfl ?_
    refine jl_nil ?_
    refine jq_then ?_
    refine jc_condd rfl (fun hlt => ?_) (fun hge => ?_)
    · have hib : i < b := by omega
      refine jc_skip ?_
      refine jq_then ?_
      refine jc_seq ?_
      refine jc_block ?_
      refine jc_seq ?_
      refine jc_region ?_
      refine jl_op ?_ (nb rfl)
      refine ow_move rfl ?_
      refine jl_op ?_ (nb rfl)
      refine ow_assign rfl ?_
      refine jl_nil ?_
      refine jq_then ?_
      refine jc_block ?_
      refine jc_loopS (ι := Nat × List Tm) [] (fun j => a ≤ j.1 ∧ j.1 ≤ i ∧ Mv a b l j.2 ∧ Ins kOf j.2 a i j.1) (fun j => [(0, .cell (.val V)), (1, In .i64 (a : Int)), (2, In .i64 (b : Int)), (3, CF), (8, In .i64 (i : Int)), (9, In .i64 (j.1 : Int))]) (fun j => [Ow V j.2]) (fun j => j.1) (i, t) ⟨by dsimp only; omega, Nat.le_refl _, hm, ins_start kOf hs⟩ ?_ ?_ ?_
      · refine sub_step 0 rfl ?_
        exact sub_end
      · (repeat (first | exact True.intro | refine ⟨rfl, ?_⟩))
      · rintro ⟨j, u⟩ ⟨g1, g2, gm, gi⟩
        dsimp only at g1 g2 gm gi ⊢
        have hul : u.length = l.length := gm.len
        refine jc_reset [(0, .cell (.val V)), (1, In .i64 (a : Int)), (2, In .i64 (b : Int)), (3, CF), (8, In .i64 (i : Int)), (9, In .i64 (j : Int))] [Ow V u] ?_ ⟨[0], [], rfl⟩ ?_
        · (repeat (first | exact True.intro | refine ⟨rfl, ?_⟩))
        by_cases hja : (a : Int) < (j : Int)
        · have hj1 : j < u.length := by omega
          have hj2 : j - 1 < u.length := by omega
          have ok1 := okT_perm hok gm.perm u[j] (List.getElem_mem hj1)
          have ok2 := okT_perm hok gm.perm u[j - 1] (List.getElem_mem hj2)
          have hcmp := cmp_c u[j] u[j - 1] ok1 ok2
          refine jc_seq ?_
          refine jc_seq ?_
          refine jc_any rfl rfl (by kernel_rfl) (by kernel_rfl) ?_
          refine any_op (fun c => ow_move rfl ⟨rfl, List.Perm.refl _⟩) ?_
          refine any_op (fun c => ow_move rfl ⟨rfl, List.Perm.refl _⟩) ?_
          refine any_op (fun c => ow_gtr rfl rfl ⟨rfl, List.Perm.refl _⟩) ?_
          refine any_op (fun c => ow_move rfl ⟨rfl, List.Perm.refl _⟩) ?_
          refine any_guardY rfl (by first | assumption | exact decide_eq_true rfl | exact decide_eq_true (by first | assumption | omega) | exact decide_eq_false (by first | assumption | omega) | with_reducible rfl | exact (rfl : false = !true) | exact (rfl : true = !false)) (fun c => ow_move rfl ⟨rfl, List.Perm.refl _⟩) ?_
          refine any_guardY rfl (by first | assumption | exact decide_eq_true rfl | exact decide_eq_true (by first | assumption | omega) | exact decide_eq_false (by first | assumption | omega) | with_reducible rfl | exact (rfl : false = !true) | exact (rfl : true = !false)) (fun c => ow_move rfl ⟨rfl, List.Perm.refl _⟩) ?_
          refine any_guardY rfl (by first | assumption | exact decide_eq_true rfl | exact decide_eq_true (by first | assumption | omega) | exact decide_eq_false (by first | assumption | omega) | with_reducible rfl | exact (rfl : false = !true) | exact (rfl : true = !false)) (fun c => ow_move rfl ⟨rfl, List.Perm.refl _⟩) ?_
          refine any_guardY rfl (by first | assumption | exact decide_eq_true rfl | exact decide_eq_true (by first | assumption | omega) | exact decide_eq_false (by first | assumption | omega) | with_reducible rfl | exact (rfl : false = !true) | exact (rfl : true = !false)) (fun c => ow_indexOwn 0 rfl rfl rfl (by omega) (by first | omega | (simp only [List.length_map]; omega) | (simp only [List.length_map, List.length_set]; omega)) rfl ⟨rfl, List.Perm.refl _⟩) ?_
          refine any_guardY rfl (by (first | assumption | exact decide_eq_true rfl | exact decide_eq_true (by first | assumption | omega) | exact decide_eq_false (by first | assumption | omega) | with_reducible rfl | exact (rfl : false = !true) | exact (rfl : true = !false))) (fun c => ow_loadInnN 0 j rfl rfl rfl (by omega) (map_at hj1) rfl ⟨rfl, List.Perm.refl _⟩) ?_
          refine any_guardY rfl (by first | assumption | exact decide_eq_true rfl | exact decide_eq_true (by first | assumption | omega) | exact decide_eq_false (by first | assumption | omega) | with_reducible rfl | exact (rfl : false = !true) | exact (rfl : true = !false)) (fun c => ow_move rfl ⟨rfl, List.Perm.refl _⟩) ?_
          refine any_guardY rfl (by first | assumption | exact decide_eq_true rfl | exact decide_eq_true (by first | assumption | omega) | exact decide_eq_false (by first | assumption | omega) | with_reducible rfl | exact (rfl : false = !true) | exact (rfl : true = !false)) (fun c => ow_move rfl ⟨rfl, List.Perm.refl _⟩) ?_
          refine any_guardY rfl (by first | assumption | exact decide_eq_true rfl | exact decide_eq_true (by first | assumption | omega) | exact decide_eq_false (by first | assumption | omega) | with_reducible rfl | exact (rfl : false = !true) | exact (rfl : true = !false)) (fun c => ow_sub64 rfl rfl (by omega) ⟨rfl, List.Perm.refl _⟩) ?_
          refine any_guardY rfl (by first | assumption | exact decide_eq_true rfl | exact decide_eq_true (by first | assumption | omega) | exact decide_eq_false (by first | assumption | omega) | with_reducible rfl | exact (rfl : false = !true) | exact (rfl : true = !false)) (fun c => ow_indexOwn 0 rfl rfl rfl (by omega) (by first | omega | (simp only [List.length_map]; omega) | (simp only [List.length_map, List.length_set]; omega)) rfl ⟨rfl, List.Perm.refl _⟩) ?_
          refine any_guardY rfl (by (first | assumption | exact decide_eq_true rfl | exact decide_eq_true (by first | assumption | omega) | exact decide_eq_false (by first | assumption | omega) | with_reducible rfl | exact (rfl : false = !true) | exact (rfl : true = !false))) (fun c => ow_loadInnN 0 (j - 1) rfl rfl rfl (by omega) (map_at hj2) rfl ⟨rfl, List.Perm.refl _⟩) ?_
          refine any_guardY rfl (by first | assumption | exact decide_eq_true rfl | exact decide_eq_true (by first | assumption | omega) | exact decide_eq_false (by first | assumption | omega) | with_reducible rfl | exact (rfl : false = !true) | exact (rfl : true = !false)) (fun c => ow_callv0 rfl rfl (hcmp) ⟨rfl, List.Perm.refl _⟩) ?_
          refine any_guardY rfl (by first | assumption | exact decide_eq_true rfl | exact decide_eq_true (by first | assumption | omega) | exact decide_eq_false (by first | assumption | omega) | with_reducible rfl | exact (rfl : false = !true) | exact (rfl : true = !false)) (fun c => ow_lss rfl rfl ⟨rfl, List.Perm.refl _⟩) ?_
          refine any_op (fun c => ow_pickT rfl (by first | assumption | exact decide_eq_true rfl | exact decide_eq_true (by first | assumption | omega) | exact decide_eq_false (by first | assumption | omega) | with_reducible rfl | exact (rfl : false = !true) | exact (rfl : true = !false)) rfl ⟨rfl, List.Perm.refl _⟩) ?_
          refine any_nil ?_
          refine jq_then ?_
          have k1 := kk_get kOf hj1
          have k2 := kk_get kOf hj2
          refine jc_condd rfl (fun hneg => ?_) (fun hpos => ?_)
          · have hlt2 : kk kOf u j < kk kOf u (j - 1) := by rw [k1, k2]; show u[j].1 < u[j - 1].1; omega
            have hst := ins_step kOf (by omega) gi (by omega) g2 hlt2
            refine jc_skip ?_
            refine jq_then ?_
            refine jc_seq ?_
            refine jc_block ?_
            refine jc_anyF 14 none [2,3,4] rfl (by kernel_rfl) (by kernel_rfl) (by kernel_rfl) rfl ?_
            refine any_op (fun c => ow_move rfl ⟨rfl, List.Perm.refl _⟩) ?_
            refine any_op (fun c => ow_move rfl ⟨rfl, List.Perm.refl _⟩) ?_
            refine any_op (fun c => ow_move rfl ⟨rfl, List.Perm.refl _⟩) ?_
            refine any_op (fun c => ow_move rfl ⟨rfl, List.Perm.refl _⟩) ?_
            refine any_op (fun c => ow_sub64 rfl rfl (by omega) ⟨rfl, List.Perm.refl _⟩) ?_
            refine any_op (fun c => ow_move rfl ⟨rfl, List.Perm.refl _⟩) ?_
            refine any_op (fun c => ow_move rfl ⟨rfl, List.Perm.refl _⟩) ?_
            refine any_op (fun c => ow_sub64 rfl rfl (by omega) ⟨rfl, List.Perm.refl _⟩) ?_
            refine any_op (fun c => ow_indexOwn 0 rfl rfl rfl (by omega) (by first | omega | (simp only [List.length_map]; omega) | (simp only [List.length_map, List.length_set]; omega)) rfl ⟨rfl, List.Perm.refl _⟩) ?_
            refine any_op (fun c => ow_loadInnN 0 (j - 1) rfl rfl rfl (by omega) (map_at hj2) rfl ⟨rfl, List.Perm.refl _⟩) ?_
            refine any_op (fun c => ow_move rfl ⟨rfl, List.Perm.refl _⟩) ?_
            refine any_op (fun c => ow_move rfl ⟨rfl, List.Perm.refl _⟩) ?_
            refine any_op (fun c => ow_indexOwn 0 rfl rfl rfl (by omega) (by first | omega | (simp only [List.length_map]; omega) | (simp only [List.length_map, List.length_set]; omega)) rfl ⟨rfl, List.Perm.refl _⟩) ?_
            refine any_op (fun c => ow_loadInnN 0 j rfl rfl rfl (by omega) (map_at hj1) rfl ⟨rfl, List.Perm.refl _⟩) ?_
            refine any_nil ?_
            refine afin_none ?_
            refine jl_op ?_ (nb rfl)
            refine ow_indexOwn 0 rfl rfl rfl (by omega) (by first | omega | (simp only [List.length_map]; omega) | (simp only [List.length_map, List.length_set]; omega)) rfl ?_
            refine jl_op0 (ow_storeInnAll 0 j rfl rfl rfl rfl (by omega) (map_at hj1) rfl rfl rfl ?_)
            refine jl_op ?_ (nb rfl)
            refine ow_indexOwn 0 rfl rfl rfl (by omega) (by first | omega | (simp only [List.length_map]; omega) | (simp only [List.length_map, List.length_set]; omega)) rfl ?_
            refine jl_op0 (ow_storeInnAll 0 (j - 1) rfl rfl rfl rfl (by omega) (map_at2 (by omega) hj2) rfl rfl rfl ?_)
            refine jl_nil ?_
            refine jq_np ?_
            refine jq_block ?_
            refine jq_then ?_
            refine jc_region ?_
            refine jl_op ?_ (nb rfl)
            refine ow_move rfl ?_
            refine jl_op ?_ (nb rfl)
            refine ow_sub64 rfl rfl (by omega) ?_
            refine jl_op ?_ (nb rfl)
            refine ow_assign rfl ?_
            refine jl_nil ?_
            refine jq_againS (i := (j, u)) (j - 1, sw u j (j - 1)) ⟨by dsimp only; omega, by dsimp only; omega, gm.trans (Mv.sw (by omega) (by omega) (by omega)), hst⟩ (by dsimp only; omega) ?_ ?_
            · dsimp only
              rw [map_sw hj1 hj2]
              refine sub_step 0 rfl ?_
              exact sub_end
            · rw [show ((j : Int) - 1) = ((j - 1 : Nat) : Int) by omega]
              (repeat (first | exact True.intro | refine ⟨rfl, ?_⟩))
          · have hend := ins_end kOf gi (.inr ⟨by rw [k1, k2]; show u[j - 1].1 ≤ u[j].1; omega, by omega⟩)
            refine jc_exit ?_
            refine jq_then_exit ?_
            refine jq_then_exit ?_
            refine jq_block_exit ?_
            refine jq_block ?_
            refine jq_then ?_
            refine jc_region ?_
            refine jl_op ?_ (nb rfl)
            refine ow_move rfl ?_
            refine jl_op ?_ (nb rfl)
            refine ow_add64 rfl rfl (by omega) ?_
            refine jl_op ?_ (nb rfl)
            refine ow_assign rfl ?_
            refine jl_nil ?_
            refine jq_againS (i := (i, t)) (i + 1, u) ⟨by dsimp only; omega, .inl (by dsimp only; omega), gm, hend⟩ (by dsimp only; omega) ?_ ?_
            · refine sub_step 0 rfl ?_
              exact sub_end
            · (repeat (first | exact True.intro | refine ⟨rfl, ?_⟩))
        · have hend := ins_end kOf gi (.inl (by omega))
          refine jc_seq ?_
          refine jc_seq ?_
          refine jc_any rfl rfl (by kernel_rfl) (by kernel_rfl) ?_
          refine any_op (fun c => ow_move rfl ⟨rfl, List.Perm.refl _⟩) ?_
          refine any_op (fun c => ow_move rfl ⟨rfl, List.Perm.refl _⟩) ?_
          refine any_op (fun c => ow_gtr rfl rfl ⟨rfl, List.Perm.refl _⟩) ?_
          refine any_op (fun c => ow_move rfl ⟨rfl, List.Perm.refl _⟩) ?_
          refine any_guardN rfl (by first | assumption | exact decide_eq_true rfl | exact decide_eq_true (by first | assumption | omega) | exact decide_eq_false (by first | assumption | omega) | with_reducible rfl | exact (rfl : false = !true) | exact (rfl : true = !false)) ?_
          refine any_guardN rfl (by first | assumption | exact decide_eq_true rfl | exact decide_eq_true (by first | assumption | omega) | exact decide_eq_false (by first | assumption | omega) | with_reducible rfl | exact (rfl : false = !true) | exact (rfl : true = !false)) ?_
          refine any_guardN rfl (by first | assumption | exact decide_eq_true rfl | exact decide_eq_true (by first | assumption | omega) | exact decide_eq_false (by first | assumption | omega) | with_reducible rfl | exact (rfl : false = !true) | exact (rfl : true = !false)) ?_
          refine any_guardN rfl (by first | assumption | exact decide_eq_true rfl | exact decide_eq_true (by first | assumption | omega) | exact decide_eq_false (by first | assumption | omega) | with_reducible rfl | exact (rfl : false = !true) | exact (rfl : true = !false)) ?_
          refine any_guardN rfl (by first | assumption | exact decide_eq_true rfl | exact decide_eq_true (by first | assumption | omega) | exact decide_eq_false (by first | assumption | omega) | with_reducible rfl | exact (rfl : false = !true) | exact (rfl : true = !false)) ?_
          refine any_guardN rfl (by first | assumption | exact decide_eq_true rfl | exact decide_eq_true (by first | assumption | omega) | exact decide_eq_false (by first | assumption | omega) | with_reducible rfl | exact (rfl : false = !true) | exact (rfl : true = !false)) ?_
          refine any_guardN rfl (by first | assumption | exact decide_eq_true rfl | exact decide_eq_true (by first | assumption | omega) | exact decide_eq_false (by first | assumption | omega) | with_reducible rfl | exact (rfl : false = !true) | exact (rfl : true = !false)) ?_
          refine any_guardN rfl (by first | assumption | exact decide_eq_true rfl | exact decide_eq_true (by first | assumption | omega) | exact decide_eq_false (by first | assumption | omega) | with_reducible rfl | exact (rfl : false = !true) | exact (rfl : true = !false)) ?_
          refine any_guardN rfl (by first | assumption | exact decide_eq_true rfl | exact decide_eq_true (by first | assumption | omega) | exact decide_eq_false (by first | assumption | omega) | with_reducible rfl | exact (rfl : false = !true) | exact (rfl : true = !false)) ?_
          refine any_guardN rfl (by first | assumption | exact decide_eq_true rfl | exact decide_eq_true (by first | assumption | omega) | exact decide_eq_false (by first | assumption | omega) | with_reducible rfl | exact (rfl : false = !true) | exact (rfl : true = !false)) ?_
          refine any_guardN rfl (by first | assumption | exact decide_eq_true rfl | exact decide_eq_true (by first | assumption | omega) | exact decide_eq_false (by first | assumption | omega) | with_reducible rfl | exact (rfl : false = !true) | exact (rfl : true = !false)) ?_
          refine any_guardN rfl (by first | assumption | exact decide_eq_true rfl | exact decide_eq_true (by first | assumption | omega) | exact decide_eq_false (by first | assumption | omega) | with_reducible rfl | exact (rfl : false = !true) | exact (rfl : true = !false)) ?_
          refine any_op (fun c => ow_pickF rfl (by first | assumption | exact decide_eq_true rfl | exact decide_eq_true (by first | assumption | omega) | exact decide_eq_false (by first | assumption | omega) | with_reducible rfl | exact (rfl : false = !true) | exact (rfl : true = !false)) rfl ⟨rfl, List.Perm.refl _⟩) ?_
          refine any_nil ?_
          refine jq_then ?_
          refine jc_cond rfl (fun h => by cases h) (fun _ => ?_)
          refine jc_exit ?_
          refine jq_then_exit ?_
          refine jq_then_exit ?_
          refine jq_block_exit ?_
          refine jq_block ?_
          refine jq_then ?_
          refine jc_region ?_
          refine jl_op ?_ (nb rfl)
          refine ow_move rfl ?_
          refine jl_op ?_ (nb rfl)
          refine ow_add64 rfl rfl (by omega) ?_
          refine jl_op ?_ (nb rfl)
          refine ow_assign rfl ?_
          refine jl_nil ?_
          refine jq_againS (i := (i, t)) (i + 1, u) ⟨by dsimp only; omega, .inl (by dsimp only; omega), gm, hend⟩ (by dsimp only; omega) ?_ ?_
          · refine sub_step 0 rfl ?_
            exact sub_end
          · (repeat (first | exact True.intro | refine ⟨rfl, ?_⟩))
    · refine jc_exit ?_
      refine jq_then_exit ?_
      refine jq_then_exit ?_
      refine jq_block_exit ?_
      refine jq_retG (ss := []) (.inr rfl) rfl (is := [0]) rfl (fun K h => h t ⟨hm, hs.sub kOf (Nat.le_refl _) (by omega)⟩)
end Go.Proofs.Ytjkkkjikhjfdnaa
