import Derived.Test.YtjkkkjikhjfdnaaSt3
namespace Go.Proofs.Ytjkkkjikhjfdnaa
open Go.Vc
attribute [local irreducible] JL JC JQ OpWp Con ConN
set_option maxHeartbeats 4000000

theorem rot_id {s m e : Nat} (h : s = m ∨ e = m) (hs : s ≤ m) (he : m ≤ e) (p : Nat) : rotI s m e p = p := by
  unfold rotI
  repeat' split
  all_goals omega
theorem symC (V : Value) (l : List Tm) (a m b : Nat) (ham : a + 1 < m) (hmb : m + 1 < b) (hb : b ≤ l.length) (hl : l.length ≤ 1000000) (hok : okT l) (hs1 : So kOf l a m) (hs2 : So kOf l m b)
    (ih : ∀ (l' : List Tm) (a' m' b' : Nat), b' - a' < b - a → a' < m' → m' < b' → b' ≤ l'.length → l'.length ≤ 1000000 → okT l' → So kOf l' a' m' → So kOf l' m' b' → SymP V l' a' m' b') : SymP V l a m b := by
  unfold SymP at ih ⊢
  refine con_intro Try.func60 rfl rfl (Nat.le_of_ble_eq_true rfl) (fun c hc => ?_)
  obtain ⟨mid, hmid⟩ : ∃ mid, mid = (a + b) / 2 := ⟨_, rfl⟩
  refine jc_seq ?_
  refine jc_seq ?_
  refine jc_region ?_
  refine jl_op ?_ (nb rfl)
  refine ow_move rfl ?_
  refine jl_op ?_ (nb rfl)
  refine ow_move rfl ?_
  refine jl_op ?_ (nb rfl)
  refine ow_sub64 rfl rfl (by omega) ?_
  refine jl_op ?_ (nb rfl)
  refine ow_eql rfl rfl ?_
  refine jl_nil ?_
  refine jq_then ?_
  refine jc_condd rfl (fun h => absurd h (show ¬ (m : Int) - (a : Int) = 1 by omega)) (fun _ => ?_)
  refine jc_skip ?_
  refine jq_then ?_
  refine jc_seq ?_
  refine jc_seq ?_
  refine jc_region ?_
  refine jl_op ?_ (nb rfl)
  refine ow_move rfl ?_
  refine jl_op ?_ (nb rfl)
  refine ow_move rfl ?_
  refine jl_op ?_ (nb rfl)
  refine ow_sub64 rfl rfl (by omega) ?_
  refine jl_op ?_ (nb rfl)
  refine ow_eql rfl rfl ?_
  refine jl_nil ?_
  refine jq_then ?_
  refine jc_condd rfl (fun h => absurd h (show ¬ (b : Int) - (m : Int) = 1 by omega)) (fun _ => ?_)
  refine jc_skip ?_
  refine jq_then ?_
  refine jc_seq ?_
  refine jc_region ?_
  refine jl_op ?_ (nb rfl)
  refine ow_move rfl ?_
  refine jl_op ?_ (nb rfl)
  refine ow_move rfl ?_
  refine jl_op ?_ (nb rfl)
  refine ow_add64 rfl rfl (by omega) ?_
  refine jl_op ?_ (nb rfl)
  refine ow_convU64 rfl rfl rfl (by omega) ?_
  refine jl_op ?_ (nb rfl)
  refine ow_shr1 rfl rfl (by omega) ?_
  refine jl_op ?_ (nb rfl)
  refine ow_convI64 rfl rfl rfl (by omega) ?_
  refine jl_op ?_ (nb rfl)
  refine ow_assign rfl ?_
  refine jl_nil ?_
  refine jq_then ?_
  refine jc_seq ?_
  refine jc_region ?_
  refine jl_op ?_ (nb rfl)
  refine ow_move rfl ?_
  refine jl_op ?_ (nb rfl)
  refine ow_move rfl ?_
  refine jl_op ?_ (nb rfl)
  refine ow_add64 rfl rfl (by omega) ?_
  refine jl_op ?_ (nb rfl)
  refine ow_assign rfl ?_
  refine jl_nil ?_
  refine jq_then ?_
  refine jc_seq ?_
  refine jc_region ?_
  refine jl_op ?_ (nb rfl)
  refine ow_assign rfl ?_
  refine jl_op ?_ (nb rfl)
  refine ow_assign rfl ?_
  refine jl_nil ?_
  refine jq_then ?_
  refine jc_seq ?_
  refine jc_cut (ι := Nat × Nat) [] (fun i => (mid < m ∧ i.1 = mid + m - b ∧ i.2 = mid) ∨ (m ≤ mid ∧ i.1 = a ∧ i.2 = m)) (fun i => [(0, .cell (.val V)), (1, In .i64 (a : Int)), (2, In .i64 (m : Int)), (3, In .i64 (b : Int)), (4, CF), (18, In .i64 (mid : Int)), (19, In .i64 ((mid + m : Nat) : Int)), (20, In .i64 (i.1 : Int)), (21, In .i64 (i.2 : Int))]) (fun _ => [Ow V l]) ?_ ?_
  · have em : ((a : Int) + (b : Int)) / 2 = (mid : Int) := by omega
    refine jc_seq ?_
    refine jc_region ?_
    refine jl_op ?_ (nb rfl)
    refine ow_move rfl ?_
    refine jl_op ?_ (nb rfl)
    refine ow_move rfl ?_
    refine jl_op ?_ (nb rfl)
    refine ow_gtr rfl rfl ?_
    refine jl_nil ?_
    refine jq_then ?_
    refine jc_condd rfl (fun hgt => ?_) (fun hle => ?_)
    · refine jc_seq ?_
      refine jc_region ?_
      refine jl_op ?_ (nb rfl)
      refine ow_move rfl ?_
      refine jl_op ?_ (nb rfl)
      refine ow_move rfl ?_
      refine jl_op ?_ (nb rfl)
      refine ow_sub64 rfl rfl (by omega) ?_
      refine jl_op ?_ (nb rfl)
      refine ow_assign rfl ?_
      refine jl_nil ?_
      refine jq_then ?_
      refine jc_region ?_
      refine jl_op ?_ (nb rfl)
      refine ow_move rfl ?_
      refine jl_op ?_ (nb rfl)
      refine ow_assign rfl ?_
      refine jl_nil ?_
      refine jq_cutS (mid + m - b, mid) (.inl ⟨by omega, rfl, rfl⟩) ?_ ?_
      · refine sub_step 0 rfl ?_
        exact sub_end
      · dsimp only
        rw [show ((mid + m - b : Nat) : Int) = ((a : Int) + (b : Int)) / 2 + (m : Int) - (b : Int) by omega, ← em, show ((mid + m : Nat) : Int) = ((a : Int) + (b : Int)) / 2 + (m : Int) by omega]
        (repeat (first | exact True.intro | refine ⟨rfl, ?_⟩))
    · refine jc_seq ?_
      refine jc_region ?_
      refine jl_op ?_ (nb rfl)
      refine ow_move rfl ?_
      refine jl_op ?_ (nb rfl)
      refine ow_assign rfl ?_
      refine jl_nil ?_
      refine jq_then ?_
      refine jc_region ?_
      refine jl_op ?_ (nb rfl)
      refine ow_move rfl ?_
      refine jl_op ?_ (nb rfl)
      refine ow_assign rfl ?_
      refine jl_nil ?_
      refine jq_cutS (a, m) (.inr ⟨by omega, rfl, rfl⟩) ?_ ?_
      · refine sub_step 0 rfl ?_
        exact sub_end
      · dsimp only
        rw [← em, show ((mid + m : Nat) : Int) = ((a : Int) + (b : Int)) / 2 + (m : Int) by omega]
        (repeat (first | exact True.intro | refine ⟨rfl, ?_⟩))
  · rintro ⟨s0, r0⟩ hc0
    dsimp only at hc0 ⊢
    refine jc_seq ?_
    refine jc_region ?_
    refine jl_op ?_ (nb rfl)
    refine ow_move rfl ?_
    refine jl_op ?_ (nb rfl)
    refine ow_sub64 rfl rfl (by omega) ?_
    refine jl_op ?_ (nb rfl)
    refine ow_assign rfl ?_
    refine jl_nil ?_
    refine jq_then ?_
    refine jc_seq ?_
    refine jc_block ?_
    refine jc_loopS (ι := Nat × Nat) [] (fun i => s0 ≤ i.1 ∧ i.1 ≤ i.2 ∧ i.2 ≤ r0 ∧ (∀ c, s0 ≤ c → c < i.1 → kk kOf l c ≤ kk kOf l (mid + m - 1 - c)) ∧ ∀ c, i.2 ≤ c → c < r0 → kk kOf l (mid + m - 1 - c) ≤ kk kOf l c) (fun i => [(0, .cell (.val V)), (1, In .i64 (a : Int)), (2, In .i64 (m : Int)), (3, In .i64 (b : Int)), (4, CF), (18, In .i64 (mid : Int)), (19, In .i64 ((mid + m : Nat) : Int)), (22, In .i64 (((mid + m : Nat) : Int) - 1)), (20, In .i64 (i.1 : Int)), (21, In .i64 (i.2 : Int))]) (fun _ => [Ow V l]) (fun i => i.2 - i.1) (s0, r0) ⟨Nat.le_refl _, by dsimp only; omega, Nat.le_refl _, fun c h1 h2 => by dsimp only at h2; omega, fun c h1 h2 => by dsimp only at h1; omega⟩ ?_ ?_ ?_
    · refine sub_step 0 rfl ?_
      exact sub_end
    · (repeat (first | exact True.intro | refine ⟨rfl, ?_⟩))
    · rintro ⟨s, r⟩ ⟨h1, h2, h3, h4, h5⟩
      dsimp only at h1 h2 h3 h4 h5 ⊢
      refine jc_reset [(0, .cell (.val V)), (1, In .i64 (a : Int)), (2, In .i64 (m : Int)), (3, In .i64 (b : Int)), (4, CF), (18, In .i64 (mid : Int)), (19, In .i64 ((mid + m : Nat) : Int)), (22, In .i64 (((mid + m : Nat) : Int) - 1)), (20, In .i64 (s : Int)), (21, In .i64 (r : Int))] [Ow V l] ?_ ⟨[0], [], rfl⟩ ?_
      · (repeat (first | exact True.intro | refine ⟨rfl, ?_⟩))
      refine jc_seq ?_
      refine jc_seq ?_
      refine jc_region ?_
      refine jl_op ?_ (nb rfl)
      refine ow_move rfl ?_
      refine jl_op ?_ (nb rfl)
      refine ow_move rfl ?_
      refine jl_op ?_ (nb rfl)
      refine ow_lss rfl rfl ?_
      refine jl_nil ?_
      refine jq_then ?_
      refine jc_condd rfl (fun hlt => ?_) (fun hge => ?_)
      · obtain ⟨q, hq⟩ : ∃ q, q = (s + r) / 2 := ⟨_, rfl⟩
        have hqa : a ≤ q ∧ q < m ∧ m ≤ mid + m - 1 - q ∧ mid + m - 1 - q < b := by omega
        have hh1 : mid + m - 1 - q < l.length := by omega
        have hh2 : q < l.length := by omega
        have hcmp := cmp_c l[mid + m - 1 - q] l[q] (hok _ (List.getElem_mem hh1)) (hok _ (List.getElem_mem hh2))
        have k1 := kk_get kOf hh1
        have k2 := kk_get kOf hh2
        refine jc_skip ?_
        refine jq_then ?_
        refine jc_block ?_
        refine jc_seq ?_
        refine jc_region ?_
        refine jl_op ?_ (nb rfl)
        refine ow_move rfl ?_
        refine jl_op ?_ (nb rfl)
        refine ow_move rfl ?_
        refine jl_op ?_ (nb rfl)
        refine ow_add64 rfl rfl (by omega) ?_
        refine jl_op ?_ (nb rfl)
        refine ow_convU64 rfl rfl rfl (by omega) ?_
        refine jl_op ?_ (nb rfl)
        refine ow_shr1 rfl rfl (by omega) ?_
        refine jl_op ?_ (nb rfl)
        refine ow_convI64 rfl rfl rfl (by omega) ?_
        refine jl_op ?_ (nb rfl)
        refine ow_assign rfl ?_
        refine jl_nil ?_
        refine jq_then ?_
        refine jc_seq ?_
        refine jc_any rfl rfl (by kernel_rfl) (by kernel_rfl) ?_
        refine any_op (fun c => ow_move rfl ⟨rfl, List.Perm.refl _⟩) ?_
        refine any_op (fun c => ow_move rfl ⟨rfl, List.Perm.refl _⟩) ?_
        refine any_op (fun c => ow_move rfl ⟨rfl, List.Perm.refl _⟩) ?_
        refine any_op (fun c => ow_move rfl ⟨rfl, List.Perm.refl _⟩) ?_
        refine any_op (fun c => ow_sub64 rfl rfl (by omega) ⟨rfl, List.Perm.refl _⟩) ?_
        refine any_op (fun c => ow_indexOwn 0 rfl rfl rfl (by omega) (by first | omega | (simp only [List.length_map]; omega) | (simp only [List.length_map, List.length_set]; omega)) rfl ⟨rfl, List.Perm.refl _⟩) ?_
        refine any_op (fun c => ow_loadInnN 0 (mid + m - 1 - q) rfl rfl rfl (by omega) (map_at hh1) rfl ⟨rfl, List.Perm.refl _⟩) ?_
        refine any_op (fun c => ow_move rfl ⟨rfl, List.Perm.refl _⟩) ?_
        refine any_op (fun c => ow_move rfl ⟨rfl, List.Perm.refl _⟩) ?_
        refine any_op (fun c => ow_indexOwn 0 rfl rfl rfl (by omega) (by first | omega | (simp only [List.length_map]; omega) | (simp only [List.length_map, List.length_set]; omega)) rfl ⟨rfl, List.Perm.refl _⟩) ?_
        refine any_op (fun c => ow_loadInnN 0 q rfl rfl rfl (by omega) (map_at hh2) rfl ⟨rfl, List.Perm.refl _⟩) ?_
        refine any_op (fun c => ow_callv0 rfl rfl (hcmp) ⟨rfl, List.Perm.refl _⟩) ?_
        refine any_op (fun c => ow_lss rfl rfl ⟨rfl, List.Perm.refl _⟩) ?_
        refine any_op (fun c => ow_notdec rfl ⟨rfl, List.Perm.refl _⟩) ?_
        refine any_nil ?_
        refine jq_then ?_
        refine jc_condd rfl (fun hneg => ?_) (fun hpos => ?_)
        · have hle : kk kOf l q ≤ kk kOf l (mid + m - 1 - q) := by rw [k1, k2]; show l[q].1 ≤ l[mid + m - 1 - q].1; omega
          refine jc_region ?_
          refine jl_op ?_ (nb rfl)
          refine ow_move rfl ?_
          refine jl_op ?_ (nb rfl)
          refine ow_add64 rfl rfl (by omega) ?_
          refine jl_op ?_ (nb rfl)
          refine ow_assign rfl ?_
          refine jl_nil ?_
          refine jq_block ?_
          refine jq_againS (i := (s, r)) (q + 1, r) ⟨by dsimp only; omega, by dsimp only; omega, h3, fun c g1 g2 => ?_, h5⟩ (by dsimp only; omega) ?_ ?_
          · dsimp only at g2
            have e1 := hs1 c q (by omega) (by omega) (by omega)
            have e2 := hs2 (mid + m - 1 - q) (mid + m - 1 - c) (by omega) (by omega) (by omega)
            omega
          · refine sub_step 0 rfl ?_
            exact sub_end
          · dsimp only
            rw [show ((q + 1 : Nat) : Int) = ((s : Int) + (r : Int)) / 2 + 1 by omega]
            (repeat (first | exact True.intro | refine ⟨rfl, ?_⟩))
        · have hle : kk kOf l (mid + m - 1 - q) ≤ kk kOf l q := by rw [k1, k2]; show l[mid + m - 1 - q].1 ≤ l[q].1; omega
          refine jc_region ?_
          refine jl_op ?_ (nb rfl)
          refine ow_move rfl ?_
          refine jl_op ?_ (nb rfl)
          refine ow_assign rfl ?_
          refine jl_nil ?_
          refine jq_block ?_
          refine jq_againS (i := (s, r)) (s, q) ⟨h1, by dsimp only; omega, by dsimp only; omega, h4, fun c g1 g2 => ?_⟩ (by dsimp only; omega) ?_ ?_
          · dsimp only at g1
            have e1 := hs1 q c (by omega) (by omega) (by omega)
            have e2 := hs2 (mid + m - 1 - c) (mid + m - 1 - q) (by omega) (by omega) (by omega)
            omega
          · refine sub_step 0 rfl ?_
            exact sub_end
          · dsimp only
            rw [show (q : Int) = ((s : Int) + (r : Int)) / 2 by omega]
            (repeat (first | exact True.intro | refine ⟨rfl, ?_⟩))
      · obtain rfl : s = r := by omega
        have hsb : a ≤ s ∧ s ≤ mid ∧ s ≤ m ∧ mid ≤ mid + m - s ∧ m ≤ mid + m - s ∧ mid + m - s ≤ b := by omega
        obtain ⟨e, he⟩ : ∃ e, e = mid + m - s := ⟨_, rfl⟩
        refine jc_exit ?_
        refine jq_then_exit ?_
        refine jq_then_exit ?_
        refine jq_block_exit ?_
        refine jq_then ?_
        refine jc_seq ?_
        refine jc_region ?_
        refine jl_op ?_ (nb rfl)
        refine ow_move rfl ?_
        refine jl_op ?_ (nb rfl)
        refine ow_move rfl ?_
        refine jl_op ?_ (nb rfl)
        refine ow_sub64 rfl rfl (by omega) ?_
        refine jl_op ?_ (nb rfl)
        refine ow_assign rfl ?_
        refine jl_nil ?_
        refine jq_then ?_
        refine jc_seq ?_
        refine jc_reset [(0, .cell (.val V)), (1, In .i64 (a : Int)), (2, In .i64 (m : Int)), (3, In .i64 (b : Int)), (4, CF), (18, In .i64 (mid : Int)), (20, In .i64 (s : Int)), (24, In .i64 (((mid + m : Nat) : Int) - (s : Int)))] [Ow V l] ?_ ⟨[0], [], rfl⟩ ?_
        · (repeat (first | exact True.intro | refine ⟨rfl, ?_⟩))
        rw [show ((mid + m : Nat) : Int) - (s : Int) = (e : Int) by omega]
        refine jc_cut (ι := List Tm) [] (fun t => Mv a b l t ∧ ∀ p, t[p]? = l[rotI s m e p]?) (fun t => [(0, .cell (.val V)), (1, In .i64 (a : Int)), (2, In .i64 (m : Int)), (3, In .i64 (b : Int)), (4, CF), (18, In .i64 (mid : Int)), (20, In .i64 (s : Int)), (24, In .i64 (e : Int))]) (fun t => [Ow V t]) ?_ ?_
        · by_cases c1 : (s : Int) < (m : Int)
          · refine jc_seq ?_
            refine jc_region ?_
            refine jl_op ?_ (nb rfl)
            refine ow_move rfl ?_
            refine jl_op ?_ (nb rfl)
            refine ow_move rfl ?_
            refine jl_op ?_ (nb rfl)
            refine ow_lss rfl rfl ?_
            refine jl_op ?_ (nb rfl)
            refine ow_move rfl ?_
            refine jl_guardY rfl (by first | assumption | exact decide_eq_true rfl | exact decide_eq_true (by first | assumption | omega) | exact decide_eq_false (by first | assumption | omega) | with_reducible rfl | exact (rfl : false = !true) | exact (rfl : true = !false)) (nb rfl) ?_
            refine ow_move rfl ?_
            refine jl_guardY rfl (by first | assumption | exact decide_eq_true rfl | exact decide_eq_true (by first | assumption | omega) | exact decide_eq_false (by first | assumption | omega) | with_reducible rfl | exact (rfl : false = !true) | exact (rfl : true = !false)) (nb rfl) ?_
            refine ow_move rfl ?_
            refine jl_guardY rfl (by first | assumption | exact decide_eq_true rfl | exact decide_eq_true (by first | assumption | omega) | exact decide_eq_false (by first | assumption | omega) | with_reducible rfl | exact (rfl : false = !true) | exact (rfl : true = !false)) (nb rfl) ?_
            refine ow_lss rfl rfl ?_
            refine jl_op ?_ (nb rfl)
            refine ow_pickT rfl (by first | assumption | exact decide_eq_true rfl | exact decide_eq_true (by first | assumption | omega) | exact decide_eq_false (by first | assumption | omega) | with_reducible rfl | exact (rfl : false = !true) | exact (rfl : true = !false)) rfl ?_
            refine jl_nil ?_
            refine jq_then ?_
            refine jc_condd rfl (fun c2 => ?_) (fun c2 => ?_)
            · have hr := rotate_c V l s m e (by omega) (by omega) (by omega) hl
              refine jc_region ?_
              refine jl_op ?_ (nb rfl)
              refine ow_move rfl ?_
              refine jl_op ?_ (nb rfl)
              refine ow_move rfl ?_
              refine jl_op ?_ (nb rfl)
              refine ow_move rfl ?_
              refine jl_op ?_ (nb rfl)
              refine ow_move rfl ?_
              refine jl_op ?_ (nb rfl)
              refine ow_move rfl ?_
              refine jl_op (ow_callP [0] rfl rfl (hr) (fun t ht => ?_)) (nb rfl)
              refine jl_nil ?_
              refine jq_cutS t ⟨ht.1.mono (by omega) (by omega), ht.2⟩ ?_ ?_
              · refine sub_step 0 rfl ?_
                exact sub_end
              · (repeat (first | exact True.intro | refine ⟨rfl, ?_⟩))
            · refine jc_skip ?_
              refine jq_cutS l ⟨Mv.refl _ _ _, fun p => by rw [rot_id (.inr (by omega)) (by omega) (by omega)]⟩ ?_ ?_
              · refine sub_step 0 rfl ?_
                exact sub_end
              · (repeat (first | exact True.intro | refine ⟨rfl, ?_⟩))
          · refine jc_seq ?_
            refine jc_region ?_
            refine jl_op ?_ (nb rfl)
            refine ow_move rfl ?_
            refine jl_op ?_ (nb rfl)
            refine ow_move rfl ?_
            refine jl_op ?_ (nb rfl)
            refine ow_lss rfl rfl ?_
            refine jl_op ?_ (nb rfl)
            refine ow_move rfl ?_
            refine jl_guardN rfl (by first | assumption | exact decide_eq_true rfl | exact decide_eq_true (by first | assumption | omega) | exact decide_eq_false (by first | assumption | omega) | with_reducible rfl | exact (rfl : false = !true) | exact (rfl : true = !false)) (nb rfl) ?_
            refine jl_guardN rfl (by first | assumption | exact decide_eq_true rfl | exact decide_eq_true (by first | assumption | omega) | exact decide_eq_false (by first | assumption | omega) | with_reducible rfl | exact (rfl : false = !true) | exact (rfl : true = !false)) (nb rfl) ?_
            refine jl_guardN rfl (by first | assumption | exact decide_eq_true rfl | exact decide_eq_true (by first | assumption | omega) | exact decide_eq_false (by first | assumption | omega) | with_reducible rfl | exact (rfl : false = !true) | exact (rfl : true = !false)) (nb rfl) ?_
            refine jl_op ?_ (nb rfl)
            refine ow_pickF rfl (by first | assumption | exact decide_eq_true rfl | exact decide_eq_true (by first | assumption | omega) | exact decide_eq_false (by first | assumption | omega) | with_reducible rfl | exact (rfl : false = !true) | exact (rfl : true = !false)) rfl ?_
            refine jl_nil ?_
            refine jq_then ?_
            refine jc_cond rfl (fun h => by cases h) (fun _ => ?_)
            refine jc_skip ?_
            refine jq_cutS l ⟨Mv.refl _ _ _, fun p => by rw [rot_id (.inl (by omega)) (by omega) (by omega)]⟩ ?_ ?_
            · refine sub_step 0 rfl ?_
              exact sub_end
            · (repeat (first | exact True.intro | refine ⟨rfl, ?_⟩))
        · rintro t ⟨hmt, hrt⟩
          have hH : Half kOf t a s mid e b := by
            rw [he] at hrt ⊢
            exact half_of kOf (by omega) (by omega) hmid hs1 hs2 hc0 ⟨h1, h3⟩ h4 h5 hrt
          have htl : t.length = l.length := hmt.len
          refine jc_reset [(0, .cell (.val V)), (1, In .i64 (a : Int)), (3, In .i64 (b : Int)), (4, CF), (18, In .i64 (mid : Int)), (20, In .i64 (s : Int)), (24, In .i64 (e : Int))] [Ow V t] ?_ ⟨[0], [], rfl⟩ ?_
          · (repeat (first | exact True.intro | refine ⟨rfl, ?_⟩))
          refine jc_seq ?_
          refine jc_cut (ι := List Tm) [] (fun t1 => Mv a mid t t1 ∧ So kOf t1 a mid) (fun t1 => [(0, .cell (.val V)), (3, In .i64 (b : Int)), (4, CF), (18, In .i64 (mid : Int)), (24, In .i64 (e : Int))]) (fun t1 => [Ow V t1]) ?_ ?_
          · by_cases c1 : (a : Int) < (s : Int)
            · refine jc_seq ?_
              refine jc_region ?_
              refine jl_op ?_ (nb rfl)
              refine ow_move rfl ?_
              refine jl_op ?_ (nb rfl)
              refine ow_move rfl ?_
              refine jl_op ?_ (nb rfl)
              refine ow_lss rfl rfl ?_
              refine jl_op ?_ (nb rfl)
              refine ow_move rfl ?_
              refine jl_guardY rfl (by first | assumption | exact decide_eq_true rfl | exact decide_eq_true (by first | assumption | omega) | exact decide_eq_false (by first | assumption | omega) | with_reducible rfl | exact (rfl : false = !true) | exact (rfl : true = !false)) (nb rfl) ?_
              refine ow_move rfl ?_
              refine jl_guardY rfl (by first | assumption | exact decide_eq_true rfl | exact decide_eq_true (by first | assumption | omega) | exact decide_eq_false (by first | assumption | omega) | with_reducible rfl | exact (rfl : false = !true) | exact (rfl : true = !false)) (nb rfl) ?_
              refine ow_move rfl ?_
              refine jl_guardY rfl (by first | assumption | exact decide_eq_true rfl | exact decide_eq_true (by first | assumption | omega) | exact decide_eq_false (by first | assumption | omega) | with_reducible rfl | exact (rfl : false = !true) | exact (rfl : true = !false)) (nb rfl) ?_
              refine ow_lss rfl rfl ?_
              refine jl_op ?_ (nb rfl)
              refine ow_pickT rfl (by first | assumption | exact decide_eq_true rfl | exact decide_eq_true (by first | assumption | omega) | exact decide_eq_false (by first | assumption | omega) | with_reducible rfl | exact (rfl : false = !true) | exact (rfl : true = !false)) rfl ?_
              refine jl_nil ?_
              refine jq_then ?_
              refine jc_condd rfl (fun c2 => ?_) (fun c2 => ?_)
              · have hr := ih t a s mid (by omega) (by omega) (by omega) (by omega) (by omega) (okT_perm hok hmt.perm) hH.s1 hH.s2
                refine jc_region ?_
                refine jl_op ?_ (nb rfl)
                refine ow_move rfl ?_
                refine jl_op ?_ (nb rfl)
                refine ow_move rfl ?_
                refine jl_op ?_ (nb rfl)
                refine ow_move rfl ?_
                refine jl_op ?_ (nb rfl)
                refine ow_move rfl ?_
                refine jl_op ?_ (nb rfl)
                refine ow_move rfl ?_
                refine jl_op (ow_callP [0] rfl rfl (hr) (fun t1 ht1 => ?_)) (nb rfl)
                refine jl_nil ?_
                refine jq_cutS t1 ht1 ?_ ?_
                · refine sub_step 0 rfl ?_
                  exact sub_end
                · (repeat (first | exact True.intro | refine ⟨rfl, ?_⟩))
              · refine jc_skip ?_
                refine jq_cutS t ⟨Mv.refl _ _ _, by rw [show mid = s by omega]; exact hH.s1⟩ ?_ ?_
                · refine sub_step 0 rfl ?_
                  exact sub_end
                · (repeat (first | exact True.intro | refine ⟨rfl, ?_⟩))
            · refine jc_seq ?_
              refine jc_region ?_
              refine jl_op ?_ (nb rfl)
              refine ow_move rfl ?_
              refine jl_op ?_ (nb rfl)
              refine ow_move rfl ?_
              refine jl_op ?_ (nb rfl)
              refine ow_lss rfl rfl ?_
              refine jl_op ?_ (nb rfl)
              refine ow_move rfl ?_
              refine jl_guardN rfl (by first | assumption | exact decide_eq_true rfl | exact decide_eq_true (by first | assumption | omega) | exact decide_eq_false (by first | assumption | omega) | with_reducible rfl | exact (rfl : false = !true) | exact (rfl : true = !false)) (nb rfl) ?_
              refine jl_guardN rfl (by first | assumption | exact decide_eq_true rfl | exact decide_eq_true (by first | assumption | omega) | exact decide_eq_false (by first | assumption | omega) | with_reducible rfl | exact (rfl : false = !true) | exact (rfl : true = !false)) (nb rfl) ?_
              refine jl_guardN rfl (by first | assumption | exact decide_eq_true rfl | exact decide_eq_true (by first | assumption | omega) | exact decide_eq_false (by first | assumption | omega) | with_reducible rfl | exact (rfl : false = !true) | exact (rfl : true = !false)) (nb rfl) ?_
              refine jl_op ?_ (nb rfl)
              refine ow_pickF rfl (by first | assumption | exact decide_eq_true rfl | exact decide_eq_true (by first | assumption | omega) | exact decide_eq_false (by first | assumption | omega) | with_reducible rfl | exact (rfl : false = !true) | exact (rfl : true = !false)) rfl ?_
              refine jl_nil ?_
              refine jq_then ?_
              refine jc_cond rfl (fun h => by cases h) (fun _ => ?_)
              refine jc_skip ?_
              refine jq_cutS t ⟨Mv.refl _ _ _, by rw [show a = s by omega]; exact hH.s2⟩ ?_ ?_
              · refine sub_step 0 rfl ?_
                exact sub_end
              · (repeat (first | exact True.intro | refine ⟨rfl, ?_⟩))
          · rintro t1 ⟨hm1, ho1⟩
            have htl1 : t1.length = l.length := hm1.len.trans htl
            have fin : ∀ t2, Mv mid b t1 t2 → So kOf t2 mid b → Mv a b l t2 ∧ So kOf t2 a b := fun t2 m2 o2 => ⟨hmt.trans ((hm1.mono (Nat.le_refl _) (by omega)).trans (m2.mono (by omega) (Nat.le_refl _))), half_end kOf hH hm1 ho1 m2 o2⟩
            by_cases c1 : (mid : Int) < (e : Int)
            · refine jc_seq ?_
              refine jc_region ?_
              refine jl_op ?_ (nb rfl)
              refine ow_move rfl ?_
              refine jl_op ?_ (nb rfl)
              refine ow_move rfl ?_
              refine jl_op ?_ (nb rfl)
              refine ow_lss rfl rfl ?_
              refine jl_op ?_ (nb rfl)
              refine ow_move rfl ?_
              refine jl_guardY rfl (by first | assumption | exact decide_eq_true rfl | exact decide_eq_true (by first | assumption | omega) | exact decide_eq_false (by first | assumption | omega) | with_reducible rfl | exact (rfl : false = !true) | exact (rfl : true = !false)) (nb rfl) ?_
              refine ow_move rfl ?_
              refine jl_guardY rfl (by first | assumption | exact decide_eq_true rfl | exact decide_eq_true (by first | assumption | omega) | exact decide_eq_false (by first | assumption | omega) | with_reducible rfl | exact (rfl : false = !true) | exact (rfl : true = !false)) (nb rfl) ?_
              refine ow_move rfl ?_
              refine jl_guardY rfl (by first | assumption | exact decide_eq_true rfl | exact decide_eq_true (by first | assumption | omega) | exact decide_eq_false (by first | assumption | omega) | with_reducible rfl | exact (rfl : false = !true) | exact (rfl : true = !false)) (nb rfl) ?_
              refine ow_lss rfl rfl ?_
              refine jl_op ?_ (nb rfl)
              refine ow_pickT rfl (by first | assumption | exact decide_eq_true rfl | exact decide_eq_true (by first | assumption | omega) | exact decide_eq_false (by first | assumption | omega) | with_reducible rfl | exact (rfl : false = !true) | exact (rfl : true = !false)) rfl ?_
              refine jl_nil ?_
              refine jq_then ?_
              refine jc_condd rfl (fun c2 => ?_) (fun c2 => ?_)
              · have hr := ih t1 mid e b (by omega) (by omega) (by omega) (by omega) (by omega) (okT_perm (okT_perm hok hmt.perm) hm1.perm) (hH.s3.out kOf hm1 (.inr (Nat.le_refl _))) (hH.s4.out kOf hm1 (.inr (by omega)))
                refine jc_region ?_
                refine jl_op ?_ (nb rfl)
                refine ow_move rfl ?_
                refine jl_op ?_ (nb rfl)
                refine ow_move rfl ?_
                refine jl_op ?_ (nb rfl)
                refine ow_move rfl ?_
                refine jl_op ?_ (nb rfl)
                refine ow_move rfl ?_
                refine jl_op ?_ (nb rfl)
                refine ow_move rfl ?_
                refine jl_op (ow_callP [0] rfl rfl (hr) (fun t2 ht2 => ?_)) (nb rfl)
                refine jl_nil ?_
                refine jq_retG (ss := []) (.inr rfl) rfl (is := [0]) rfl (fun K h => h t2 (fin t2 ht2.1 ht2.2))
              · refine jc_skip ?_
                refine jq_retG (ss := []) (.inr rfl) rfl (is := [0]) rfl (fun K h => h t1 (fin t1 (Mv.refl _ _ _) (by rw [show b = e by omega]; exact hH.s3.out kOf hm1 (.inr (Nat.le_refl _)))))
            · refine jc_seq ?_
              refine jc_region ?_
              refine jl_op ?_ (nb rfl)
              refine ow_move rfl ?_
              refine jl_op ?_ (nb rfl)
              refine ow_move rfl ?_
              refine jl_op ?_ (nb rfl)
              refine ow_lss rfl rfl ?_
              refine jl_op ?_ (nb rfl)
              refine ow_move rfl ?_
              refine jl_guardN rfl (by first | assumption | exact decide_eq_true rfl | exact decide_eq_true (by first | assumption | omega) | exact decide_eq_false (by first | assumption | omega) | with_reducible rfl | exact (rfl : false = !true) | exact (rfl : true = !false)) (nb rfl) ?_
              refine jl_guardN rfl (by first | assumption | exact decide_eq_true rfl | exact decide_eq_true (by first | assumption | omega) | exact decide_eq_false (by first | assumption | omega) | with_reducible rfl | exact (rfl : false = !true) | exact (rfl : true = !false)) (nb rfl) ?_
              refine jl_guardN rfl (by first | assumption | exact decide_eq_true rfl | exact decide_eq_true (by first | assumption | omega) | exact decide_eq_false (by first | assumption | omega) | with_reducible rfl | exact (rfl : false = !true) | exact (rfl : true = !false)) (nb rfl) ?_
              refine jl_op ?_ (nb rfl)
              refine ow_pickF rfl (by first | assumption | exact decide_eq_true rfl | exact decide_eq_true (by first | assumption | omega) | exact decide_eq_false (by first | assumption | omega) | with_reducible rfl | exact (rfl : false = !true) | exact (rfl : true = !false)) rfl ?_
              refine jl_nil ?_
              refine jq_then ?_
              refine jc_cond rfl (fun h => by cases h) (fun _ => ?_)
              refine jc_skip ?_
              refine jq_retG (ss := []) (.inr rfl) rfl (is := [0]) rfl (fun K h => h t1 (fin t1 (Mv.refl _ _ _) (by rw [show mid = e by omega]; exact hH.s4.out kOf hm1 (.inr (by omega)))))

theorem sym_c (V : Value) : ∀ (n : Nat) (l : List Tm) (a m b : Nat), b - a ≤ n → a < m → m < b → b ≤ l.length → l.length ≤ 1000000 → okT l → So kOf l a m → So kOf l m b → SymP V l a m b
  | 0, _, a, m, b, h, h1, h2, _, _, _, _, _ => by omega
  | n + 1, l, a, m, b, h, h1, h2, h3, h4, h5, h6, h7 => by
    by_cases hA : m = a + 1
    · exact symA V l a m b hA h2 h3 h4 h5 h7
    · by_cases hB : b = m + 1
      · exact symB V l a m b hB h1 hA h3 h4 h5 h6
      · exact symC V l a m b (by omega) (by omega) h3 h4 h5 h6 h7 (fun l' a' m' b' g => sym_c V n l' a' m' b' (by omega))
end Go.Proofs.Ytjkkkjikhjfdnaa
