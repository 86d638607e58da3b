import Derived.Test.YtjkkkjikhjfdnaaSt4
namespace Go.Proofs.Ytjkkkjikhjfdnaa
open Go.Vc
attribute [local irreducible] JL JC JQ OpWp Con ConN
set_option maxHeartbeats 4000000

theorem stable_c (V : Value) (l : List Tm) (hl : l.length ≤ 1000000) (hok : okT l) :
    Con Try.prog 58 [.cell (.val V), In .i64 (l.length : Int), CF] [Ow V l] (fun K => ∀ l' : List Tm, (Mv 0 l.length l l' ∧ So kOf l' 0 l.length) → K (.tup []) [Ow V l']) := by
  refine con_intro Try.func58 rfl rfl (Nat.le_of_ble_eq_true rfl) (fun c hc => ?_)
  obtain ⟨n, hn⟩ : ∃ n, n = l.length := ⟨_, rfl⟩
  rw [← hn] at hl ⊢
  refine jc_seq ?_
  refine jc_region ?_
  refine jl_op ?_ (nb rfl)
  refine ow_assign rfl ?_
  refine jl_nil ?_
  refine jq_then ?_
  refine jc_seq ?_
  refine jc_region ?_
  refine jl_op ?_ (nb rfl)
  refine ow_move rfl ?_
  refine jl_op ?_ (nb rfl)
  refine ow_assign rfl ?_
  refine jl_op ?_ (nb rfl)
  refine ow_assign rfl ?_
  refine jl_nil ?_
  refine jq_then ?_
  refine jc_seq ?_
  refine jc_block ?_
  refine jc_loopS (ι := Nat × List Tm) [] (fun i => 20 ∣ i.1 ∧ i.1 ≤ n ∧ Mv 0 n l i.2 ∧ Bl2 kOf i.2 20 n 0 i.1) (fun i => [(0, .cell (.val V)), (1, In .i64 (n : Int)), (2, CF), (6, In .i64 20), (7, In .i64 (i.1 : Int)), (8, In .i64 ((i.1 + 20 : Nat) : Int))]) (fun i => [Ow V i.2]) (fun i => n - i.1) (0, l) ⟨Nat.dvd_zero _, Nat.zero_le _, Mv.refl _ _ _, fun s _ _ h => absurd h (by omega)⟩ ?_ ?_ ?_
  · refine sub_step 0 rfl ?_
    exact sub_end
  · (repeat (first | exact True.intro | refine ⟨rfl, ?_⟩))
  · rintro ⟨a, t⟩ ⟨h1, h2, h3, h4⟩
    dsimp only at h1 h2 h3 h4 ⊢
    have htl : t.length = n := by rw [h3.len, hn]
    refine jc_reset [(0, .cell (.val V)), (1, In .i64 (n : Int)), (2, CF), (6, In .i64 20), (7, In .i64 (a : Int)), (8, In .i64 ((a + 20 : Nat) : Int))] [Ow V t] ?_ ⟨[0], [], rfl⟩ ?_
    · (repeat (first | exact True.intro | refine ⟨rfl, ?_⟩))
    refine jc_seq ?_
    refine jc_seq ?_
    refine jc_region ?_
    refine jl_op ?_ (nb rfl)
    refine ow_move rfl ?_
    refine jl_op ?_ (nb rfl)
    refine ow_move rfl ?_
    refine jl_op ?_ (nb rfl)
    refine ow_leq rfl rfl ?_
    refine jl_nil ?_
    refine jq_then ?_
    refine jc_condd rfl (fun hle => ?_) (fun hgt => ?_)
    · have hi := insSort_c V t a (a + 20) (by omega) (by omega) (by omega) (okT_perm hok h3.perm)
      refine jc_skip ?_
      refine jq_then ?_
      refine jc_block ?_
      refine jc_seq ?_
      refine jc_region ?_
      refine jl_op ?_ (nb rfl)
      refine ow_move rfl ?_
      refine jl_op ?_ (nb rfl)
      refine ow_move rfl ?_
      refine jl_op ?_ (nb rfl)
      refine ow_move rfl ?_
      refine jl_op ?_ (nb rfl)
      refine ow_move rfl ?_
      refine jl_op (ow_callP [0] rfl rfl (hi) (fun t2 ht2 => ?_)) (nb rfl)
      refine jl_nil ?_
      refine jq_then ?_
      refine jc_seq ?_
      refine jc_region ?_
      refine jl_op ?_ (nb rfl)
      refine ow_move rfl ?_
      refine jl_op ?_ (nb rfl)
      refine ow_assign rfl ?_
      refine jl_nil ?_
      refine jq_then ?_
      refine jc_region ?_
      refine jl_op ?_ (nb rfl)
      refine ow_move rfl ?_
      refine jl_op ?_ (nb rfl)
      refine ow_move rfl ?_
      refine jl_op ?_ (nb rfl)
      refine ow_add64 rfl rfl (by omega) ?_
      refine jl_op ?_ (nb rfl)
      refine ow_assign rfl ?_
      refine jl_nil ?_
      refine jq_block ?_
      refine jq_againS (i := (a, t)) (a + 20, t2) ⟨Nat.dvd_add h1 (Nat.dvd_refl _), by dsimp only; omega, h3.trans (ht2.1.mono (by omega) (by omega)), bl2_join kOf (bl2_out kOf h4 (by omega) h1 ht2.1 (.inl (Nat.le_refl _))) (bl2_one kOf (by omega) h1 (ht2.2.sub kOf (Nat.le_refl _) (by omega)))⟩ (by dsimp only; omega) ?_ ?_
      · refine sub_step 0 rfl ?_
        exact sub_end
      · dsimp only
        rw [show ((a + 20 + 20 : Nat) : Int) = ((a + 20 : Nat) : Int) + 20 by omega]
        (repeat (first | exact True.intro | refine ⟨rfl, ?_⟩))
    · have hi := insSort_c V t a n (by omega) (by omega) (by omega) (okT_perm hok h3.perm)
      refine jc_exit ?_
      refine jq_then_exit ?_
      refine jq_then_exit ?_
      refine jq_block_exit ?_
      refine jq_then ?_
      refine jc_seq ?_
      refine jc_region ?_
      refine jl_op ?_ (nb rfl)
      refine ow_move rfl ?_
      refine jl_op ?_ (nb rfl)
      refine ow_move rfl ?_
      refine jl_op ?_ (nb rfl)
      refine ow_move rfl ?_
      refine jl_op ?_ (nb rfl)
      refine ow_move rfl ?_
      refine jl_op (ow_callP [0] rfl rfl (hi) (fun t2 ht2 => ?_)) (nb rfl)
      have hb2 : Bl2 kOf t2 20 n 0 n := bl2_join kOf (bl2_out kOf h4 (by omega) h1 ht2.1 (.inl (Nat.le_refl _))) (bl2_last kOf (by omega) h1 (by omega) ht2.2)
      have hm2 : Mv 0 n l t2 := h3.trans (ht2.1.mono (by omega) (by omega))
      refine jl_nil ?_
      refine jq_then ?_
      refine jc_block ?_
      clear hi ht2 hgt htl h4 h3 h2 h1
      refine jc_loopS (ι := Nat × List Tm) [] (fun i => 0 < i.1 ∧ i.1 ≤ 2 * n + 20 ∧ Mv 0 n l i.2 ∧ Bl2 kOf i.2 i.1 n 0 n) (fun i => [(0, .cell (.val V)), (1, In .i64 (n : Int)), (2, CF), (6, In .i64 (i.1 : Int))]) (fun i => [Ow V i.2]) (fun i => 2 * n + 20 - i.1) (20, t2) ⟨by dsimp only; omega, by dsimp only; omega, hm2, hb2⟩ ?_ ?_ ?_
      · refine sub_step 0 rfl ?_
        exact sub_end
      · (repeat (first | exact True.intro | refine ⟨rfl, ?_⟩))
      · rintro ⟨bs, u⟩ ⟨g1, g2, g3, g4⟩
        dsimp only at g1 g2 g3 g4 ⊢
        refine jc_reset [(0, .cell (.val V)), (1, In .i64 (n : Int)), (2, CF), (6, In .i64 (bs : Int))] [Ow V u] ?_ ⟨[0], [], rfl⟩ ?_
        · (repeat (first | exact True.intro | refine ⟨rfl, ?_⟩))
        refine jc_seq ?_
        refine jc_seq ?_
        refine jc_region ?_
        refine jl_op ?_ (nb rfl)
        refine ow_move rfl ?_
        refine jl_op ?_ (nb rfl)
        refine ow_move rfl ?_
        refine jl_op ?_ (nb rfl)
        refine ow_lss rfl rfl ?_
        refine jl_nil ?_
        refine jq_then ?_
        refine jc_condd rfl (fun hlt => ?_) (fun hge => ?_)
        · refine jc_skip ?_
          refine jq_then ?_
          refine jc_block ?_
          refine jc_seq ?_
          refine jc_region ?_
          refine jl_op ?_ (nb rfl)
          refine ow_move rfl ?_
          refine jl_op ?_ (nb rfl)
          refine ow_mul64 rfl rfl (by omega) ?_
          refine jl_op ?_ (nb rfl)
          refine ow_assign rfl ?_
          refine jl_op ?_ (nb rfl)
          refine ow_assign rfl ?_
          refine jl_nil ?_
          refine jq_then ?_
          refine jc_seq ?_
          refine jc_block ?_
          refine jc_loopS (ι := Nat × List Tm) [] (fun i => (2 * bs) ∣ i.1 ∧ i.1 ≤ n ∧ Mv 0 n l i.2 ∧ Bl2 kOf i.2 (2 * bs) n 0 i.1 ∧ Bl2 kOf i.2 bs n i.1 n) (fun i => [(0, .cell (.val V)), (1, In .i64 (n : Int)), (2, CF), (6, In .i64 (bs : Int)), (7, In .i64 (i.1 : Int)), (8, In .i64 ((i.1 + 2 * bs : Nat) : Int))]) (fun i => [Ow V i.2]) (fun i => n - i.1) (0, u) ⟨Nat.dvd_zero _, Nat.zero_le _, g3, fun s _ _ h => absurd h (by omega), g4⟩ ?_ ?_ ?_
          · refine sub_step 0 rfl ?_
            exact sub_end
          · dsimp only
            rw [show ((0 + 2 * bs : Nat) : Int) = 2 * (bs : Int) by omega]
            (repeat (first | exact True.intro | refine ⟨rfl, ?_⟩))
          · rintro ⟨a, t⟩ ⟨h1, h2, h3, h4, h5⟩
            dsimp only at h1 h2 h3 h4 h5 ⊢
            have htl : t.length = n := by rw [h3.len, hn]
            have hda : bs ∣ a := Nat.dvd_trans (Nat.dvd_mul_left bs 2) h1
            refine jc_reset [(0, .cell (.val V)), (1, In .i64 (n : Int)), (2, CF), (6, In .i64 (bs : Int)), (7, In .i64 (a : Int)), (8, In .i64 ((a + 2 * bs : Nat) : Int))] [Ow V t] ?_ ⟨[0], [], rfl⟩ ?_
            · (repeat (first | exact True.intro | refine ⟨rfl, ?_⟩))
            refine jc_seq ?_
            refine jc_seq ?_
            refine jc_region ?_
            refine jl_op ?_ (nb rfl)
            refine ow_move rfl ?_
            refine jl_op ?_ (nb rfl)
            refine ow_move rfl ?_
            refine jl_op ?_ (nb rfl)
            refine ow_leq rfl rfl ?_
            refine jl_nil ?_
            refine jq_then ?_
            refine jc_condd rfl (fun hle => ?_) (fun hgt => ?_)
            · have o1 : So kOf t a (a + bs) := (h5 a hda (Nat.le_refl _) (by omega)).sub kOf (Nat.le_refl _) (by omega)
              have o2 : So kOf t (a + bs) (a + 2 * bs) := (h5 (a + bs) (Nat.dvd_add hda (Nat.dvd_refl _)) (by omega) (by omega)).sub kOf (Nat.le_refl _) (by omega)
              have hi := sym_c V _ t a (a + bs) (a + 2 * bs) (Nat.le_refl _) (by omega) (by omega) (by omega) (by omega) (okT_perm hok h3.perm) o1 o2
              unfold SymP at hi
              rw [show ((a + bs : Nat) : Int) = (a : Int) + (bs : Int) by omega] at hi
              refine jc_skip ?_
              refine jq_then ?_
              refine jc_block ?_
              refine jc_seq ?_
              refine jc_region ?_
              refine jl_op ?_ (nb rfl)
              refine ow_move rfl ?_
              refine jl_op ?_ (nb rfl)
              refine ow_move rfl ?_
              refine jl_op ?_ (nb rfl)
              refine ow_move rfl ?_
              refine jl_op ?_ (nb rfl)
              refine ow_move rfl ?_
              refine jl_op ?_ (nb rfl)
              refine ow_add64 rfl rfl (by omega) ?_
              refine jl_op ?_ (nb rfl)
              refine ow_move rfl ?_
              refine jl_op ?_ (nb rfl)
              refine ow_move rfl ?_
              refine jl_op (ow_callP [0] rfl rfl (hi) (fun t2 ht2 => ?_)) (nb rfl)
              refine jl_nil ?_
              refine jq_then ?_
              refine jc_seq ?_
              refine jc_region ?_
              refine jl_op ?_ (nb rfl)
              refine ow_move rfl ?_
              refine jl_op ?_ (nb rfl)
              refine ow_assign rfl ?_
              refine jl_nil ?_
              refine jq_then ?_
              refine jc_region ?_
              refine jl_op ?_ (nb rfl)
              refine ow_move rfl ?_
              refine jl_op ?_ (nb rfl)
              refine ow_move rfl ?_
              refine jl_op ?_ (nb rfl)
              refine ow_mul64 rfl rfl (by omega) ?_
              refine jl_op ?_ (nb rfl)
              refine ow_add64 rfl rfl (by omega) ?_
              refine jl_op ?_ (nb rfl)
              refine ow_assign rfl ?_
              refine jl_nil ?_
              refine jq_block ?_
              refine jq_againS (i := (a, t)) (a + 2 * bs, t2) ⟨Nat.dvd_add h1 (Nat.dvd_refl _), by dsimp only; omega, h3.trans (ht2.1.mono (by omega) (by omega)), bl2_join kOf (bl2_out kOf h4 (by omega) h1 ht2.1 (.inl (Nat.le_refl _))) (bl2_one kOf (by omega) h1 (ht2.2.sub kOf (Nat.le_refl _) (by omega))), bl2_behind kOf (bl2_sub kOf h5 (by dsimp only; omega) (Nat.le_refl _)) ht2.1 (Nat.le_refl _)⟩ (by dsimp only; omega) ?_ ?_
              · refine sub_step 0 rfl ?_
                exact sub_end
              · dsimp only
                rw [show ((a + 2 * bs + 2 * bs : Nat) : Int) = ((a + 2 * bs : Nat) : Int) + 2 * (bs : Int) by omega]
                (repeat (first | exact True.intro | refine ⟨rfl, ?_⟩))
            · refine jc_exit ?_
              refine jq_then_exit ?_
              refine jq_then_exit ?_
              refine jq_block_exit ?_
              refine jq_then ?_
              refine jc_seq ?_
              refine jc_seq ?_
              refine jc_region ?_
              refine jl_op ?_ (nb rfl)
              refine ow_move rfl ?_
              refine jl_op ?_ (nb rfl)
              refine ow_move rfl ?_
              refine jl_op ?_ (nb rfl)
              refine ow_add64 rfl rfl (by omega) ?_
              refine jl_op ?_ (nb rfl)
              refine ow_assign rfl ?_
              refine jl_nil ?_
              refine jq_then ?_
              refine jc_seq ?_
              refine jc_region ?_
              refine jl_op ?_ (nb rfl)
              refine ow_move rfl ?_
              refine jl_op ?_ (nb rfl)
              refine ow_move rfl ?_
              refine jl_op ?_ (nb rfl)
              refine ow_lss rfl rfl ?_
              refine jl_nil ?_
              refine jq_then ?_
              refine jc_condd rfl (fun hmn => ?_) (fun hmn => ?_)
              · have o1 : So kOf t a (a + bs) := (h5 a hda (Nat.le_refl _) (by omega)).sub kOf (Nat.le_refl _) (by omega)
                have o2 : So kOf t (a + bs) n := (h5 (a + bs) (Nat.dvd_add hda (Nat.dvd_refl _)) (by omega) (by omega)).sub kOf (Nat.le_refl _) (by omega)
                have hi := sym_c V _ t a (a + bs) n (Nat.le_refl _) (by omega) (by omega) (by omega) (by omega) (okT_perm hok h3.perm) o1 o2
                unfold SymP at hi
                rw [show ((a + bs : Nat) : Int) = (a : Int) + (bs : Int) by omega] at hi
                refine jc_region ?_
                refine jl_op ?_ (nb rfl)
                refine ow_move rfl ?_
                refine jl_op ?_ (nb rfl)
                refine ow_move rfl ?_
                refine jl_op ?_ (nb rfl)
                refine ow_move rfl ?_
                refine jl_op ?_ (nb rfl)
                refine ow_move rfl ?_
                refine jl_op ?_ (nb rfl)
                refine ow_move rfl ?_
                refine jl_op (ow_callP [0] rfl rfl (hi) (fun t2 ht2 => ?_)) (nb rfl)
                refine jl_nil ?_
                refine jq_then ?_
                refine jc_region ?_
                refine jl_op ?_ (nb rfl)
                refine ow_move rfl ?_
                refine jl_op ?_ (nb rfl)
                refine ow_mul64 rfl rfl (by omega) ?_
                refine jl_op ?_ (nb rfl)
                refine ow_assign rfl ?_
                refine jl_nil ?_
                refine jq_block ?_
                refine jq_againS (i := (bs, u)) (2 * bs, t2) ⟨by dsimp only; omega, by dsimp only; omega, h3.trans (ht2.1.mono (by omega) (by omega)), bl2_join kOf (bl2_out kOf h4 (by omega) h1 ht2.1 (.inl (Nat.le_refl _))) (bl2_last kOf (by omega) h1 (by omega) ht2.2)⟩ (by dsimp only; omega) ?_ ?_
                · refine sub_step 0 rfl ?_
                  exact sub_end
                · dsimp only
                  rw [show ((2 * bs : Nat) : Int) = (bs : Int) * 2 by omega]
                  (repeat (first | exact True.intro | refine ⟨rfl, ?_⟩))
              · refine jc_skip ?_
                refine jq_then ?_
                refine jc_region ?_
                refine jl_op ?_ (nb rfl)
                refine ow_move rfl ?_
                refine jl_op ?_ (nb rfl)
                refine ow_mul64 rfl rfl (by omega) ?_
                refine jl_op ?_ (nb rfl)
                refine ow_assign rfl ?_
                refine jl_nil ?_
                refine jq_block ?_
                have o1 : So kOf t a n := by
                  by_cases ha : a < n
                  · exact (h5 a hda (Nat.le_refl _) ha).sub kOf (Nat.le_refl _) (by omega)
                  · exact so_small kOf (by omega)
                refine jq_againS (i := (bs, u)) (2 * bs, t) ⟨by dsimp only; omega, by dsimp only; omega, h3, bl2_join kOf h4 (bl2_last kOf (by omega) h1 (by omega) o1)⟩ (by dsimp only; omega) ?_ ?_
                · refine sub_step 0 rfl ?_
                  exact sub_end
                · dsimp only
                  rw [show ((2 * bs : Nat) : Int) = (bs : Int) * 2 by omega]
                  (repeat (first | exact True.intro | refine ⟨rfl, ?_⟩))
        · have o1 : So kOf u 0 n := by
            by_cases h0 : 0 < n
            · exact (g4 0 (Nat.dvd_zero _) (Nat.le_refl _) h0).sub kOf (Nat.le_refl _) (by omega)
            · exact so_small kOf (by omega)
          refine jc_exit ?_
          refine jq_then_exit ?_
          refine jq_then_exit ?_
          refine jq_block_exit ?_
          refine jq_retG (ss := []) (.inr rfl) rfl (is := [0]) rfl (fun K h => h u ⟨g3, o1⟩)

theorem SortStable_c (V : Value) (l : List Tm) (hl : l.length ≤ 1000000) (hok : okT l) :
    Con Try.prog 51 [.cell (.val V), CF] [Ow V l] (fun K => ∀ l' : List Tm, (l'.Perm l ∧ l'.Pairwise (fun a b => a.1 ≤ b.1)) → K (.tup []) [Ow V l']) := by
  refine con_intro Try.func51 rfl rfl (Nat.le_of_ble_eq_true rfl) (fun c hc => ?_)
  have hi := stable_c V l hl hok
  rw [show (l.length : Int) = ((l.map TR).length : Int) by rw [List.length_map]] at hi
  refine jc_region ?_
  refine jl_op ?_ (nb rfl)
  refine ow_move rfl ?_
  refine jl_op ?_ (nb rfl)
  refine ow_move rfl ?_
  refine jl_op ?_ (nb rfl)
  refine ow_lenown 0 rfl rfl (fun hlen => ?_)
  refine jl_op ?_ (nb rfl)
  refine ow_move rfl ?_
  refine jl_op (ow_callP [0] rfl rfl (hi) (fun t ht => ?_)) (nb rfl)
  refine jl_nil ?_
  refine jq_retG (ss := []) (.inr rfl) rfl (is := [0]) rfl (fun K h => h t ⟨ht.1.perm, so_pairwise kOf (by rw [ht.1.len]; exact ht.2)⟩)
end Go.Proofs.Ytjkkkjikhjfdnaa
