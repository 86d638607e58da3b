import Derived.Test.YtccojifhaoadbaaDoorTk6
namespace Go.Proofs.YtccojifhaoadbaaDoor
open Go.Vc
attribute [local irreducible] JL JC JQ OpWp Con ConN
attribute [local irreducible] nextT scan byteAt rsign runLen nameLen signLen numVal

theorem rScan_c (s : ByteArray) : Con Tryd.prog 9 [Str s] [] (fun K => K (.tup [.cell (.list ((scan s).1.map Tok.row)), In .i64 (scan s).2.1, In .i64 (scan s).2.2]) []) := by
  refine con_intro Tryd.func9 rfl rfl (Nat.le_of_ble_eq_true rfl) (fun c hc => ?_)
  refine jc_seq ?_
  refine jc_region ?_
  refine jl_op ?_ (nb rfl)
  refine ow_assign rfl ?_
  refine jl_op ?_ (nb rfl)
  refine ow_assign rfl ?_
  refine jl_op ?_ (nb rfl)
  refine ow_assign rfl ?_
  refine jl_nil ?_
  refine jq_then ?_
  refine jc_seq ?_
  refine jc_seq ?_
  refine jc_region ?_
  refine jl_op ?_ (nb rfl)
  refine ow_move rfl ?_
  refine jl_op ?_ (nb rfl)
  refine ow_lenstr rfl rfl ?_
  refine jl_op ?_ (nb rfl)
  refine ow_gtr rfl rfl ?_
  refine jl_nil ?_
  refine jq_then ?_
  refine jc_condd rfl (fun hn => ?_) (fun hn => ?_)
  · refine jc_seq ?_
    refine jc_region ?_
    refine jl_op ?_ (nb rfl)
    refine ow_assign rfl ?_
    refine jl_op ?_ (nb rfl)
    refine ow_assign rfl ?_
    refine jl_op ?_ (nb rfl)
    refine ow_assign rfl ?_
    refine jl_nil ?_
    refine jq_then ?_
    refine jc_ret ?_
    refine jq_then_ret ?_
    have e : scan s = ([], 0, 4) := by unfold scan; rw [if_pos (by omega)]
    refine jq_ownNil 23 4 (by omega) ?_
    refine jq_freeze 2 0 rfl rfl (by rw [hc]; simp [hb]) ?_
    refine jq_ret3 rfl rfl rfl rfl (fun K h => by rw [e] at h; exact h) ?_
    exact sub_end
  · have hsz : s.size ≤ 8192 := by omega
    refine jc_skip ?_
    refine jq_then ?_
    refine jc_seq ?_
    refine jc_region ?_
    refine jl_op ?_ (nb rfl)
    refine ow_assign rfl ?_
    refine jl_nil ?_
    refine jq_then ?_
    refine jc_seq ?_
    refine jc_region ?_
    refine jl_op ?_ (nb rfl)
    refine ow_assign rfl ?_
    refine jl_nil ?_
    refine jq_then ?_
    refine jc_seq ?_
    refine jc_seq ?_
    refine jc_region ?_
    refine jl_op ?_ (nb rfl)
    refine ow_assign rfl ?_
    refine jl_nil ?_
    refine jq_then ?_
    refine jc_block ?_
    refine jc_ownNil 23 4 (by omega) ?_
    refine jc_loopS (ι := Nat × Int × Value × List Tok) [] (fun i => scanGo s i.1 i.2.1 i.2.2.2 = scan s ∧ i.1 ≤ s.size ∧ 1 ≤ i.2.1 ∧ i.2.1 ≤ 1 + i.1 ∧ i.2.2.2.length ≤ i.1) (fun i => [(0, Str s), (2, S.cell (C.val (.slice none 0 0))), (5, .cell (.val i.2.2.1)), (6, In .i64 i.2.1), (7, In .i64 (i.1 : Int))]) (fun i => [.own i.2.2.1 23 4 (i.2.2.2.map Tok.row)]) (fun i => s.size - i.1) (0, 1, .slice none 0 0, []) ⟨by unfold scan; rw [if_neg (by omega)], by omega, by dsimp only; omega, by dsimp only; omega, by simp⟩ ?_ ?_ ?_
    · refine sub_step 0 rfl ?_
      exact sub_end
    · (repeat (first | exact True.intro | refine ⟨rfl, ?_⟩))
    · rintro ⟨k, line, v, out⟩ ⟨hsc, hk, hl1, hl2, hlen⟩
      dsimp only at hsc hk hl1 hl2 hlen ⊢
      refine jc_reset [(0, Str s), (2, S.cell (C.val (.slice none 0 0))), (5, .cell (.val v)), (6, In .i64 line), (7, In .i64 (k : Int))] [.own v 23 4 (out.map Tok.row)] ?_ ⟨[0], [], rfl⟩ ?_
      · (repeat (first | exact True.intro | refine ⟨rfl, ?_⟩))
      refine jc_seq ?_
      refine jc_seq ?_
      refine jc_region ?_
      refine jl_op ?_ (nb rfl)
      refine ow_move rfl ?_
      refine jl_op ?_ (nb rfl)
      refine ow_move rfl ?_
      refine jl_op ?_ (nb rfl)
      refine ow_lenstr rfl rfl ?_
      refine jl_op ?_ (nb rfl)
      refine ow_lss rfl rfl ?_
      refine jl_nil ?_
      refine jq_then ?_
      refine jc_condd rfl (fun hlt => ?_) (fun hge => ?_)
      · have hlt' : k < s.size := by omega
        rw [scanGo, dif_pos hlt'] at hsc
        have hx : (s.extract k s.size).size = s.size - k := by rw [extract_size _ _ _ (Nat.le_refl _)]
        have hnl := nextT_le (s.extract k s.size)
        refine jc_skip ?_
        refine jq_then ?_
        refine jc_block ?_
        refine jc_seq ?_
        refine jc_region ?_
        refine jl_op ?_ (nb rfl)
        refine ow_move rfl ?_
        refine jl_op ?_ (nb rfl)
        refine ow_move rfl ?_
        refine jl_op ?_ (nb rfl)
        refine ow_indexStr rfl rfl rfl (by omega) (by omega) ?_
        refine jl_op ?_ (nb rfl)
        refine ow_assign rfl ?_
        refine jl_nil ?_
        refine jq_then ?_
        refine jc_seq ?_
        refine jc_region ?_
        refine jl_op ?_ (nb rfl)
        refine ow_move rfl ?_
        refine jl_op ?_ (nb rfl)
        refine ow_assign rfl ?_
        refine jl_nil ?_
        refine jq_then ?_
        refine jc_seq ?_
        refine jc_block ?_
        refine jc_seq ?_
        refine jc_region ?_
        refine jl_op ?_ (nb rfl)
        refine ow_move rfl ?_
        refine jl_op ?_ (nb rfl)
        refine ow_eql rfl rfl ?_
        refine jl_op ?_ (nb rfl)
        refine ow_assign rfl ?_
        refine jl_nil ?_
        refine jq_then ?_
        refine jc_condd rfl (fun h10 => ?_) (fun h10 => ?_)
        · rw [if_pos (show byteAt s k = 10 from h10)] at hsc
          refine jc_seq ?_
          refine jc_region ?_
          refine jl_op ?_ (nb rfl)
          refine ow_move rfl ?_
          refine jl_op ?_ (nb rfl)
          refine ow_add64 rfl rfl (by omega) ?_
          refine jl_op ?_ (nb rfl)
          refine ow_assign rfl ?_
          refine jl_nil ?_
          refine jq_then ?_
          refine jc_seq ?_
          refine jc_region ?_
          refine jl_op ?_ (nb rfl)
          refine ow_move rfl ?_
          refine jl_op ?_ (nb rfl)
          refine ow_add64 rfl rfl (by omega) ?_
          refine jl_op ?_ (nb rfl)
          refine ow_assign rfl ?_
          refine jl_nil ?_
          refine jq_then ?_
          refine jc_exit ?_
          refine jq_block_other rfl ?_
          refine jq_then_exit ?_
          refine jq_block_exit ?_
          refine jq_againS (i := (k, line, v, out)) (k + 1, line + 1, v, out) ⟨hsc, by dsimp only; omega, by dsimp only; omega, by dsimp only; omega, by dsimp only; omega⟩ (by dsimp only; omega) ?_ ?_
          · refine sub_step 0 rfl ?_
            exact sub_end
          · (repeat (first | exact True.intro | refine ⟨rfl, ?_⟩))
        · rw [if_neg (show ¬ byteAt s k = 10 from h10)] at hsc
          by_cases hw : byteAt s k = 32 ∨ byteAt s k = 9
          · rw [if_pos hw] at hsc
            have hw' : (decide (byteAt s (k : Int).toNat = 32) || decide (byteAt s (k : Int).toNat = 9)) = true := by simpa using hw
            by_cases h32 : byteAt s (k : Int).toNat = 32
            · refine jc_seq ?_
              refine jc_region ?_
              refine jl_op ?_ (nb rfl)
              refine ow_move rfl ?_
              refine jl_op ?_ (nb rfl)
              refine ow_eql rfl rfl ?_
              refine jl_op ?_ (nb rfl)
              refine ow_move rfl ?_
              refine jl_guardN rfl (by first | assumption | exact decide_eq_true (by first | assumption | omega) | exact decide_eq_false (by first | assumption | omega) | with_reducible rfl | exact (rfl : false = !true) | exact (rfl : true = !false)) (nb rfl) ?_
              refine jl_guardN rfl (by first | assumption | exact decide_eq_true (by first | assumption | omega) | exact decide_eq_false (by first | assumption | omega) | with_reducible rfl | exact (rfl : false = !true) | exact (rfl : true = !false)) (nb rfl) ?_
              refine jl_op ?_ (nb rfl)
              refine ow_pickT rfl (by first | assumption | exact decide_eq_true (by first | assumption | omega) | exact decide_eq_false (by first | assumption | omega) | with_reducible rfl | exact (rfl : false = !true) | exact (rfl : true = !false)) rfl ?_
              refine jl_op ?_ (nb rfl)
              refine ow_assign rfl ?_
              refine jl_nil ?_
              refine jq_then ?_
              refine jc_cond rfl (fun _ => ?_) (fun h => by cases h)
              refine jc_seq ?_
              refine jc_region ?_
              refine jl_op ?_ (nb rfl)
              refine ow_move rfl ?_
              refine jl_op ?_ (nb rfl)
              refine ow_add64 rfl rfl (by omega) ?_
              refine jl_op ?_ (nb rfl)
              refine ow_assign rfl ?_
              refine jl_nil ?_
              refine jq_then ?_
              refine jc_exit ?_
              refine jq_block_other rfl ?_
              refine jq_then_exit ?_
              refine jq_block_exit ?_
              refine jq_againS (i := (k, line, v, out)) (k + 1, line, v, out) ⟨hsc, by dsimp only; omega, by dsimp only; omega, by dsimp only; omega, by dsimp only; omega⟩ (by dsimp only; omega) ?_ ?_
              · refine sub_step 0 rfl ?_
                exact sub_end
              · (repeat (first | exact True.intro | refine ⟨rfl, ?_⟩))
            · have h9 : byteAt s (k : Int).toNat = 9 := hw.resolve_left h32
              refine jc_seq ?_
              refine jc_region ?_
              refine jl_op ?_ (nb rfl)
              refine ow_move rfl ?_
              refine jl_op ?_ (nb rfl)
              refine ow_eql rfl rfl ?_
              refine jl_op ?_ (nb rfl)
              refine ow_move rfl ?_
              refine jl_guardY rfl (by first | assumption | exact decide_eq_true (by first | assumption | omega) | exact decide_eq_false (by first | assumption | omega) | with_reducible rfl | exact (rfl : false = !true) | exact (rfl : true = !false)) (nb rfl) ?_
              refine ow_move rfl ?_
              refine jl_guardY rfl (by first | assumption | exact decide_eq_true (by first | assumption | omega) | exact decide_eq_false (by first | assumption | omega) | with_reducible rfl | exact (rfl : false = !true) | exact (rfl : true = !false)) (nb rfl) ?_
              refine ow_eql rfl rfl ?_
              refine jl_op ?_ (nb rfl)
              refine ow_pickF rfl (by first | assumption | exact decide_eq_true (by first | assumption | omega) | exact decide_eq_false (by first | assumption | omega) | with_reducible rfl | exact (rfl : false = !true) | exact (rfl : true = !false)) rfl ?_
              refine jl_op ?_ (nb rfl)
              refine ow_assign rfl ?_
              refine jl_nil ?_
              refine jq_then ?_
              refine jc_condd rfl (fun _ => ?_) (fun h => absurd h9 h)
              refine jc_seq ?_
              refine jc_region ?_
              refine jl_op ?_ (nb rfl)
              refine ow_move rfl ?_
              refine jl_op ?_ (nb rfl)
              refine ow_add64 rfl rfl (by omega) ?_
              refine jl_op ?_ (nb rfl)
              refine ow_assign rfl ?_
              refine jl_nil ?_
              refine jq_then ?_
              refine jc_exit ?_
              refine jq_block_other rfl ?_
              refine jq_then_exit ?_
              refine jq_block_exit ?_
              refine jq_againS (i := (k, line, v, out)) (k + 1, line, v, out) ⟨hsc, by dsimp only; omega, by dsimp only; omega, by dsimp only; omega, by dsimp only; omega⟩ (by dsimp only; omega) ?_ ?_
              · refine sub_step 0 rfl ?_
                exact sub_end
              · (repeat (first | exact True.intro | refine ⟨rfl, ?_⟩))
          · rw [if_neg hw] at hsc
            have h32 : ¬ byteAt s (k : Int).toNat = 32 := fun h => hw (.inl h)
            have h9 : ¬ byteAt s (k : Int).toNat = 9 := fun h => hw (.inr h)
            refine jc_seq ?_
            refine jc_region ?_
            refine jl_op ?_ (nb rfl)
            refine ow_move rfl ?_
            refine jl_op ?_ (nb rfl)
            refine ow_eql rfl rfl ?_
            refine jl_op ?_ (nb rfl)
            refine ow_move rfl ?_
            refine jl_guardY rfl (by first | assumption | exact decide_eq_true (by first | assumption | omega) | exact decide_eq_false (by first | assumption | omega) | with_reducible rfl | exact (rfl : false = !true) | exact (rfl : true = !false)) (nb rfl) ?_
            refine ow_move rfl ?_
            refine jl_guardY rfl (by first | assumption | exact decide_eq_true (by first | assumption | omega) | exact decide_eq_false (by first | assumption | omega) | with_reducible rfl | exact (rfl : false = !true) | exact (rfl : true = !false)) (nb rfl) ?_
            refine ow_eql rfl rfl ?_
            refine jl_op ?_ (nb rfl)
            refine ow_pickF rfl (by first | assumption | exact decide_eq_true (by first | assumption | omega) | exact decide_eq_false (by first | assumption | omega) | with_reducible rfl | exact (rfl : false = !true) | exact (rfl : true = !false)) rfl ?_
            refine jl_op ?_ (nb rfl)
            refine ow_assign rfl ?_
            refine jl_nil ?_
            refine jq_then ?_
            refine jc_condd rfl (fun h => absurd h h9) (fun _ => ?_)
            refine jc_reset [(0, Str s), (2, S.cell (C.val (.slice none 0 0))), (5, .cell (.val v)), (6, In .i64 line), (7, In .i64 (k : Int)), (8, In .u8 (byteAt s k)), (9, In .i64 (k : Int))] [.own v 23 4 (out.map Tok.row)] ?_ ⟨[0], [], rfl⟩ ?_
            · (repeat (first | exact True.intro | refine ⟨rfl, ?_⟩))
            refine jc_seq ?_
            refine jc_region ?_
            refine jl_op ?_ (nb rfl)
            refine ow_move rfl ?_
            refine jl_op ?_ (nb rfl)
            refine ow_call0 rfl (rletter_c _) ?_
            refine jl_op ?_ (nb rfl)
            refine ow_assign rfl ?_
            refine jl_nil ?_
            refine jq_then ?_
            refine jc_cond rfl (fun hL => ?_) (fun hL => ?_)
            · refine jc_seq ?_
              refine jc_block ?_
              refine jc_loopS [] (fun j : Nat => k + j ≤ s.size ∧ ∀ i, i < j → isLD (byteAt s (k + i)) = true) (fun j => [(0, Str s), (2, S.cell (C.val (.slice none 0 0))), (5, .cell (.val v)), (6, In .i64 line), (7, In .i64 (k : Int)), (9, In .i64 ((k + j : Nat) : Int))]) (fun _ => [.own v 23 4 (out.map Tok.row)]) (fun j => s.size - (k + j)) 0 ⟨by omega, fun j h => by omega⟩ ?_ ?_ ?_
              · refine sub_step 0 rfl ?_
                exact sub_end
              · (repeat (first | exact True.intro | refine ⟨rfl, ?_⟩))
              · rintro j ⟨hkj, hall⟩
                refine jc_reset [(0, Str s), (2, S.cell (C.val (.slice none 0 0))), (5, .cell (.val v)), (6, In .i64 line), (7, In .i64 (k : Int)), (9, In .i64 ((k + j : Nat) : Int))] [.own v 23 4 (out.map Tok.row)] ?_ ⟨[0], [], rfl⟩ ?_
                · (repeat (first | exact True.intro | refine ⟨rfl, ?_⟩))
                by_cases hlt2 : ((k + j : Nat) : Int) < (s.size : Int)
                · cases hl0 : isL (byteAt s ((k + j : Nat) : Int).toNat) with
                  | true =>
                    refine jc_seq ?_
                    refine jc_seq ?_
                    refine jc_region ?_
                    refine jl_op ?_ (nb rfl)
                    refine ow_move rfl ?_
                    refine jl_op ?_ (nb rfl)
                    refine ow_move rfl ?_
                    refine jl_op ?_ (nb rfl)
                    refine ow_lenstr rfl rfl ?_
                    refine jl_op ?_ (nb rfl)
                    refine ow_lss rfl rfl ?_
                    refine jl_op ?_ (nb rfl)
                    refine ow_move rfl ?_
                    refine jl_guardY rfl (by first | assumption | exact decide_eq_true (by first | assumption | omega) | exact decide_eq_false (by first | assumption | omega) | with_reducible rfl | exact (rfl : false = !true) | exact (rfl : true = !false)) (nb rfl) ?_
                    refine ow_move rfl ?_
                    refine jl_guardY rfl (by first | assumption | exact decide_eq_true (by first | assumption | omega) | exact decide_eq_false (by first | assumption | omega) | with_reducible rfl | exact (rfl : false = !true) | exact (rfl : true = !false)) (nb rfl) ?_
                    refine ow_move rfl ?_
                    refine jl_guardY rfl (by first | assumption | exact decide_eq_true (by first | assumption | omega) | exact decide_eq_false (by first | assumption | omega) | with_reducible rfl | exact (rfl : false = !true) | exact (rfl : true = !false)) (nb rfl) ?_
                    refine ow_indexStr rfl rfl rfl (by omega) (by omega) ?_
                    refine jl_guardY rfl (by first | assumption | exact decide_eq_true (by first | assumption | omega) | exact decide_eq_false (by first | assumption | omega) | with_reducible rfl | exact (rfl : false = !true) | exact (rfl : true = !false)) (nb rfl) ?_
                    refine ow_call0 rfl (rletter_c _) ?_
                    refine jl_guardY rfl (by first | assumption | exact decide_eq_true (by first | assumption | omega) | exact decide_eq_false (by first | assumption | omega) | with_reducible rfl | exact (rfl : false = !true) | exact (rfl : true = !false)) (nb rfl) ?_
                    refine ow_move rfl ?_
                    refine jl_guardN rfl (by first | assumption | exact decide_eq_true (by first | assumption | omega) | exact decide_eq_false (by first | assumption | omega) | with_reducible rfl | exact (rfl : false = !true) | exact (rfl : true = !false)) (nb rfl) ?_
                    refine jl_guardN rfl (by first | assumption | exact decide_eq_true (by first | assumption | omega) | exact decide_eq_false (by first | assumption | omega) | with_reducible rfl | exact (rfl : false = !true) | exact (rfl : true = !false)) (nb rfl) ?_
                    refine jl_guardN rfl (by first | assumption | exact decide_eq_true (by first | assumption | omega) | exact decide_eq_false (by first | assumption | omega) | with_reducible rfl | exact (rfl : false = !true) | exact (rfl : true = !false)) (nb rfl) ?_
                    refine jl_guardN rfl (by first | assumption | exact decide_eq_true (by first | assumption | omega) | exact decide_eq_false (by first | assumption | omega) | with_reducible rfl | exact (rfl : false = !true) | exact (rfl : true = !false)) (nb rfl) ?_
                    refine jl_guardY rfl (by first | assumption | exact decide_eq_true (by first | assumption | omega) | exact decide_eq_false (by first | assumption | omega) | with_reducible rfl | exact (rfl : false = !true) | exact (rfl : true = !false)) (nb rfl) ?_
                    refine ow_pickT rfl (by first | assumption | exact decide_eq_true (by first | assumption | omega) | exact decide_eq_false (by first | assumption | omega) | with_reducible rfl | exact (rfl : false = !true) | exact (rfl : true = !false)) rfl ?_
                    refine jl_op ?_ (nb rfl)
                    refine ow_pickT rfl (by first | assumption | exact decide_eq_true (by first | assumption | omega) | exact decide_eq_false (by first | assumption | omega) | with_reducible rfl | exact (rfl : false = !true) | exact (rfl : true = !false)) rfl ?_
                    refine jl_nil ?_
                    refine jq_then ?_
                    refine jc_cond rfl (fun _ => ?_) (fun h => by cases h)
                    refine jc_skip ?_
                    refine jq_then ?_
                    refine jc_block ?_
                    refine jc_region ?_
                    refine jl_op ?_ (nb rfl)
                    refine ow_move rfl ?_
                    refine jl_op ?_ (nb rfl)
                    refine ow_add64 rfl rfl (by omega) ?_
                    refine jl_op ?_ (nb rfl)
                    refine ow_assign rfl ?_
                    refine jl_nil ?_
                    refine jq_block ?_
                    refine jq_againS (j + 1) ⟨by omega, fun i hi => ?_⟩ (by omega) ?_ ?_
                    · by_cases hij : i < j
                      · exact hall i hij
                      · obtain rfl : i = j := by omega
                        unfold isLD
                        rw [show isL (byteAt s (k + i)) = true from hl0]; rfl
                    · refine sub_step 0 rfl ?_
                      exact sub_end
                    · (repeat (first | exact True.intro | refine ⟨rfl, ?_⟩))
                  | false =>
                    refine jc_seq ?_
                    refine jc_seq ?_
                    refine jc_region ?_
                    refine jl_op ?_ (nb rfl)
                    refine ow_move rfl ?_
                    refine jl_op ?_ (nb rfl)
                    refine ow_move rfl ?_
                    refine jl_op ?_ (nb rfl)
                    refine ow_lenstr rfl rfl ?_
                    refine jl_op ?_ (nb rfl)
                    refine ow_lss rfl rfl ?_
                    refine jl_op ?_ (nb rfl)
                    refine ow_move rfl ?_
                    refine jl_guardY rfl (by first | assumption | exact decide_eq_true (by first | assumption | omega) | exact decide_eq_false (by first | assumption | omega) | with_reducible rfl | exact (rfl : false = !true) | exact (rfl : true = !false)) (nb rfl) ?_
                    refine ow_move rfl ?_
                    refine jl_guardY rfl (by first | assumption | exact decide_eq_true (by first | assumption | omega) | exact decide_eq_false (by first | assumption | omega) | with_reducible rfl | exact (rfl : false = !true) | exact (rfl : true = !false)) (nb rfl) ?_
                    refine ow_move rfl ?_
                    refine jl_guardY rfl (by first | assumption | exact decide_eq_true (by first | assumption | omega) | exact decide_eq_false (by first | assumption | omega) | with_reducible rfl | exact (rfl : false = !true) | exact (rfl : true = !false)) (nb rfl) ?_
                    refine ow_indexStr rfl rfl rfl (by omega) (by omega) ?_
                    refine jl_guardY rfl (by first | assumption | exact decide_eq_true (by first | assumption | omega) | exact decide_eq_false (by first | assumption | omega) | with_reducible rfl | exact (rfl : false = !true) | exact (rfl : true = !false)) (nb rfl) ?_
                    refine ow_call0 rfl (rletter_c _) ?_
                    refine jl_guardY rfl (by first | assumption | exact decide_eq_true (by first | assumption | omega) | exact decide_eq_false (by first | assumption | omega) | with_reducible rfl | exact (rfl : false = !true) | exact (rfl : true = !false)) (nb rfl) ?_
                    refine ow_move rfl ?_
                    refine jl_guardY rfl (by first | assumption | exact decide_eq_true (by first | assumption | omega) | exact decide_eq_false (by first | assumption | omega) | with_reducible rfl | exact (rfl : false = !true) | exact (rfl : true = !false)) (nb rfl) ?_
                    refine ow_move rfl ?_
                    refine jl_guardY rfl (by first | assumption | exact decide_eq_true (by first | assumption | omega) | exact decide_eq_false (by first | assumption | omega) | with_reducible rfl | exact (rfl : false = !true) | exact (rfl : true = !false)) (nb rfl) ?_
                    refine ow_move rfl ?_
                    refine jl_guardY rfl (by first | assumption | exact decide_eq_true (by first | assumption | omega) | exact decide_eq_false (by first | assumption | omega) | with_reducible rfl | exact (rfl : false = !true) | exact (rfl : true = !false)) (nb rfl) ?_
                    refine ow_indexStr rfl rfl rfl (by omega) (by omega) ?_
                    refine jl_guardY rfl (by first | assumption | exact decide_eq_true (by first | assumption | omega) | exact decide_eq_false (by first | assumption | omega) | with_reducible rfl | exact (rfl : false = !true) | exact (rfl : true = !false)) (nb rfl) ?_
                    refine ow_call0 rfl (rdigit_c _) ?_
                    refine jl_guardY rfl (by first | assumption | exact decide_eq_true (by first | assumption | omega) | exact decide_eq_false (by first | assumption | omega) | with_reducible rfl | exact (rfl : false = !true) | exact (rfl : true = !false)) (nb rfl) ?_
                    refine ow_pickF rfl (by first | assumption | exact decide_eq_true (by first | assumption | omega) | exact decide_eq_false (by first | assumption | omega) | with_reducible rfl | exact (rfl : false = !true) | exact (rfl : true = !false)) rfl ?_
                    refine jl_op ?_ (nb rfl)
                    refine ow_pickT rfl (by first | assumption | exact decide_eq_true (by first | assumption | omega) | exact decide_eq_false (by first | assumption | omega) | with_reducible rfl | exact (rfl : false = !true) | exact (rfl : true = !false)) rfl ?_
                    refine jl_nil ?_
                    refine jq_then ?_
                    refine jc_cond rfl (fun hb => ?_) (fun hb => ?_)
                    · refine jc_skip ?_
                      refine jq_then ?_
                      refine jc_block ?_
                      refine jc_region ?_
                      refine jl_op ?_ (nb rfl)
                      refine ow_move rfl ?_
                      refine jl_op ?_ (nb rfl)
                      refine ow_add64 rfl rfl (by omega) ?_
                      refine jl_op ?_ (nb rfl)
                      refine ow_assign rfl ?_
                      refine jl_nil ?_
                      refine jq_block ?_
                      refine jq_againS (j + 1) ⟨by omega, fun i hi => ?_⟩ (by omega) ?_ ?_
                      · by_cases hij : i < j
                        · exact hall i hij
                        · obtain rfl : i = j := by omega
                          unfold isLD
                          rw [show isD (byteAt s (k + i)) = true from hb, Bool.or_true]
                      · refine sub_step 0 rfl ?_
                        exact sub_end
                      · (repeat (first | exact True.intro | refine ⟨rfl, ?_⟩))
                    · have hf : isLD (byteAt s (k + j)) = false := by
                        unfold isLD
                        rw [show isL (byteAt s (k + j)) = false from hl0, show isD (byteAt s (k + j)) = false from hb]
                        rfl
                      have hjp : 0 < j := by
                        rcases Nat.eq_zero_or_pos j with h | h
                        · subst h
                          exact absurd (show isL (byteAt s k) = true from hL) (by rw [show isL (byteAt s k) = false from hl0]; simp)
                        · exact h
                      have hj : runLen isLD (s.extract k s.size) = j := runLen_eq (fun i hi => by rw [byteAt_extract]; exact hall i hi) (by omega) (fun _ => by rw [byteAt_extract]; exact hf)
                      have hnl0 : nameLen (s.extract k s.size) = j := by
                        unfold nameLen
                        rw [if_pos ⟨by omega, by rw [byteAt_extract, Nat.add_zero]; exact hL⟩]
                        exact hj
                      have hnx : nextT (s.extract k s.size) = if 12 < j then ((0, 0, ⟨#[]⟩), 0) else ((1, 0, s.extract k (k + j)), j) := by
                        unfold nextT
                        rw [hnl0, if_pos (by omega), extract_extract s k j (by omega)]
                      have hsub : ((k + j : Nat) : Int) - (k : Int) = (j : Int) := by omega
                      refine jc_exit ?_
                      refine jq_then_exit ?_
                      refine jq_then_exit ?_
                      refine jq_block_exit ?_
                      refine jq_then ?_
                      refine jc_seq ?_
                      refine jc_seq ?_
                      refine jc_region ?_
                      refine jl_op ?_ (nb rfl)
                      refine ow_move rfl ?_
                      refine jl_op ?_ (nb rfl)
                      refine ow_move rfl ?_
                      refine jl_op ?_ (nb rfl)
                      refine ow_sub64 rfl rfl (by omega) ?_
                      refine jl_op ?_ (nb rfl)
                      refine ow_gtr rfl rfl ?_
                      refine jl_nil ?_
                      refine jq_then ?_
                      refine jc_condd rfl (fun h12 => ?_) (fun h12 => ?_)
                      · rw [if_pos (by omega)] at hnx
                        rw [hnx] at hsc
                        refine jc_seq ?_
                        refine jc_region ?_
                        refine jl_op ?_ (nb rfl)
                        refine ow_move rfl ?_
                        refine jl_op ?_ (nb rfl)
                        refine ow_assign rfl ?_
                        refine jl_op ?_ (nb rfl)
                        refine ow_assign rfl ?_
                        refine jl_op ?_ (nb rfl)
                        refine ow_assign rfl ?_
                        refine jl_nil ?_
                        refine jq_then ?_
                        refine jc_ret ?_
                        refine jq_then_ret ?_
                        refine jq_block_ret ?_
                        refine jq_then_ret ?_
                        refine jq_block_ret ?_
                        refine jq_then_ret ?_
                        refine jq_block_ret ?_
                        refine jq_then_ret ?_
                        have e : scan s = ([], line, 1) := by rw [← hsc, dif_pos rfl]
                        refine jq_ownNil 23 4 (by omega) ?_
                        refine jq_freeze 2 0 rfl rfl (by rw [hc]; simp [Go.Vc.hb]) ?_
                        refine jq_ret3 rfl rfl rfl rfl (fun K h => by rw [e] at h; exact h) ?_
                        exact sub_end
                      · rw [if_neg (by omega)] at hnx
                        rw [hnx] at hsc
                        dsimp only at hsc
                        rw [dif_neg (by omega)] at hsc
                        refine jc_skip ?_
                        refine jq_then ?_
                        refine jc_region ?_
                        refine jl_op ?_ (nb rfl)
                        refine ow_move rfl ?_
                        refine jl_op ?_ (nb rfl)
                        refine ow_move rfl ?_
                        refine jl_op ?_ (nb rfl)
                        refine ow_move rfl ?_
                        refine jl_op ?_ (nb rfl)
                        refine ow_move rfl ?_
                        refine jl_op ?_ (nb rfl)
                        refine ow_move rfl ?_
                        refine jl_op ?_ (nb rfl)
                        refine ow_substr rfl rfl rfl rfl (by omega) (by omega) (by omega) ?_
                        refine jl_op ?_ (nb rfl)
                        refine ow_build rfl rfl rfl rfl rfl ?_
                        refine jl_op ?_ (nb rfl)
                        refine ow_buildSlice rfl rfl (nb rfl) rfl rfl (nb rfl) ?_
                        refine jl_op (ow_append1 0 ((⟨1, 0, line, s.extract k (k + j)⟩ : Tok)) rfl rfl rfl rfl rfl rfl rfl (fun _ => rfl) (by show (_ + _) * 40 ≤ _; first | omega | (simp only [List.length_append]; omega)) (by first | omega | (simp only [List.length_append]; omega)) (fun v1 hv1 => ?_)) (nb rfl)
                        refine jl_op ?_ (nb rfl)
                        refine ow_assign rfl ?_
                        refine jl_nil ?_
                        refine jq_block ?_
                        refine jq_then ?_
                        refine jc_region ?_
                        refine jl_op ?_ (nb rfl)
                        refine ow_move rfl ?_
                        refine jl_op ?_ (nb rfl)
                        refine ow_assign rfl ?_
                        refine jl_nil ?_
                        refine jq_block ?_
                        refine jq_againS (i := (k, line, v, out)) (k + j, line, v1, out ++ [(⟨1, 0, line, s.extract k (k + j)⟩ : Tok)]) ⟨hsc, by dsimp only; omega, hl1, by dsimp only; omega, by dsimp only; rw [List.length_append, List.length_singleton]; omega⟩ (by dsimp only; omega) ?_ ?_
                        · refine sub_step 0 rfl ?_
                          exact sub_end
                        · (repeat (first | exact True.intro | refine ⟨rfl, ?_⟩))
                · refine jc_seq ?_
                  refine jc_seq ?_
                  refine jc_region ?_
                  refine jl_op ?_ (nb rfl)
                  refine ow_move rfl ?_
                  refine jl_op ?_ (nb rfl)
                  refine ow_move rfl ?_
                  refine jl_op ?_ (nb rfl)
                  refine ow_lenstr rfl rfl ?_
                  refine jl_op ?_ (nb rfl)
                  refine ow_lss rfl rfl ?_
                  refine jl_op ?_ (nb rfl)
                  refine ow_move rfl ?_
                  refine jl_guardN rfl (by first | assumption | exact decide_eq_true (by first | assumption | omega) | exact decide_eq_false (by first | assumption | omega) | with_reducible rfl | exact (rfl : false = !true) | exact (rfl : true = !false)) (nb rfl) ?_
                  refine jl_guardN rfl (by first | assumption | exact decide_eq_true (by first | assumption | omega) | exact decide_eq_false (by first | assumption | omega) | with_reducible rfl | exact (rfl : false = !true) | exact (rfl : true = !false)) (nb rfl) ?_
                  refine jl_guardN rfl (by first | assumption | exact decide_eq_true (by first | assumption | omega) | exact decide_eq_false (by first | assumption | omega) | with_reducible rfl | exact (rfl : false = !true) | exact (rfl : true = !false)) (nb rfl) ?_
                  refine jl_guardN rfl (by first | assumption | exact decide_eq_true (by first | assumption | omega) | exact decide_eq_false (by first | assumption | omega) | with_reducible rfl | exact (rfl : false = !true) | exact (rfl : true = !false)) (nb rfl) ?_
                  refine jl_guardN rfl (by first | assumption | exact decide_eq_true (by first | assumption | omega) | exact decide_eq_false (by first | assumption | omega) | with_reducible rfl | exact (rfl : false = !true) | exact (rfl : true = !false)) (nb rfl) ?_
                  refine jl_guardU rfl (nb rfl) ?_
                  refine jl_guardU rfl (nb rfl) ?_
                  refine jl_guardU rfl (nb rfl) ?_
                  refine jl_guardU rfl (nb rfl) ?_
                  refine jl_guardN rfl (by first | assumption | exact decide_eq_true (by first | assumption | omega) | exact decide_eq_false (by first | assumption | omega) | with_reducible rfl | exact (rfl : false = !true) | exact (rfl : true = !false)) (nb rfl) ?_
                  refine jl_op ?_ (nb rfl)
                  refine ow_pickF rfl (by first | assumption | exact decide_eq_true (by first | assumption | omega) | exact decide_eq_false (by first | assumption | omega) | with_reducible rfl | exact (rfl : false = !true) | exact (rfl : true = !false)) rfl ?_
                  refine jl_nil ?_
                  refine jq_then ?_
                  refine jc_cond rfl (fun h => by cases h) (fun _ => ?_)
                  have hjp : 0 < j := by omega
                  have hj : runLen isLD (s.extract k s.size) = j := runLen_eq (fun i hi => by rw [byteAt_extract]; exact hall i hi) (by omega) (fun h => by omega)
                  have hnl0 : nameLen (s.extract k s.size) = j := by
                    unfold nameLen
                    rw [if_pos ⟨by omega, by rw [byteAt_extract, Nat.add_zero]; exact hL⟩]
                    exact hj
                  have hnx : nextT (s.extract k s.size) = if 12 < j then ((0, 0, ⟨#[]⟩), 0) else ((1, 0, s.extract k (k + j)), j) := by
                    unfold nextT
                    rw [hnl0, if_pos (by omega), extract_extract s k j (by omega)]
                  have hsub : ((k + j : Nat) : Int) - (k : Int) = (j : Int) := by omega
                  refine jc_exit ?_
                  refine jq_then_exit ?_
                  refine jq_then_exit ?_
                  refine jq_block_exit ?_
                  refine jq_then ?_
                  refine jc_seq ?_
                  refine jc_seq ?_
                  refine jc_region ?_
                  refine jl_op ?_ (nb rfl)
                  refine ow_move rfl ?_
                  refine jl_op ?_ (nb rfl)
                  refine ow_move rfl ?_
                  refine jl_op ?_ (nb rfl)
                  refine ow_sub64 rfl rfl (by omega) ?_
                  refine jl_op ?_ (nb rfl)
                  refine ow_gtr rfl rfl ?_
                  refine jl_nil ?_
                  refine jq_then ?_
                  refine jc_condd rfl (fun h12 => ?_) (fun h12 => ?_)
                  · rw [if_pos (by omega)] at hnx
                    rw [hnx] at hsc
                    refine jc_seq ?_
                    refine jc_region ?_
                    refine jl_op ?_ (nb rfl)
                    refine ow_move rfl ?_
                    refine jl_op ?_ (nb rfl)
                    refine ow_assign rfl ?_
                    refine jl_op ?_ (nb rfl)
                    refine ow_assign rfl ?_
                    refine jl_op ?_ (nb rfl)
                    refine ow_assign rfl ?_
                    refine jl_nil ?_
                    refine jq_then ?_
                    refine jc_ret ?_
                    refine jq_then_ret ?_
                    refine jq_block_ret ?_
                    refine jq_then_ret ?_
                    refine jq_block_ret ?_
                    refine jq_then_ret ?_
                    refine jq_block_ret ?_
                    refine jq_then_ret ?_
                    have e : scan s = ([], line, 1) := by rw [← hsc, dif_pos rfl]
                    refine jq_ownNil 23 4 (by omega) ?_
                    refine jq_freeze 2 0 rfl rfl (by rw [hc]; simp [Go.Vc.hb]) ?_
                    refine jq_ret3 rfl rfl rfl rfl (fun K h => by rw [e] at h; exact h) ?_
                    exact sub_end
                  · rw [if_neg (by omega)] at hnx
                    rw [hnx] at hsc
                    dsimp only at hsc
                    rw [dif_neg (by omega)] at hsc
                    refine jc_skip ?_
                    refine jq_then ?_
                    refine jc_region ?_
                    refine jl_op ?_ (nb rfl)
                    refine ow_move rfl ?_
                    refine jl_op ?_ (nb rfl)
                    refine ow_move rfl ?_
                    refine jl_op ?_ (nb rfl)
                    refine ow_move rfl ?_
                    refine jl_op ?_ (nb rfl)
                    refine ow_move rfl ?_
                    refine jl_op ?_ (nb rfl)
                    refine ow_move rfl ?_
                    refine jl_op ?_ (nb rfl)
                    refine ow_substr rfl rfl rfl rfl (by omega) (by omega) (by omega) ?_
                    refine jl_op ?_ (nb rfl)
                    refine ow_build rfl rfl rfl rfl rfl ?_
                    refine jl_op ?_ (nb rfl)
                    refine ow_buildSlice rfl rfl (nb rfl) rfl rfl (nb rfl) ?_
                    refine jl_op (ow_append1 0 ((⟨1, 0, line, s.extract k (k + j)⟩ : Tok)) rfl rfl rfl rfl rfl rfl rfl (fun _ => rfl) (by show (_ + _) * 40 ≤ _; first | omega | (simp only [List.length_append]; omega)) (by first | omega | (simp only [List.length_append]; omega)) (fun v1 hv1 => ?_)) (nb rfl)
                    refine jl_op ?_ (nb rfl)
                    refine ow_assign rfl ?_
                    refine jl_nil ?_
                    refine jq_block ?_
                    refine jq_then ?_
                    refine jc_region ?_
                    refine jl_op ?_ (nb rfl)
                    refine ow_move rfl ?_
                    refine jl_op ?_ (nb rfl)
                    refine ow_assign rfl ?_
                    refine jl_nil ?_
                    refine jq_block ?_
                    refine jq_againS (i := (k, line, v, out)) (k + j, line, v1, out ++ [(⟨1, 0, line, s.extract k (k + j)⟩ : Tok)]) ⟨hsc, by dsimp only; omega, hl1, by dsimp only; omega, by dsimp only; rw [List.length_append, List.length_singleton]; omega⟩ (by dsimp only; omega) ?_ ?_
                    · refine sub_step 0 rfl ?_
                      exact sub_end
                    · (repeat (first | exact True.intro | refine ⟨rfl, ?_⟩))
            · refine jc_seq ?_
              refine jc_region ?_
              refine jl_op ?_ (nb rfl)
              refine ow_move rfl ?_
              refine jl_op ?_ (nb rfl)
              refine ow_call0 rfl (rdigit_c _) ?_
              refine jl_op ?_ (nb rfl)
              refine ow_assign rfl ?_
              refine jl_nil ?_
              refine jq_then ?_
              refine jc_cond rfl (fun hD => ?_) (fun hD => ?_)
              · have hn0 : nameLen (s.extract k s.size) = 0 := by
                  unfold nameLen
                  rw [if_neg]
                  rintro ⟨_, h⟩
                  rw [byteAt_extract, Nat.add_zero, hL] at h
                  cases h
                refine jc_seq ?_
                refine jc_block ?_
                refine jc_loopS [] (fun j : Nat => k + j ≤ s.size ∧ ∀ i, i < j → isD (byteAt s (k + i)) = true) (fun j => [(0, Str s), (2, S.cell (C.val (.slice none 0 0))), (5, .cell (.val v)), (6, In .i64 line), (7, In .i64 (k : Int)), (9, In .i64 ((k + j : Nat) : Int))]) (fun _ => [.own v 23 4 (out.map Tok.row)]) (fun j => s.size - (k + j)) 0 ⟨by omega, fun j h => by omega⟩ ?_ ?_ ?_
                · refine sub_step 0 rfl ?_
                  exact sub_end
                · (repeat (first | exact True.intro | refine ⟨rfl, ?_⟩))
                · rintro j ⟨hkj, hall⟩
                  refine jc_reset [(0, Str s), (2, S.cell (C.val (.slice none 0 0))), (5, .cell (.val v)), (6, In .i64 line), (7, In .i64 (k : Int)), (9, In .i64 ((k + j : Nat) : Int))] [.own v 23 4 (out.map Tok.row)] ?_ ⟨[0], [], rfl⟩ ?_
                  · (repeat (first | exact True.intro | refine ⟨rfl, ?_⟩))
                  by_cases hlt2 : ((k + j : Nat) : Int) < (s.size : Int)
                  · refine jc_seq ?_
                    refine jc_seq ?_
                    refine jc_region ?_
                    refine jl_op ?_ (nb rfl)
                    refine ow_move rfl ?_
                    refine jl_op ?_ (nb rfl)
                    refine ow_move rfl ?_
                    refine jl_op ?_ (nb rfl)
                    refine ow_lenstr rfl rfl ?_
                    refine jl_op ?_ (nb rfl)
                    refine ow_lss rfl rfl ?_
                    refine jl_op ?_ (nb rfl)
                    refine ow_move rfl ?_
                    refine jl_guardY rfl (by first | assumption | exact decide_eq_true (by first | assumption | omega) | exact decide_eq_false (by first | assumption | omega) | with_reducible rfl | exact (rfl : false = !true) | exact (rfl : true = !false)) (nb rfl) ?_
                    refine ow_move rfl ?_
                    refine jl_guardY rfl (by first | assumption | exact decide_eq_true (by first | assumption | omega) | exact decide_eq_false (by first | assumption | omega) | with_reducible rfl | exact (rfl : false = !true) | exact (rfl : true = !false)) (nb rfl) ?_
                    refine ow_move rfl ?_
                    refine jl_guardY rfl (by first | assumption | exact decide_eq_true (by first | assumption | omega) | exact decide_eq_false (by first | assumption | omega) | with_reducible rfl | exact (rfl : false = !true) | exact (rfl : true = !false)) (nb rfl) ?_
                    refine ow_indexStr rfl rfl rfl (by omega) (by omega) ?_
                    refine jl_guardY rfl (by first | assumption | exact decide_eq_true (by first | assumption | omega) | exact decide_eq_false (by first | assumption | omega) | with_reducible rfl | exact (rfl : false = !true) | exact (rfl : true = !false)) (nb rfl) ?_
                    refine ow_call0 rfl (rdigit_c _) ?_
                    refine jl_op ?_ (nb rfl)
                    refine ow_pickT rfl (by first | assumption | exact decide_eq_true (by first | assumption | omega) | exact decide_eq_false (by first | assumption | omega) | with_reducible rfl | exact (rfl : false = !true) | exact (rfl : true = !false)) rfl ?_
                    refine jl_nil ?_
                    refine jq_then ?_
                    refine jc_cond rfl (fun hb => ?_) (fun hb => ?_)
                    · refine jc_skip ?_
                      refine jq_then ?_
                      refine jc_block ?_
                      refine jc_region ?_
                      refine jl_op ?_ (nb rfl)
                      refine ow_move rfl ?_
                      refine jl_op ?_ (nb rfl)
                      refine ow_add64 rfl rfl (by omega) ?_
                      refine jl_op ?_ (nb rfl)
                      refine ow_assign rfl ?_
                      refine jl_nil ?_
                      refine jq_block ?_
                      refine jq_againS (j + 1) ⟨by omega, fun i hi => ?_⟩ (by omega) ?_ ?_
                      · by_cases hij : i < j
                        · exact hall i hij
                        · obtain rfl : i = j := by omega
                          exact hb
                      · refine sub_step 0 rfl ?_
                        exact sub_end
                      · (repeat (first | exact True.intro | refine ⟨rfl, ?_⟩))
                    · have hjp : 0 < j := by
                        rcases Nat.eq_zero_or_pos j with h | h
                        · subst h
                          exact absurd (show isD (byteAt s k) = true from hD) (by rw [show isD (byteAt s k) = false from hb]; simp)
                        · exact h
                      have hj : runLen isD (s.extract k s.size) = j := runLen_eq (fun i hi => by rw [byteAt_extract]; exact hall i hi) (by omega) (fun _ => by rw [byteAt_extract]; exact hb)
                      have hdig := run_dig (s.extract k s.size)
                      rw [hj, extract_extract s k j (by omega)] at hdig
                      have hzz : (s.extract k (k + j)).size ≤ 1000000 := by rw [extract_size _ _ _ (by omega)]; omega
                      have hv := value_c (s.extract k (k + j)) hzz hdig
                      have hvb := numVal_bd _ hdig
                      have hnx : nextT (s.extract k s.size) = if 2147483647 < numVal (bytesI (s.extract k (k + j))) then ((0, 0, ⟨#[]⟩), 0) else ((2, numVal (bytesI (s.extract k (k + j))), ⟨#[]⟩), j) := by
                        unfold nextT
                        rw [if_neg (by omega), if_pos (by omega), hj, extract_extract s k j (by omega)]
                      by_cases hbig : 2147483648 ≤ numVal (bytesI (s.extract k (k + j)))
                      · rw [if_pos hbig] at hv
                        rw [if_pos (by omega)] at hnx
                        rw [hnx] at hsc
                        refine jc_exit ?_
                        refine jq_then_exit ?_
                        refine jq_then_exit ?_
                        refine jq_block_exit ?_
                        refine jq_then ?_
                        refine jc_seq ?_
                        refine jc_region ?_
                        refine jl_op ?_ (nb rfl)
                        refine ow_move rfl ?_
                        refine jl_op ?_ (nb rfl)
                        refine ow_move rfl ?_
                        refine jl_op ?_ (nb rfl)
                        refine ow_move rfl ?_
                        refine jl_op ?_ (nb rfl)
                        refine ow_substr rfl rfl rfl rfl (by omega) (by omega) (by omega) ?_
                        refine jl_op ?_ (nb rfl)
                        refine ow_call0 rfl (hv) ?_
                        refine jl_op ?_ (nb rfl)
                        refine ow_assign rfl ?_
                        refine jl_nil ?_
                        refine jq_then ?_
                        refine jc_seq ?_
                        refine jc_seq ?_
                        refine jc_region ?_
                        refine jl_op ?_ (nb rfl)
                        refine ow_move rfl ?_
                        refine jl_op ?_ (nb rfl)
                        refine ow_lss rfl rfl ?_
                        refine jl_nil ?_
                        refine jq_then ?_
                        refine jc_condd rfl (fun _ => ?_) (fun h => absurd (by decide) h)
                        refine jc_seq ?_
                        refine jc_region ?_
                        refine jl_op ?_ (nb rfl)
                        refine ow_move rfl ?_
                        refine jl_op ?_ (nb rfl)
                        refine ow_assign rfl ?_
                        refine jl_op ?_ (nb rfl)
                        refine ow_assign rfl ?_
                        refine jl_op ?_ (nb rfl)
                        refine ow_assign rfl ?_
                        refine jl_nil ?_
                        refine jq_then ?_
                        refine jc_ret ?_
                        refine jq_then_ret ?_
                        refine jq_block_ret ?_
                        refine jq_then_ret ?_
                        refine jq_block_ret ?_
                        refine jq_then_ret ?_
                        refine jq_block_ret ?_
                        refine jq_then_ret ?_
                        have e : scan s = ([], line, 1) := by rw [← hsc, dif_pos rfl]
                        refine jq_ownNil 23 4 (by omega) ?_
                        refine jq_freeze 2 0 rfl rfl (by rw [hc]; simp [Go.Vc.hb]) ?_
                        refine jq_ret3 rfl rfl rfl rfl (fun K h => by rw [e] at h; exact h) ?_
                        exact sub_end
                      · rw [if_neg hbig] at hv
                        rw [if_neg (by omega)] at hnx
                        rw [hnx] at hsc
                        dsimp only at hsc
                        rw [dif_neg (by omega)] at hsc
                        refine jc_exit ?_
                        refine jq_then_exit ?_
                        refine jq_then_exit ?_
                        refine jq_block_exit ?_
                        refine jq_then ?_
                        refine jc_seq ?_
                        refine jc_region ?_
                        refine jl_op ?_ (nb rfl)
                        refine ow_move rfl ?_
                        refine jl_op ?_ (nb rfl)
                        refine ow_move rfl ?_
                        refine jl_op ?_ (nb rfl)
                        refine ow_move rfl ?_
                        refine jl_op ?_ (nb rfl)
                        refine ow_substr rfl rfl rfl rfl (by omega) (by omega) (by omega) ?_
                        refine jl_op ?_ (nb rfl)
                        refine ow_call0 rfl (hv) ?_
                        refine jl_op ?_ (nb rfl)
                        refine ow_assign rfl ?_
                        refine jl_nil ?_
                        refine jq_then ?_
                        refine jc_seq ?_
                        refine jc_seq ?_
                        refine jc_region ?_
                        refine jl_op ?_ (nb rfl)
                        refine ow_move rfl ?_
                        refine jl_op ?_ (nb rfl)
                        refine ow_lss rfl rfl ?_
                        refine jl_nil ?_
                        refine jq_then ?_
                        refine jc_condd rfl (fun h => absurd h (by omega)) (fun _ => ?_)
                        refine jc_skip ?_
                        refine jq_then ?_
                        refine jc_region ?_
                        refine jl_op ?_ (nb rfl)
                        refine ow_move rfl ?_
                        refine jl_op ?_ (nb rfl)
                        refine ow_move rfl ?_
                        refine jl_op ?_ (nb rfl)
                        refine ow_move rfl ?_
                        refine jl_op ?_ (nb rfl)
                        refine ow_build rfl rfl rfl rfl rfl ?_
                        refine jl_op ?_ (nb rfl)
                        refine ow_buildSlice rfl rfl (nb rfl) rfl rfl (nb rfl) ?_
                        refine jl_op (ow_append1 0 ((⟨2, numVal (bytesI (s.extract k (k + j))), line, ⟨#[]⟩⟩ : Tok)) rfl rfl rfl rfl rfl rfl rfl (fun _ => rfl) (by show (_ + _) * 40 ≤ _; first | omega | (simp only [List.length_append]; omega)) (by first | omega | (simp only [List.length_append]; omega)) (fun v1 hv1 => ?_)) (nb rfl)
                        refine jl_op ?_ (nb rfl)
                        refine ow_assign rfl ?_
                        refine jl_nil ?_
                        refine jq_block ?_
                        refine jq_then ?_
                        refine jc_region ?_
                        refine jl_op ?_ (nb rfl)
                        refine ow_move rfl ?_
                        refine jl_op ?_ (nb rfl)
                        refine ow_assign rfl ?_
                        refine jl_nil ?_
                        refine jq_block ?_
                        refine jq_againS (i := (k, line, v, out)) (k + j, line, v1, out ++ [(⟨2, numVal (bytesI (s.extract k (k + j))), line, ⟨#[]⟩⟩ : Tok)]) ⟨hsc, by dsimp only; omega, hl1, by dsimp only; omega, by dsimp only; rw [List.length_append, List.length_singleton]; omega⟩ (by dsimp only; omega) ?_ ?_
                        · refine sub_step 0 rfl ?_
                          exact sub_end
                        · (repeat (first | exact True.intro | refine ⟨rfl, ?_⟩))
                  · refine jc_seq ?_
                    refine jc_seq ?_
                    refine jc_region ?_
                    refine jl_op ?_ (nb rfl)
                    refine ow_move rfl ?_
                    refine jl_op ?_ (nb rfl)
                    refine ow_move rfl ?_
                    refine jl_op ?_ (nb rfl)
                    refine ow_lenstr rfl rfl ?_
                    refine jl_op ?_ (nb rfl)
                    refine ow_lss rfl rfl ?_
                    refine jl_op ?_ (nb rfl)
                    refine ow_move rfl ?_
                    refine jl_guardN rfl (by first | assumption | exact decide_eq_true (by first | assumption | omega) | exact decide_eq_false (by first | assumption | omega) | with_reducible rfl | exact (rfl : false = !true) | exact (rfl : true = !false)) (nb rfl) ?_
                    refine jl_guardN rfl (by first | assumption | exact decide_eq_true (by first | assumption | omega) | exact decide_eq_false (by first | assumption | omega) | with_reducible rfl | exact (rfl : false = !true) | exact (rfl : true = !false)) (nb rfl) ?_
                    refine jl_guardN rfl (by first | assumption | exact decide_eq_true (by first | assumption | omega) | exact decide_eq_false (by first | assumption | omega) | with_reducible rfl | exact (rfl : false = !true) | exact (rfl : true = !false)) (nb rfl) ?_
                    refine jl_guardN rfl (by first | assumption | exact decide_eq_true (by first | assumption | omega) | exact decide_eq_false (by first | assumption | omega) | with_reducible rfl | exact (rfl : false = !true) | exact (rfl : true = !false)) (nb rfl) ?_
                    refine jl_op ?_ (nb rfl)
                    refine ow_pickF rfl (by first | assumption | exact decide_eq_true (by first | assumption | omega) | exact decide_eq_false (by first | assumption | omega) | with_reducible rfl | exact (rfl : false = !true) | exact (rfl : true = !false)) rfl ?_
                    refine jl_nil ?_
                    refine jq_then ?_
                    refine jc_cond rfl (fun h => by cases h) (fun _ => ?_)
                    have hjp : 0 < j := by omega
                    have hj : runLen isD (s.extract k s.size) = j := runLen_eq (fun i hi => by rw [byteAt_extract]; exact hall i hi) (by omega) (fun h => by omega)
                    have hdig := run_dig (s.extract k s.size)
                    rw [hj, extract_extract s k j (by omega)] at hdig
                    have hzz : (s.extract k (k + j)).size ≤ 1000000 := by rw [extract_size _ _ _ (by omega)]; omega
                    have hv := value_c (s.extract k (k + j)) hzz hdig
                    have hvb := numVal_bd _ hdig
                    have hnx : nextT (s.extract k s.size) = if 2147483647 < numVal (bytesI (s.extract k (k + j))) then ((0, 0, ⟨#[]⟩), 0) else ((2, numVal (bytesI (s.extract k (k + j))), ⟨#[]⟩), j) := by
                      unfold nextT
                      rw [if_neg (by omega), if_pos (by omega), hj, extract_extract s k j (by omega)]
                    by_cases hbig : 2147483648 ≤ numVal (bytesI (s.extract k (k + j)))
                    · rw [if_pos hbig] at hv
                      rw [if_pos (by omega)] at hnx
                      rw [hnx] at hsc
                      refine jc_exit ?_
                      refine jq_then_exit ?_
                      refine jq_then_exit ?_
                      refine jq_block_exit ?_
                      refine jq_then ?_
                      refine jc_seq ?_
                      refine jc_region ?_
                      refine jl_op ?_ (nb rfl)
                      refine ow_move rfl ?_
                      refine jl_op ?_ (nb rfl)
                      refine ow_move rfl ?_
                      refine jl_op ?_ (nb rfl)
                      refine ow_move rfl ?_
                      refine jl_op ?_ (nb rfl)
                      refine ow_substr rfl rfl rfl rfl (by omega) (by omega) (by omega) ?_
                      refine jl_op ?_ (nb rfl)
                      refine ow_call0 rfl (hv) ?_
                      refine jl_op ?_ (nb rfl)
                      refine ow_assign rfl ?_
                      refine jl_nil ?_
                      refine jq_then ?_
                      refine jc_seq ?_
                      refine jc_seq ?_
                      refine jc_region ?_
                      refine jl_op ?_ (nb rfl)
                      refine ow_move rfl ?_
                      refine jl_op ?_ (nb rfl)
                      refine ow_lss rfl rfl ?_
                      refine jl_nil ?_
                      refine jq_then ?_
                      refine jc_condd rfl (fun _ => ?_) (fun h => absurd (by decide) h)
                      refine jc_seq ?_
                      refine jc_region ?_
                      refine jl_op ?_ (nb rfl)
                      refine ow_move rfl ?_
                      refine jl_op ?_ (nb rfl)
                      refine ow_assign rfl ?_
                      refine jl_op ?_ (nb rfl)
                      refine ow_assign rfl ?_
                      refine jl_op ?_ (nb rfl)
                      refine ow_assign rfl ?_
                      refine jl_nil ?_
                      refine jq_then ?_
                      refine jc_ret ?_
                      refine jq_then_ret ?_
                      refine jq_block_ret ?_
                      refine jq_then_ret ?_
                      refine jq_block_ret ?_
                      refine jq_then_ret ?_
                      refine jq_block_ret ?_
                      refine jq_then_ret ?_
                      have e : scan s = ([], line, 1) := by rw [← hsc, dif_pos rfl]
                      refine jq_ownNil 23 4 (by omega) ?_
                      refine jq_freeze 2 0 rfl rfl (by rw [hc]; simp [Go.Vc.hb]) ?_
                      refine jq_ret3 rfl rfl rfl rfl (fun K h => by rw [e] at h; exact h) ?_
                      exact sub_end
                    · rw [if_neg hbig] at hv
                      rw [if_neg (by omega)] at hnx
                      rw [hnx] at hsc
                      dsimp only at hsc
                      rw [dif_neg (by omega)] at hsc
                      refine jc_exit ?_
                      refine jq_then_exit ?_
                      refine jq_then_exit ?_
                      refine jq_block_exit ?_
                      refine jq_then ?_
                      refine jc_seq ?_
                      refine jc_region ?_
                      refine jl_op ?_ (nb rfl)
                      refine ow_move rfl ?_
                      refine jl_op ?_ (nb rfl)
                      refine ow_move rfl ?_
                      refine jl_op ?_ (nb rfl)
                      refine ow_move rfl ?_
                      refine jl_op ?_ (nb rfl)
                      refine ow_substr rfl rfl rfl rfl (by omega) (by omega) (by omega) ?_
                      refine jl_op ?_ (nb rfl)
                      refine ow_call0 rfl (hv) ?_
                      refine jl_op ?_ (nb rfl)
                      refine ow_assign rfl ?_
                      refine jl_nil ?_
                      refine jq_then ?_
                      refine jc_seq ?_
                      refine jc_seq ?_
                      refine jc_region ?_
                      refine jl_op ?_ (nb rfl)
                      refine ow_move rfl ?_
                      refine jl_op ?_ (nb rfl)
                      refine ow_lss rfl rfl ?_
                      refine jl_nil ?_
                      refine jq_then ?_
                      refine jc_condd rfl (fun h => absurd h (by omega)) (fun _ => ?_)
                      refine jc_skip ?_
                      refine jq_then ?_
                      refine jc_region ?_
                      refine jl_op ?_ (nb rfl)
                      refine ow_move rfl ?_
                      refine jl_op ?_ (nb rfl)
                      refine ow_move rfl ?_
                      refine jl_op ?_ (nb rfl)
                      refine ow_move rfl ?_
                      refine jl_op ?_ (nb rfl)
                      refine ow_build rfl rfl rfl rfl rfl ?_
                      refine jl_op ?_ (nb rfl)
                      refine ow_buildSlice rfl rfl (nb rfl) rfl rfl (nb rfl) ?_
                      refine jl_op (ow_append1 0 ((⟨2, numVal (bytesI (s.extract k (k + j))), line, ⟨#[]⟩⟩ : Tok)) rfl rfl rfl rfl rfl rfl rfl (fun _ => rfl) (by show (_ + _) * 40 ≤ _; first | omega | (simp only [List.length_append]; omega)) (by first | omega | (simp only [List.length_append]; omega)) (fun v1 hv1 => ?_)) (nb rfl)
                      refine jl_op ?_ (nb rfl)
                      refine ow_assign rfl ?_
                      refine jl_nil ?_
                      refine jq_block ?_
                      refine jq_then ?_
                      refine jc_region ?_
                      refine jl_op ?_ (nb rfl)
                      refine ow_move rfl ?_
                      refine jl_op ?_ (nb rfl)
                      refine ow_assign rfl ?_
                      refine jl_nil ?_
                      refine jq_block ?_
                      refine jq_againS (i := (k, line, v, out)) (k + j, line, v1, out ++ [(⟨2, numVal (bytesI (s.extract k (k + j))), line, ⟨#[]⟩⟩ : Tok)]) ⟨hsc, by dsimp only; omega, hl1, by dsimp only; omega, by dsimp only; rw [List.length_append, List.length_singleton]; omega⟩ (by dsimp only; omega) ?_ ?_
                      · refine sub_step 0 rfl ?_
                        exact sub_end
                      · (repeat (first | exact True.intro | refine ⟨rfl, ?_⟩))
              · have hn0 : nameLen (s.extract k s.size) = 0 := by
                  unfold nameLen
                  rw [if_neg]
                  rintro ⟨_, h⟩
                  rw [byteAt_extract, Nat.add_zero, hL] at h
                  cases h
                have hr0 : runLen isD (s.extract k s.size) = 0 := runLen_eq (fun j hj => by omega) (Nat.zero_le _) (fun _ => by rw [byteAt_extract, Nat.add_zero]; exact hD)
                have hnx : nextT (s.extract k s.size) = ((3, 0, (s.extract k s.size).extract 0 (signLen (s.extract k s.size))), signLen (s.extract k s.size)) := by
                  unfold nextT
                  rw [if_neg (by omega), if_neg (by omega)]
                have hxs : (s.extract k s.size).size ≤ 1000000 := by omega
                refine jc_seq ?_
                refine jc_region ?_
                refine jl_op ?_ (nb rfl)
                refine ow_move rfl ?_
                refine jl_op ?_ (nb rfl)
                refine ow_move rfl ?_
                refine jl_op ?_ (nb rfl)
                refine ow_substrLo rfl rfl rfl (by omega) (by omega) ?_
                refine jl_op ?_ (nb rfl)
                refine ow_call0 rfl (rsign_c _ hxs) ?_
                refine jl_op ?_ (nb rfl)
                refine ow_assign rfl ?_
                refine jl_nil ?_
                refine jq_then ?_
                refine jc_seq ?_
                refine jc_seq ?_
                refine jc_region ?_
                refine jl_op ?_ (nb rfl)
                refine ow_move rfl ?_
                refine jl_op ?_ (nb rfl)
                refine ow_streql rfl rfl ?_
                refine jl_nil ?_
                refine jq_then ?_
                have hsl := signLen_le (s.extract k s.size)
                have hrs := rsign_eq (s.extract k s.size)
                have hrz : (rsign (s.extract k s.size)).size = signLen (s.extract k s.size) := by rw [hrs, extract_size _ _ _ hsl]; omega
                have e1 : rsign (s.extract (k : Int).toNat s.size) = rsign (s.extract k s.size) := rfl
                rw [hnx] at hsc
                dsimp only at hsc
                rw [e1]
                refine jc_condd rfl (fun h0 => ?_) (fun h0 => ?_)
                · refine jc_seq ?_
                  refine jc_region ?_
                  refine jl_op ?_ (nb rfl)
                  refine ow_move rfl ?_
                  refine jl_op ?_ (nb rfl)
                  refine ow_assign rfl ?_
                  refine jl_op ?_ (nb rfl)
                  refine ow_assign rfl ?_
                  refine jl_op ?_ (nb rfl)
                  refine ow_assign rfl ?_
                  refine jl_nil ?_
                  refine jq_then ?_
                  refine jc_ret ?_
                  refine jq_then_ret ?_
                  refine jq_block_ret ?_
                  refine jq_then_ret ?_
                  refine jq_block_ret ?_
                  refine jq_then_ret ?_
                  refine jq_block_ret ?_
                  refine jq_then_ret ?_
                  have e : scan s = ([], line, 1) := by rw [← hsc, dif_pos (by rw [← hrz]; exact (empty_iff _).1 h0)]
                  refine jq_ownNil 23 4 (by omega) ?_
                  refine jq_freeze 2 0 rfl rfl (by rw [hc]; simp [hb]) ?_
                  refine jq_ret3 rfl rfl rfl rfl (fun K h => by rw [e] at h; exact h) ?_
                  exact sub_end
                · have hz : ¬ signLen (s.extract k s.size) = 0 := by rw [← hrz]; exact fun h => h0 ((empty_iff _).2 h)
                  rw [dif_neg hz] at hsc
                  refine jc_skip ?_
                  refine jq_then ?_
                  refine jc_seq ?_
                  refine jc_region ?_
                  refine jl_op ?_ (nb rfl)
                  refine ow_move rfl ?_
                  refine jl_op ?_ (nb rfl)
                  refine ow_move rfl ?_
                  refine jl_op ?_ (nb rfl)
                  refine ow_lenstr rfl rfl ?_
                  refine jl_op ?_ (nb rfl)
                  refine ow_add64 rfl rfl (by omega) ?_
                  refine jl_op ?_ (nb rfl)
                  refine ow_assign rfl ?_
                  refine jl_nil ?_
                  refine jq_then ?_
                  refine jc_region ?_
                  refine jl_op ?_ (nb rfl)
                  refine ow_move rfl ?_
                  refine jl_op ?_ (nb rfl)
                  refine ow_move rfl ?_
                  refine jl_op ?_ (nb rfl)
                  refine ow_move rfl ?_
                  refine jl_op ?_ (nb rfl)
                  refine ow_build rfl rfl rfl rfl rfl ?_
                  refine jl_op ?_ (nb rfl)
                  refine ow_buildSlice rfl rfl (nb rfl) rfl rfl (nb rfl) ?_
                  refine jl_op (ow_append1 0 ((⟨3, 0, line, rsign (s.extract k s.size)⟩ : Tok)) rfl rfl rfl rfl rfl rfl rfl (fun _ => rfl) (by show (_ + _) * 40 ≤ _; first | omega | (simp only [List.length_append]; omega)) (by first | omega | (simp only [List.length_append]; omega)) (fun v1 hv1 => ?_)) (nb rfl)
                  refine jl_op ?_ (nb rfl)
                  refine ow_assign rfl ?_
                  refine jl_nil ?_
                  refine jq_block ?_
                  refine jq_then ?_
                  refine jc_region ?_
                  refine jl_op ?_ (nb rfl)
                  refine ow_move rfl ?_
                  refine jl_op ?_ (nb rfl)
                  refine ow_assign rfl ?_
                  refine jl_nil ?_
                  refine jq_block ?_
                  rw [← hrs] at hsc
                  refine jq_againS (i := (k, line, v, out)) (k + signLen (s.extract k s.size), line, v1, out ++ [(⟨3, 0, line, rsign (s.extract k s.size)⟩ : Tok)]) ⟨hsc, by dsimp only; omega, hl1, by dsimp only; omega, by dsimp only; rw [List.length_append, List.length_singleton]; omega⟩ (by dsimp only; omega) ?_ ?_
                  · refine sub_step 0 rfl ?_
                    exact sub_end
                  · rw [show ((k + signLen (s.extract k s.size) : Nat) : Int) = (k : Int) + ((rsign (s.extract k s.size)).size : Int) by omega]
                    (repeat (first | exact True.intro | refine ⟨rfl, ?_⟩))
      · refine jc_exit ?_
        refine jq_then_exit ?_
        refine jq_then_exit ?_
        refine jq_block_exit ?_
        refine jq_then ?_
        refine jc_seq ?_
        refine jc_region ?_
        refine jl_op ?_ (nb rfl)
        refine ow_move rfl ?_
        refine jl_op ?_ (nb rfl)
        refine ow_assign rfl ?_
        refine jl_op ?_ (nb rfl)
        refine ow_assign rfl ?_
        refine jl_op ?_ (nb rfl)
        refine ow_assign rfl ?_
        refine jl_nil ?_
        refine jq_then ?_
        refine jc_ret ?_
        have e : scan s = (out, 0, 0) := by rw [← hsc, scanGo, dif_neg (by omega)]
        refine jq_freeze 2 0 rfl rfl (by rw [hc]; simp [hb]) ?_
        refine jq_ret3 rfl rfl rfl rfl (fun K h => by rw [e] at h; exact h) ?_
        exact sub_end
end Go.Proofs.YtccojifhaoadbaaDoor
