import Derived.Test.YtjkkkjikhjfdnaaFa8
namespace Go.Proofs.Ytjkkkjikhjfdnaa
open Go.Vc
attribute [local irreducible] JL JC JQ OpWp Con ConN
attribute [local irreducible] isSmall isBlock
set_option maxHeartbeats 4000000

abbrev Ow1 (V : Value) (l : List Int) : Ch := .own V 3 1 (l.map Irow)
theorem in_c (n : Int) : Con Try.prog 44 [In .i64 n] [] (fun K => K (Bl (isSmall n)) []) := by
  unfold isSmall
  by_cases h : (-1048576 : Int) ≤ n
  · refine con_intro Try.func44 rfl rfl (Nat.le_of_ble_eq_true rfl) (fun c hc => ?_)
    refine jc_seq ?_
    refine jc_region ?_
    refine jl_op ?_ (nb rfl)
    refine ow_assign rfl ?_
    refine jl_nil ?_
    refine jq_then ?_
    refine jc_seq ?_
    refine jc_region ?_
    refine jl_op ?_ (nb rfl)
    refine ow_move rfl ?_
    refine jl_op ?_ (nb rfl)
    refine ow_geq rfl rfl ?_
    refine jl_op ?_ (nb rfl)
    refine ow_move rfl ?_
    refine jl_guardY rfl (by first | assumption | exact decide_eq_true rfl | exact decide_eq_true (by first | assumption | omega) | exact decide_eq_false (by first | assumption | omega) | with_reducible rfl | exact (rfl : false = !true) | exact (rfl : true = !false)) (nb rfl) ?_
    refine ow_move rfl ?_
    refine jl_guardY rfl (by first | assumption | exact decide_eq_true rfl | exact decide_eq_true (by first | assumption | omega) | exact decide_eq_false (by first | assumption | omega) | with_reducible rfl | exact (rfl : false = !true) | exact (rfl : true = !false)) (nb rfl) ?_
    refine ow_leq rfl rfl ?_
    refine jl_op ?_ (nb rfl)
    refine ow_pickT rfl (by first | assumption | exact decide_eq_true rfl | exact decide_eq_true (by first | assumption | omega) | exact decide_eq_false (by first | assumption | omega) | with_reducible rfl | exact (rfl : false = !true) | exact (rfl : true = !false)) rfl ?_
    refine jl_op ?_ (nb rfl)
    refine ow_assign rfl ?_
    refine jl_nil ?_
    refine jq_then ?_
    refine jc_ret ?_
    refine jq_ret1 rfl rfl [] rfl (fun K h' => by rw [show (decide (-1048576 ≤ n) && decide (n ≤ 1048576)) = decide (n ≤ 1048576) by simp [h]] at h'; exact h')
  · refine con_intro Try.func44 rfl rfl (Nat.le_of_ble_eq_true rfl) (fun c hc => ?_)
    refine jc_seq ?_
    refine jc_region ?_
    refine jl_op ?_ (nb rfl)
    refine ow_assign rfl ?_
    refine jl_nil ?_
    refine jq_then ?_
    refine jc_seq ?_
    refine jc_region ?_
    refine jl_op ?_ (nb rfl)
    refine ow_move rfl ?_
    refine jl_op ?_ (nb rfl)
    refine ow_geq rfl rfl ?_
    refine jl_op ?_ (nb rfl)
    refine ow_move rfl ?_
    refine jl_guardN rfl (by first | assumption | exact decide_eq_true rfl | exact decide_eq_true (by first | assumption | omega) | exact decide_eq_false (by first | assumption | omega) | with_reducible rfl | exact (rfl : false = !true) | exact (rfl : true = !false)) (nb rfl) ?_
    refine jl_guardN rfl (by first | assumption | exact decide_eq_true rfl | exact decide_eq_true (by first | assumption | omega) | exact decide_eq_false (by first | assumption | omega) | with_reducible rfl | exact (rfl : false = !true) | exact (rfl : true = !false)) (nb rfl) ?_
    refine jl_op ?_ (nb rfl)
    refine ow_pickF rfl (by first | assumption | exact decide_eq_true rfl | exact decide_eq_true (by first | assumption | omega) | exact decide_eq_false (by first | assumption | omega) | with_reducible rfl | exact (rfl : false = !true) | exact (rfl : true = !false)) rfl ?_
    refine jl_op ?_ (nb rfl)
    refine ow_assign rfl ?_
    refine jl_nil ?_
    refine jq_then ?_
    refine jc_ret ?_
    refine jq_ret1 rfl rfl [] rfl (fun K h' => by rw [show (decide (-1048576 ≤ n) && decide (n ≤ 1048576)) = false by simp [h]] at h'; exact h')

def cofs (l : List Tm) : List Int := (List.range 256).map (fun (i : Nat) => cof l (i : Int))
theorem cofs_len (l : List Tm) : (cofs l).length = 256 := by simp [cofs]
theorem cofs_at (l : List Tm) {i : Nat} (h : i < (cofs l).length) : (cofs l)[i] = cof l (i : Int) := by simp [cofs]
theorem cofs_snoc (l : List Tm) {t : Tm} (h : 0 ≤ t.1 ∧ t.1 < 256) : (cofs l).set t.1.toNat (cof l t.1 + t.2) = cofs (l ++ [t]) := by
  refine List.ext_getElem (by rw [List.length_set, cofs_len, cofs_len]) (fun i h1 h2 => ?_)
  rw [List.getElem_set, cofs_at, cofs_at, cof_append]
  simp only [cof]
  split
  · rename_i e
    subst e
    rw [show ((t.1.toNat : Nat) : Int) = t.1 by omega, if_pos rfl]
    omega
  · rename_i e
    rw [if_neg (by omega)]
    omega
theorem cofs_nil : cofs [] = List.replicate 256 0 := by
  refine List.ext_getElem (by rw [cofs_len, List.length_replicate]) (fun i h1 h2 => ?_)
  rw [cofs_at, List.getElem_replicate]
  rfl
def canonK (l : List Tm) (k : Nat) : List Tm := ((List.range k).map (fun (i : Nat) => ((i : Int), cof l i))).filter (fun t => !zeroT t)
theorem canonK_zero (l : List Tm) : canonK l 0 = [] := rfl
theorem canonK_succ (l : List Tm) (k : Nat) : canonK l (k + 1) = canonK l k ++ if cof l (k : Int) = 0 then [] else [((k : Int), cof l k)] := by
  unfold canonK
  rw [List.range_succ, List.map_append, List.filter_append]
  congr 1
  simp only [List.map_cons, List.map_nil]
  by_cases h : cof l (k : Int) = 0
  · rw [if_pos h, List.filter_cons_of_neg (by simp [zeroT, h]), List.filter_nil]
  · rw [if_neg h, List.filter_cons_of_pos (by simp [zeroT, h]), List.filter_nil]
theorem canonK_len (l : List Tm) : ∀ k, (canonK l k).length ≤ k := fun k => by
  unfold canonK
  refine Nat.le_trans (List.length_filter_le _ _) ?_
  simp

theorem ROf_c (l : List Tm) (most : Int) : Con Try.prog 25 [.cell (.list (l.map TR)), In .i64 most] [] (fun K => K (.tup [.row (FR (ofF l most).1), In .i64 (ofF l most).2]) []) := by
  have eL : (l.map TR).length = l.length := List.length_map _
  refine con_intro Try.func25 rfl rfl (Nat.le_of_ble_eq_true rfl) (fun c hc => ?_)
  refine jc_seq ?_
  refine jc_region ?_
  refine jl_op ?_ (nb rfl)
  refine ow_alloc rfl rfl (fun bl => ?_)
  refine jl_op ?_ (nb rfl)
  refine ow_assign rfl ?_
  refine jl_nil ?_
  refine jq_then ?_
  refine jc_seq ?_
  refine jc_seq ?_
  refine jc_region ?_
  refine jl_op ?_ (nb rfl)
  refine ow_move rfl ?_
  refine jl_op ?_ (nb rfl)
  refine ow_len rfl (fun hlen => ?_)
  refine jl_op ?_ (nb rfl)
  refine ow_gtr rfl rfl ?_
  refine jl_nil ?_
  refine jq_then ?_
  refine jc_condd rfl (fun hgt => ?_) (fun hle => ?_)
  · have e : ofF l most = (F0, 4) := by unfold ofF; rw [if_pos (by omega)]
    refine jc_seq ?_
    refine jc_region ?_
    refine jl_op ?_ (nb rfl)
    refine ow_build rfl rfl rfl rfl rfl ?_
    refine jl_op0 ?_
    refine ow_storeAll 0 rfl rfl rfl rfl rfl rfl ?_
    refine jl_op ?_ (nb rfl)
    refine ow_assign rfl ?_
    refine jl_nil ?_
    refine jq_then ?_
    refine jc_ret ?_
    refine jq_then_ret ?_
    refine jq_row 0 (FR F0) rfl (.cons .nil (.cons (.refl _) .nil)) ?_
    refine jq_retRowT rfl rfl rfl rfl rfl 0 rfl (fun K h => by rw [e] at h; exact h) ?_
    exact sub_end
  · cases hsm : isSmall most with
    | false =>
      have hsm' : (!isSmall most) = true := by rw [hsm]; rfl
      have e : ofF l most = (F0, 3) := by unfold ofF; rw [if_neg (by omega), hsm', Bool.true_or, if_pos rfl]
      refine jc_skip ?_
      refine jq_then ?_
      refine jc_seq ?_
      refine jc_seq ?_
      refine jc_region ?_
      refine jl_op ?_ (nb rfl)
      refine ow_move rfl ?_
      refine jl_op ?_ (nb rfl)
      refine ow_call0 rfl (in_c _) ?_
      refine jl_op ?_ (nb rfl)
      refine ow_not rfl ?_
      refine jl_nil ?_
      refine jq_then ?_
      refine jc_cond rfl (fun _ => ?_) (fun h => by rw [hsm'] at h; cases h)
      refine jc_seq ?_
      refine jc_region ?_
      refine jl_op ?_ (nb rfl)
      refine ow_build rfl rfl rfl rfl rfl ?_
      refine jl_op0 ?_
      refine ow_storeAll 0 rfl rfl rfl rfl rfl rfl ?_
      refine jl_op ?_ (nb rfl)
      refine ow_assign rfl ?_
      refine jl_nil ?_
      refine jq_then ?_
      refine jc_ret ?_
      refine jq_then_ret ?_
      refine jq_row 0 (FR F0) rfl (.cons .nil (.cons (.refl _) .nil)) ?_
      refine jq_retRowT rfl rfl rfl rfl rfl 0 rfl (fun K h => by rw [e] at h; exact h) ?_
      exact sub_end
    | true =>
      have hsm' : (!isSmall most) = false := by rw [hsm]; rfl
      have bad : l.any badT = true → ofF l most = (F0, 3) := fun h => by unfold ofF; rw [if_neg (by omega), h, Bool.or_true, if_pos rfl]
      refine jc_skip ?_
      refine jq_then ?_
      refine jc_seq ?_
      refine jc_seq ?_
      refine jc_region ?_
      refine jl_op ?_ (nb rfl)
      refine ow_move rfl ?_
      refine jl_op ?_ (nb rfl)
      refine ow_call0 rfl (in_c _) ?_
      refine jl_op ?_ (nb rfl)
      refine ow_not rfl ?_
      refine jl_nil ?_
      refine jq_then ?_
      refine jc_cond rfl (fun h => by rw [hsm'] at h; cases h) (fun _ => ?_)
      revert bl
      intro b4
      refine jc_skip ?_
      refine jq_then ?_
      refine jc_seq ?_
      refine jc_region ?_
      refine jl_op (ow_makeSliceOwn 256 rfl rfl rfl (by decide) rfl rfl (by decide) (by decide) (by decide) (fun V hV _ => ?_)) (nb rfl)
      refine jl_op ?_ (nb rfl)
      refine ow_assign rfl ?_
      refine jl_nil ?_
      refine jq_then ?_
      refine jc_seq ?_
      refine jc_seq ?_
      refine jc_region ?_
      refine jl_op ?_ (nb rfl)
      refine ow_assign rfl ?_
      refine jl_nil ?_
      refine jq_then ?_
      refine jc_block ?_
      refine jc_loopS (ι := Nat × List Int) [] (fun i => i.1 ≤ l.length ∧ i.2 = cofs (l.take i.1) ∧ (l.take i.1).any badT = false) (fun i => [(0, .cell (.list (l.map TR))), (1, In .i64 most), (4, .cell (.val (.pointer (some ⟨b4, 0, none⟩)))), (6, .cell (.val V)), (7, In .i64 (i.1 : Int))]) (fun i => [Ow1 V i.2, .blk b4 30 [.val (.slice none 0 0), .val (.int .i64 0)]]) (fun i => l.length - i.1) (0, List.replicate 256 0) ⟨Nat.zero_le _, by rw [List.take_zero, cofs_nil], by rw [List.take_zero]; rfl⟩ ?_ ?_ ?_
      · show Vc.Sub _ (.own V _ _ ((List.replicate 256 0).map Irow) :: _)
        rw [List.map_replicate]
        refine sub_step 0 rfl ?_
        refine sub_step 0 rfl ?_
        exact sub_end
      · (repeat (first | exact True.intro | refine ⟨rfl, ?_⟩))
      · rintro ⟨k, cs⟩ ⟨hk, hcs, hok⟩
        dsimp only at hk hcs hok ⊢
        have hcl : cs.length = 256 := by rw [hcs, cofs_len]
        refine jc_reset [(0, .cell (.list (l.map TR))), (1, In .i64 most), (4, .cell (.val (.pointer (some ⟨b4, 0, none⟩)))), (6, .cell (.val V)), (7, In .i64 (k : Int))] [Ow1 V cs, .blk b4 30 [.val (.slice none 0 0), .val (.int .i64 0)]] ?_ ⟨[0, 0], [], rfl⟩ ?_
        · (repeat (first | exact True.intro | refine ⟨rfl, ?_⟩))
        refine jc_seq ?_
        refine jc_seq ?_
        refine jc_region ?_
        refine jl_op ?_ (nb rfl)
        refine ow_move rfl ?_
        refine jl_op ?_ (nb rfl)
        refine ow_move rfl ?_
        refine jl_op ?_ (nb rfl)
        refine ow_len rfl (fun hlen => ?_)
        refine jl_op ?_ (nb rfl)
        refine ow_lss rfl rfl ?_
        refine jl_nil ?_
        refine jq_then ?_
        refine jc_condd rfl (fun hlt => ?_) (fun hge => ?_)
        · have hlt' : k < l.length := by omega
          have hmem : l[k] ∈ l := List.getElem_mem hlt'
          have isbad : badT l[k] = true → ofF l most = (F0, 3) := fun h => bad (List.any_eq_true.2 ⟨l[k], hmem, h⟩)
          by_cases h1 : l[k].1 < 0
          · have e := isbad (by unfold badT; rw [show isBlock l[k].1 = false from Bool.eq_false_iff.2 (fun h => by have := isBlock_iff.1 h; omega)]; rfl)
            refine jc_skip ?_
            refine jq_then ?_
            refine jc_seq ?_
            refine jc_block ?_
            refine jc_seq ?_
            refine jc_seq ?_
            refine jc_region ?_
            refine jl_op ?_ (nb rfl)
            refine ow_move rfl ?_
            refine jl_op ?_ (nb rfl)
            refine ow_move rfl ?_
            refine jl_op ?_ (nb rfl)
            refine ow_indexAddrMapE rfl rfl (by omega) rfl rfl (nb rfl) ?_
            refine jl_op ?_ (nb rfl)
            refine ow_fieldAddrPlace rfl rfl rfl (nb rfl) rfl (nb rfl) ?_
            refine jl_op ?_ (nb rfl)
            refine ow_loadPlace rfl rfl ?_
            refine jl_op ?_ (nb rfl)
            refine ow_lss rfl rfl ?_
            refine jl_op ?_ (nb rfl)
            refine ow_move rfl ?_
            refine jl_guardN rfl (by first | assumption | exact decide_eq_true rfl | exact decide_eq_true (by first | assumption | omega) | exact decide_eq_false (by first | assumption | omega) | with_reducible rfl | exact (rfl : false = !true) | exact (rfl : true = !false)) (nb rfl) ?_
            refine jl_guardN rfl (by first | assumption | exact decide_eq_true rfl | exact decide_eq_true (by first | assumption | omega) | exact decide_eq_false (by first | assumption | omega) | with_reducible rfl | exact (rfl : false = !true) | exact (rfl : true = !false)) (nb rfl) ?_
            refine jl_guardN rfl (by first | assumption | exact decide_eq_true rfl | exact decide_eq_true (by first | assumption | omega) | exact decide_eq_false (by first | assumption | omega) | with_reducible rfl | exact (rfl : false = !true) | exact (rfl : true = !false)) (nb rfl) ?_
            refine jl_guardN rfl (by first | assumption | exact decide_eq_true rfl | exact decide_eq_true (by first | assumption | omega) | exact decide_eq_false (by first | assumption | omega) | with_reducible rfl | exact (rfl : false = !true) | exact (rfl : true = !false)) (nb rfl) ?_
            refine jl_guardN rfl (by first | assumption | exact decide_eq_true rfl | exact decide_eq_true (by first | assumption | omega) | exact decide_eq_false (by first | assumption | omega) | with_reducible rfl | exact (rfl : false = !true) | exact (rfl : true = !false)) (nb rfl) ?_
            refine jl_guardN rfl (by first | assumption | exact decide_eq_true rfl | exact decide_eq_true (by first | assumption | omega) | exact decide_eq_false (by first | assumption | omega) | with_reducible rfl | exact (rfl : false = !true) | exact (rfl : true = !false)) (nb rfl) ?_
            refine jl_op ?_ (nb rfl)
            refine ow_pickT rfl (by first | assumption | exact decide_eq_true rfl | exact decide_eq_true (by first | assumption | omega) | exact decide_eq_false (by first | assumption | omega) | with_reducible rfl | exact (rfl : false = !true) | exact (rfl : true = !false)) rfl ?_
            refine jl_op ?_ (nb rfl)
            refine ow_move rfl ?_
            refine jl_guardN rfl (by first | assumption | exact decide_eq_true rfl | exact decide_eq_true (by first | assumption | omega) | exact decide_eq_false (by first | assumption | omega) | with_reducible rfl | exact (rfl : false = !true) | exact (rfl : true = !false)) (nb rfl) ?_
            refine jl_guardN rfl (by first | assumption | exact decide_eq_true rfl | exact decide_eq_true (by first | assumption | omega) | exact decide_eq_false (by first | assumption | omega) | with_reducible rfl | exact (rfl : false = !true) | exact (rfl : true = !false)) (nb rfl) ?_
            refine jl_guardN rfl (by first | assumption | exact decide_eq_true rfl | exact decide_eq_true (by first | assumption | omega) | exact decide_eq_false (by first | assumption | omega) | with_reducible rfl | exact (rfl : false = !true) | exact (rfl : true = !false)) (nb rfl) ?_
            refine jl_guardN rfl (by first | assumption | exact decide_eq_true rfl | exact decide_eq_true (by first | assumption | omega) | exact decide_eq_false (by first | assumption | omega) | with_reducible rfl | exact (rfl : false = !true) | exact (rfl : true = !false)) (nb rfl) ?_
            refine jl_guardN rfl (by first | assumption | exact decide_eq_true rfl | exact decide_eq_true (by first | assumption | omega) | exact decide_eq_false (by first | assumption | omega) | with_reducible rfl | exact (rfl : false = !true) | exact (rfl : true = !false)) (nb rfl) ?_
            refine jl_guardN rfl (by first | assumption | exact decide_eq_true rfl | exact decide_eq_true (by first | assumption | omega) | exact decide_eq_false (by first | assumption | omega) | with_reducible rfl | exact (rfl : false = !true) | exact (rfl : true = !false)) (nb rfl) ?_
            refine jl_guardN rfl (by first | assumption | exact decide_eq_true rfl | exact decide_eq_true (by first | assumption | omega) | exact decide_eq_false (by first | assumption | omega) | with_reducible rfl | exact (rfl : false = !true) | exact (rfl : true = !false)) (nb rfl) ?_
            refine jl_op ?_ (nb rfl)
            refine ow_pickT rfl (by first | assumption | exact decide_eq_true rfl | exact decide_eq_true (by first | assumption | omega) | exact decide_eq_false (by first | assumption | omega) | with_reducible rfl | exact (rfl : false = !true) | exact (rfl : true = !false)) rfl ?_
            refine jl_nil ?_
            refine jq_then ?_
            refine jc_cond rfl (fun _ => ?_) (fun h => by cases h)
            refine jc_seq ?_
            refine jc_region ?_
            refine jl_op ?_ (nb rfl)
            refine ow_build rfl rfl rfl rfl rfl ?_
            refine jl_op0 ?_
            refine ow_storeAll 1 rfl rfl rfl rfl rfl rfl ?_
            refine jl_op ?_ (nb rfl)
            refine ow_assign rfl ?_
            refine jl_nil ?_
            refine jq_then ?_
            refine jc_ret ?_
            refine jq_then_ret ?_
            refine jq_block_ret ?_
            refine jq_then_ret ?_
            refine jq_then_ret ?_
            refine jq_block_ret ?_
            refine jq_then_ret ?_
            refine jq_row 0 (FR F0) rfl (.cons .nil (.cons (.refl _) .nil)) ?_
            refine jq_retRowT rfl rfl rfl rfl rfl 0 rfl (fun K h => by rw [e] at h; exact h) ?_
            exact sub_end
          · by_cases h2 : 255 < l[k].1
            · have e := isbad (by unfold badT; rw [show isBlock l[k].1 = false from Bool.eq_false_iff.2 (fun h => by have := isBlock_iff.1 h; omega)]; rfl)
              refine jc_skip ?_
              refine jq_then ?_
              refine jc_seq ?_
              refine jc_block ?_
              refine jc_seq ?_
              refine jc_seq ?_
              refine jc_region ?_
              refine jl_op ?_ (nb rfl)
              refine ow_move rfl ?_
              refine jl_op ?_ (nb rfl)
              refine ow_move rfl ?_
              refine jl_op ?_ (nb rfl)
              refine ow_indexAddrMapE rfl rfl (by omega) rfl rfl (nb rfl) ?_
              refine jl_op ?_ (nb rfl)
              refine ow_fieldAddrPlace rfl rfl rfl (nb rfl) rfl (nb rfl) ?_
              refine jl_op ?_ (nb rfl)
              refine ow_loadPlace rfl rfl ?_
              refine jl_op ?_ (nb rfl)
              refine ow_lss rfl rfl ?_
              refine jl_op ?_ (nb rfl)
              refine ow_move rfl ?_
              refine jl_guardY rfl (by first | assumption | exact decide_eq_true rfl | exact decide_eq_true (by first | assumption | omega) | exact decide_eq_false (by first | assumption | omega) | with_reducible rfl | exact (rfl : false = !true) | exact (rfl : true = !false)) (nb rfl) ?_
              refine ow_move rfl ?_
              refine jl_guardY rfl (by first | assumption | exact decide_eq_true rfl | exact decide_eq_true (by first | assumption | omega) | exact decide_eq_false (by first | assumption | omega) | with_reducible rfl | exact (rfl : false = !true) | exact (rfl : true = !false)) (nb rfl) ?_
              refine ow_move rfl ?_
              refine jl_guardY rfl (by first | assumption | exact decide_eq_true rfl | exact decide_eq_true (by first | assumption | omega) | exact decide_eq_false (by first | assumption | omega) | with_reducible rfl | exact (rfl : false = !true) | exact (rfl : true = !false)) (nb rfl) ?_
              refine ow_indexAddrMapE rfl rfl (by omega) rfl rfl (nb rfl) ?_
              refine jl_guardY rfl (by first | assumption | exact decide_eq_true rfl | exact decide_eq_true (by first | assumption | omega) | exact decide_eq_false (by first | assumption | omega) | with_reducible rfl | exact (rfl : false = !true) | exact (rfl : true = !false)) (nb rfl) ?_
              refine ow_fieldAddrPlace rfl rfl rfl (nb rfl) rfl (nb rfl) ?_
              refine jl_guardY rfl (by first | assumption | exact decide_eq_true rfl | exact decide_eq_true (by first | assumption | omega) | exact decide_eq_false (by first | assumption | omega) | with_reducible rfl | exact (rfl : false = !true) | exact (rfl : true = !false)) (nb rfl) ?_
              refine ow_loadPlace rfl rfl ?_
              refine jl_guardY rfl (by first | assumption | exact decide_eq_true rfl | exact decide_eq_true (by first | assumption | omega) | exact decide_eq_false (by first | assumption | omega) | with_reducible rfl | exact (rfl : false = !true) | exact (rfl : true = !false)) (nb rfl) ?_
              refine ow_gtr rfl rfl ?_
              refine jl_op ?_ (nb rfl)
              refine ow_pickF rfl (by first | assumption | exact decide_eq_true rfl | exact decide_eq_true (by first | assumption | omega) | exact decide_eq_false (by first | assumption | omega) | with_reducible rfl | exact (rfl : false = !true) | exact (rfl : true = !false)) rfl ?_
              refine jl_op ?_ (nb rfl)
              refine ow_move rfl ?_
              refine jl_guardN rfl (by first | assumption | exact decide_eq_true rfl | exact decide_eq_true (by first | assumption | omega) | exact decide_eq_false (by first | assumption | omega) | with_reducible rfl | exact (rfl : false = !true) | exact (rfl : true = !false)) (nb rfl) ?_
              refine jl_guardN rfl (by first | assumption | exact decide_eq_true rfl | exact decide_eq_true (by first | assumption | omega) | exact decide_eq_false (by first | assumption | omega) | with_reducible rfl | exact (rfl : false = !true) | exact (rfl : true = !false)) (nb rfl) ?_
              refine jl_guardN rfl (by first | assumption | exact decide_eq_true rfl | exact decide_eq_true (by first | assumption | omega) | exact decide_eq_false (by first | assumption | omega) | with_reducible rfl | exact (rfl : false = !true) | exact (rfl : true = !false)) (nb rfl) ?_
              refine jl_guardN rfl (by first | assumption | exact decide_eq_true rfl | exact decide_eq_true (by first | assumption | omega) | exact decide_eq_false (by first | assumption | omega) | with_reducible rfl | exact (rfl : false = !true) | exact (rfl : true = !false)) (nb rfl) ?_
              refine jl_guardN rfl (by first | assumption | exact decide_eq_true rfl | exact decide_eq_true (by first | assumption | omega) | exact decide_eq_false (by first | assumption | omega) | with_reducible rfl | exact (rfl : false = !true) | exact (rfl : true = !false)) (nb rfl) ?_
              refine jl_guardN rfl (by first | assumption | exact decide_eq_true rfl | exact decide_eq_true (by first | assumption | omega) | exact decide_eq_false (by first | assumption | omega) | with_reducible rfl | exact (rfl : false = !true) | exact (rfl : true = !false)) (nb rfl) ?_
              refine jl_guardN rfl (by first | assumption | exact decide_eq_true rfl | exact decide_eq_true (by first | assumption | omega) | exact decide_eq_false (by first | assumption | omega) | with_reducible rfl | exact (rfl : false = !true) | exact (rfl : true = !false)) (nb rfl) ?_
              refine jl_op ?_ (nb rfl)
              refine ow_pickT rfl (by first | assumption | exact decide_eq_true rfl | exact decide_eq_true (by first | assumption | omega) | exact decide_eq_false (by first | assumption | omega) | with_reducible rfl | exact (rfl : false = !true) | exact (rfl : true = !false)) rfl ?_
              refine jl_nil ?_
              refine jq_then ?_
              refine jc_cond rfl (fun _ => ?_) (fun h => by cases h)
              refine jc_seq ?_
              refine jc_region ?_
              refine jl_op ?_ (nb rfl)
              refine ow_build rfl rfl rfl rfl rfl ?_
              refine jl_op0 ?_
              refine ow_storeAll 1 rfl rfl rfl rfl rfl rfl ?_
              refine jl_op ?_ (nb rfl)
              refine ow_assign rfl ?_
              refine jl_nil ?_
              refine jq_then ?_
              refine jc_ret ?_
              refine jq_then_ret ?_
              refine jq_block_ret ?_
              refine jq_then_ret ?_
              refine jq_then_ret ?_
              refine jq_block_ret ?_
              refine jq_then_ret ?_
              refine jq_row 0 (FR F0) rfl (.cons .nil (.cons (.refl _) .nil)) ?_
              refine jq_retRowT rfl rfl rfl rfl rfl 0 rfl (fun K h => by rw [e] at h; exact h) ?_
              exact sub_end
            · have hblk : isBlock l[k].1 = true := isBlock_iff.2 (by omega)
              refine jc_skip ?_
              refine jq_then ?_
              refine jc_seq ?_
              refine jc_block ?_
              refine jc_seq ?_
              refine jc_seq ?_
              refine jc_region ?_
              refine jl_op ?_ (nb rfl)
              refine ow_move rfl ?_
              refine jl_op ?_ (nb rfl)
              refine ow_move rfl ?_
              refine jl_op ?_ (nb rfl)
              refine ow_indexAddrMapE rfl rfl (by omega) rfl rfl (nb rfl) ?_
              refine jl_op ?_ (nb rfl)
              refine ow_fieldAddrPlace rfl rfl rfl (nb rfl) rfl (nb rfl) ?_
              refine jl_op ?_ (nb rfl)
              refine ow_loadPlace rfl rfl ?_
              refine jl_op ?_ (nb rfl)
              refine ow_lss rfl rfl ?_
              refine jl_op ?_ (nb rfl)
              refine ow_move rfl ?_
              refine jl_guardY rfl (by first | assumption | exact decide_eq_true rfl | exact decide_eq_true (by first | assumption | omega) | exact decide_eq_false (by first | assumption | omega) | with_reducible rfl | exact (rfl : false = !true) | exact (rfl : true = !false)) (nb rfl) ?_
              refine ow_move rfl ?_
              refine jl_guardY rfl (by first | assumption | exact decide_eq_true rfl | exact decide_eq_true (by first | assumption | omega) | exact decide_eq_false (by first | assumption | omega) | with_reducible rfl | exact (rfl : false = !true) | exact (rfl : true = !false)) (nb rfl) ?_
              refine ow_move rfl ?_
              refine jl_guardY rfl (by first | assumption | exact decide_eq_true rfl | exact decide_eq_true (by first | assumption | omega) | exact decide_eq_false (by first | assumption | omega) | with_reducible rfl | exact (rfl : false = !true) | exact (rfl : true = !false)) (nb rfl) ?_
              refine ow_indexAddrMapE rfl rfl (by omega) rfl rfl (nb rfl) ?_
              refine jl_guardY rfl (by first | assumption | exact decide_eq_true rfl | exact decide_eq_true (by first | assumption | omega) | exact decide_eq_false (by first | assumption | omega) | with_reducible rfl | exact (rfl : false = !true) | exact (rfl : true = !false)) (nb rfl) ?_
              refine ow_fieldAddrPlace rfl rfl rfl (nb rfl) rfl (nb rfl) ?_
              refine jl_guardY rfl (by first | assumption | exact decide_eq_true rfl | exact decide_eq_true (by first | assumption | omega) | exact decide_eq_false (by first | assumption | omega) | with_reducible rfl | exact (rfl : false = !true) | exact (rfl : true = !false)) (nb rfl) ?_
              refine ow_loadPlace rfl rfl ?_
              refine jl_guardY rfl (by first | assumption | exact decide_eq_true rfl | exact decide_eq_true (by first | assumption | omega) | exact decide_eq_false (by first | assumption | omega) | with_reducible rfl | exact (rfl : false = !true) | exact (rfl : true = !false)) (nb rfl) ?_
              refine ow_gtr rfl rfl ?_
              refine jl_op ?_ (nb rfl)
              refine ow_pickF rfl (by first | assumption | exact decide_eq_true rfl | exact decide_eq_true (by first | assumption | omega) | exact decide_eq_false (by first | assumption | omega) | with_reducible rfl | exact (rfl : false = !true) | exact (rfl : true = !false)) rfl ?_
              refine jl_op ?_ (nb rfl)
              refine ow_move rfl ?_
              refine jl_guardY rfl (by first | assumption | exact decide_eq_true rfl | exact decide_eq_true (by first | assumption | omega) | exact decide_eq_false (by first | assumption | omega) | with_reducible rfl | exact (rfl : false = !true) | exact (rfl : true = !false)) (nb rfl) ?_
              refine ow_move rfl ?_
              refine jl_guardY rfl (by first | assumption | exact decide_eq_true rfl | exact decide_eq_true (by first | assumption | omega) | exact decide_eq_false (by first | assumption | omega) | with_reducible rfl | exact (rfl : false = !true) | exact (rfl : true = !false)) (nb rfl) ?_
              refine ow_move rfl ?_
              refine jl_guardY rfl (by first | assumption | exact decide_eq_true rfl | exact decide_eq_true (by first | assumption | omega) | exact decide_eq_false (by first | assumption | omega) | with_reducible rfl | exact (rfl : false = !true) | exact (rfl : true = !false)) (nb rfl) ?_
              refine ow_indexAddrMapE rfl rfl (by omega) rfl rfl (nb rfl) ?_
              refine jl_guardY rfl (by first | assumption | exact decide_eq_true rfl | exact decide_eq_true (by first | assumption | omega) | exact decide_eq_false (by first | assumption | omega) | with_reducible rfl | exact (rfl : false = !true) | exact (rfl : true = !false)) (nb rfl) ?_
              refine ow_fieldAddrPlace rfl rfl rfl (nb rfl) rfl (nb rfl) ?_
              refine jl_guardY rfl (by first | assumption | exact decide_eq_true rfl | exact decide_eq_true (by first | assumption | omega) | exact decide_eq_false (by first | assumption | omega) | with_reducible rfl | exact (rfl : false = !true) | exact (rfl : true = !false)) (nb rfl) ?_
              refine ow_loadPlace rfl rfl ?_
              refine jl_guardY rfl (by first | assumption | exact decide_eq_true rfl | exact decide_eq_true (by first | assumption | omega) | exact decide_eq_false (by first | assumption | omega) | with_reducible rfl | exact (rfl : false = !true) | exact (rfl : true = !false)) (nb rfl) ?_
              refine ow_call0 rfl (in_c _) ?_
              refine jl_guardY rfl (by first | assumption | exact decide_eq_true rfl | exact decide_eq_true (by first | assumption | omega) | exact decide_eq_false (by first | assumption | omega) | with_reducible rfl | exact (rfl : false = !true) | exact (rfl : true = !false)) (nb rfl) ?_
              refine ow_not rfl ?_
              refine jl_op ?_ (nb rfl)
              refine ow_pickF rfl (by first | assumption | exact decide_eq_true rfl | exact decide_eq_true (by first | assumption | omega) | exact decide_eq_false (by first | assumption | omega) | with_reducible rfl | exact (rfl : false = !true) | exact (rfl : true = !false)) rfl ?_
              refine jl_nil ?_
              refine jq_then ?_
              refine jc_cond rfl (fun hb3 => ?_) (fun hb3 => ?_)
              · have e := isbad (by unfold badT; rw [hb3, Bool.or_true])
                refine jc_seq ?_
                refine jc_region ?_
                refine jl_op ?_ (nb rfl)
                refine ow_build rfl rfl rfl rfl rfl ?_
                refine jl_op0 ?_
                refine ow_storeAll 1 rfl rfl rfl rfl rfl rfl ?_
                refine jl_op ?_ (nb rfl)
                refine ow_assign rfl ?_
                refine jl_nil ?_
                refine jq_then ?_
                refine jc_ret ?_
                refine jq_then_ret ?_
                refine jq_block_ret ?_
                refine jq_then_ret ?_
                refine jq_then_ret ?_
                refine jq_block_ret ?_
                refine jq_then_ret ?_
                refine jq_row 0 (FR F0) rfl (.cons .nil (.cons (.refl _) .nil)) ?_
                refine jq_retRowT rfl rfl rfl rfl rfl 0 rfl (fun K h => by rw [e] at h; exact h) ?_
                exact sub_end
              · have hgood : badT l[k] = false := by unfold badT; rw [hblk, hb3]; rfl
                have hp := okB_parts hgood
                have hix : l[k].1.toNat < cs.length := by omega
                have hbd : -1073741824 ≤ cs[l[k].1.toNat] ∧ cs[l[k].1.toNat] ≤ 1073741824 := by
                  have h := cof_bd (l := l.take k) (B := 1048576) (by omega) (fun t ht => (okB_parts (by simpa using List.any_eq_false.1 hok t ht)).2) l[k].1
                  have e : cs[l[k].1.toNat] = cof (l.take k) l[k].1 := by
                    subst hcs
                    rw [cofs_at, show ((l[k].1.toNat : Nat) : Int) = l[k].1 by omega]
                  rw [List.length_take] at h
                  omega
                have estep : cs.set l[k].1.toNat (cs[l[k].1.toNat] + l[k].2) = cofs (l.take (k + 1)) := by
                  rw [List.take_succ_eq_append_getElem hlt', ← cofs_snoc _ hp.1]
                  subst hcs
                  rw [cofs_at, show ((l[k].1.toNat : Nat) : Int) = l[k].1 by omega]
                have hix1 : l[k].1.toNat * 1 < cs.length := by omega
                have em : cs[l[k].1.toNat * 1] = cs[l[k].1.toNat] := by congr 1; omega
                rw [← em] at hbd estep
                refine jc_skip ?_
                refine jq_then ?_
                refine jc_anyB 21 none rfl (by kernel_rfl) (by kernel_rfl) ?_
                refine any_op (fun c => ow_move rfl ⟨rfl, List.Perm.refl _⟩) ?_
                refine any_op (fun c => ow_move rfl ⟨rfl, List.Perm.refl _⟩) ?_
                refine any_op (fun c => ow_move rfl ⟨rfl, List.Perm.refl _⟩) ?_
                refine any_op (fun c => ow_indexAddrMapE rfl rfl (by omega) rfl rfl (nb rfl) ⟨rfl, List.Perm.refl _⟩) ?_
                refine any_op (fun c => ow_fieldAddrPlace rfl rfl rfl (nb rfl) rfl (nb rfl) ⟨rfl, List.Perm.refl _⟩) ?_
                refine any_op (fun c => ow_loadPlace rfl rfl ⟨rfl, List.Perm.refl _⟩) ?_
                refine any_op (fun c => ow_move rfl ⟨rfl, List.Perm.refl _⟩) ?_
                refine any_op (fun c => ow_move rfl ⟨rfl, List.Perm.refl _⟩) ?_
                refine any_op (fun c => ow_move rfl ⟨rfl, List.Perm.refl _⟩) ?_
                refine any_op (fun c => ow_indexAddrMapE rfl rfl (by omega) rfl rfl (nb rfl) ⟨rfl, List.Perm.refl _⟩) ?_
                refine any_op (fun c => ow_fieldAddrPlace rfl rfl rfl (nb rfl) rfl (nb rfl) ⟨rfl, List.Perm.refl _⟩) ?_
                refine any_op (fun c => ow_loadPlace rfl rfl ⟨rfl, List.Perm.refl _⟩) ?_
                refine any_op (fun c => ow_indexOwn 0 rfl rfl rfl (by omega) (by simp only [List.length_map]; omega) rfl ⟨rfl, List.Perm.refl _⟩) ?_
                refine any_op (fun c => ow_loadInn1 0 rfl rfl rfl (by omega) rfl ⟨rfl, List.Perm.refl _⟩) ?_
                refine any_op (fun c => ow_move rfl ⟨rfl, List.Perm.refl _⟩) ?_
                refine any_op (fun c => ow_move rfl ⟨rfl, List.Perm.refl _⟩) ?_
                refine any_op (fun c => ow_indexAddrMapE rfl rfl (by omega) rfl rfl (nb rfl) ⟨rfl, List.Perm.refl _⟩) ?_
                refine any_op (fun c => ow_fieldAddrPlace rfl rfl rfl (nb rfl) rfl (nb rfl) ⟨rfl, List.Perm.refl _⟩) ?_
                refine any_op (fun c => ow_loadPlace rfl rfl ⟨rfl, List.Perm.refl _⟩) ?_
                refine any_op (fun c => ow_add64 rfl rfl (by omega) ⟨rfl, List.Perm.refl _⟩) ?_
                refine any_op (fun c => ow_indexOwn 0 rfl rfl rfl (by omega) (by simp only [List.length_map]; omega) rfl ⟨rfl, List.Perm.refl _⟩) ?_
                refine any_nil ?_
                refine afin_none ?_
                skip
                refine jl_op0 (ow_storeInnAll 0 l[k].1.toNat rfl rfl rfl rfl rfl (by rw [List.getElem?_map, List.getElem?_eq_getElem hix]; rfl) rfl rfl rfl ?_)
                refine jl_nil ?_
                refine jq_block ?_
                refine jq_then ?_
                refine jc_region ?_
                refine jl_op ?_ (nb rfl)
                refine ow_move rfl ?_
                refine jl_op ?_ (nb rfl)
                refine ow_add64 rfl rfl (by omega) ?_
                refine jl_op ?_ (nb rfl)
                refine ow_assign rfl ?_
                refine jl_nil ?_
                refine jq_againS (i := (k, cs)) (k + 1, cs.set l[k].1.toNat (cs[l[k].1.toNat * 1] + l[k].2)) ⟨by dsimp only; omega, estep, ?_⟩ (by dsimp only; omega) ?_ ?_
                · dsimp only
                  rw [List.take_succ_eq_append_getElem hlt', List.any_append, hok]
                  simp only [List.any_cons, List.any_nil, Bool.or_false, Bool.false_or]
                  exact hgood
                · dsimp only
                  rw [show Ow1 V (cs.set l[k].1.toNat (cs[l[k].1.toNat * 1] + l[k].2)) = .own V 3 1 ((cs.map Irow).set l[k].1.toNat (Irow (cs[l[k].1.toNat * 1] + l[k].2))) by rw [← List.map_set]]
                  refine sub_step 0 rfl ?_
                  refine sub_step 0 rfl ?_
                  exact sub_end
                · (repeat (first | exact True.intro | refine ⟨rfl, ?_⟩))
        · obtain rfl : k = l.length := by omega
          rw [List.take_length] at hok hcs
          have hat : ∀ (i : Nat) (h : i < cs.length), cs[i] = cof l (i : Int) := fun i h => by subst hcs; rw [cofs_at]
          have hbd : ∀ (i : Nat) (h : i < cs.length), -1073741824 ≤ cs[i] ∧ cs[i] ≤ 1073741824 := fun i h => by
            have h2 := cof_bd (l := l) (B := 1048576) (by omega) (fun t ht => (okB_parts (by simpa using List.any_eq_false.1 hok t ht)).2) (i : Int)
            rw [hat]
            omega
          clear hcs
          refine jc_exit ?_
          refine jq_then_exit ?_
          refine jq_then_exit ?_
          refine jq_block_exit ?_
          refine jq_then ?_
          refine jc_seq ?_
          refine jc_region ?_
          refine jl_op ?_ (nb rfl)
          refine ow_move rfl ?_
          refine jl_op ?_ (nb rfl)
          refine ow_build rfl rfl rfl rfl rfl ?_
          refine jl_op ?_ (nb rfl)
          refine ow_alloc rfl rfl (fun bl => ?_)
          refine jl_op0 ?_
          refine ow_storeAll 0 rfl rfl rfl rfl rfl rfl ?_
          refine jl_nil ?_
          refine jq_then ?_
          refine jc_seq ?_
          refine jc_region ?_
          refine jl_op ?_ (nb rfl)
          refine ow_assign rfl ?_
          refine jl_nil ?_
          refine jq_then ?_
          refine jc_seq ?_
          refine jc_seq ?_
          refine jc_region ?_
          refine jl_op ?_ (nb rfl)
          refine ow_assign rfl ?_
          refine jl_nil ?_
          refine jq_then ?_
          refine jc_block ?_
          refine jc_ownNil 44 2 (by omega) ?_
          refine jc_loopS (ι := Nat × Value) [] (fun i => i.1 ≤ 256 ∧ i.2.oneCell' = true ∧ c.Fresh i.2) (fun i => [(4, .cell (.val (.pointer (some ⟨b4, 0, none⟩)))), (6, .cell (.val V)), (8, .cell (.val (.pointer (some ⟨bl, 0, none⟩)))), (9, Bl (!(canonK l i.1).any bigT)), (10, In .i64 (i.1 : Int))]) (fun i => [Ow i.2 (canonK l i.1), .blk bl 30 [.val i.2, .val (.int .i64 most)], Ow1 V cs, .blk b4 30 [.val (.slice none 0 0), .val (.int .i64 0)]]) (fun i => 256 - i.1) (0, .slice none 0 0) ⟨by dsimp only; omega, rfl, fresh_nil⟩ ?_ ?_ ?_
          · show Vc.Sub _ (Ow _ (canonK l 0) :: _)
            rw [canonK_zero]
            refine sub_step 0 rfl ?_
            refine sub_step 0 rfl ?_
            refine sub_step 0 rfl ?_
            refine sub_step 0 rfl ?_
            exact sub_end
          · (repeat (first | exact True.intro | refine ⟨rfl, ?_⟩))
          · rintro ⟨j, W⟩ ⟨hj, hW, hF⟩
            dsimp only at hj hW hF ⊢
            refine jc_reset [(4, .cell (.val (.pointer (some ⟨b4, 0, none⟩)))), (6, .cell (.val V)), (8, .cell (.val (.pointer (some ⟨bl, 0, none⟩)))), (9, Bl (!(canonK l j).any bigT)), (10, In .i64 (j : Int))] [Ow W (canonK l j), .blk bl 30 [.val W, .val (.int .i64 most)], Ow1 V cs, .blk b4 30 [.val (.slice none 0 0), .val (.int .i64 0)]] ?_ ⟨[0, 0, 0, 0], [], rfl⟩ ?_
            · (repeat (first | exact True.intro | refine ⟨rfl, ?_⟩))
            have hcj := canonK_len l j
            have eC : ((canonK l j).map TR).length = (canonK l j).length := List.length_map _
            refine jc_seq ?_
            refine jc_seq ?_
            refine jc_region ?_
            refine jl_op ?_ (nb rfl)
            refine ow_move rfl ?_
            refine jl_op ?_ (nb rfl)
            refine ow_lss rfl rfl ?_
            refine jl_nil ?_
            refine jq_then ?_
            refine jc_condd rfl (fun hlt => ?_) (fun hge => ?_)
            · have hj' : j < cs.length := by omega
              have hj1 : ((j : Int)).toNat * 1 < cs.length := by omega
              have ej : cs[((j : Int)).toNat * 1] = cof l (j : Int) := by rw [hat]; congr 1; omega
              have hbj := hbd (((j : Int)).toNat * 1) hj1
              have estep := canonK_succ l j
              refine jc_skip ?_
              refine jq_then ?_
              refine jc_seq ?_
              refine jc_block ?_
              refine jc_seq ?_
              refine jc_region ?_
              refine jl_op ?_ (nb rfl)
              refine ow_move rfl ?_
              refine jl_op ?_ (nb rfl)
              refine ow_move rfl ?_
              refine jl_op ?_ (nb rfl)
              refine ow_indexOwn 2 rfl rfl rfl (by omega) (by simp only [List.length_map]; omega) rfl ?_
              refine jl_op ?_ (nb rfl)
              refine ow_loadInn1 2 rfl rfl rfl (by omega) rfl ?_
              refine jl_op ?_ (nb rfl)
              refine ow_neq rfl rfl ?_
              refine jl_nil ?_
              refine jq_then ?_
              refine jc_condd rfl (fun hne => ?_) (fun heq => ?_)
              · rw [if_neg (by rw [← ej]; exact hne), ← ej] at estep
                have e9 : (!(canonK l (j + 1)).any bigT) = (!(canonK l j).any bigT && isSmall cs[((j : Int)).toNat * 1]) := by
                  rw [estep, List.any_append]
                  simp only [List.any_cons, List.any_nil, Bool.or_false, Bool.not_or]
                  unfold bigT
                  simp only [Bool.not_not]
                refine jc_seq ?_
                refine jc_anyB 9 none rfl (by kernel_rfl) (by kernel_rfl) ?_
                refine any_op (fun c => ow_fieldAddr rfl rfl rfl (nb rfl) ⟨rfl, List.Perm.refl _⟩) ?_
                refine any_op (fun c => ow_load 1 rfl rfl rfl rfl ⟨rfl, List.Perm.refl _⟩) ?_
                refine any_op (fun c => ow_move rfl ⟨rfl, List.Perm.refl _⟩) ?_
                refine any_op (fun c => ow_move rfl ⟨rfl, List.Perm.refl _⟩) ?_
                refine any_op (fun c => ow_move rfl ⟨rfl, List.Perm.refl _⟩) ?_
                refine any_op (fun c => ow_indexOwn 2 rfl rfl rfl (by omega) (by simp only [List.length_map]; omega) rfl ⟨rfl, List.Perm.refl _⟩) ?_
                refine any_op (fun c => ow_loadInn1 2 rfl rfl rfl (by omega) rfl ⟨rfl, List.Perm.refl _⟩) ?_
                refine any_op (fun c => ow_build rfl rfl rfl rfl rfl ⟨rfl, List.Perm.refl _⟩) ?_
                refine any_op (fun c => ow_buildSlice rfl rfl (nb rfl) rfl rfl (nb rfl) ⟨rfl, List.Perm.refl _⟩) ?_
                refine any_nil ?_
                refine afin_none ?_
                skip
                refine jl_op (ow_append1F 0 (((j : Int), cs[((j : Int)).toNat * 1])) rfl rfl rfl rfl rfl rfl rfl (fun _ => rfl) (by show (_ + _) * 16 ≤ _; first | omega | (simp only [List.length_append]; omega)) (by first | omega | (simp only [List.length_append]; omega)) (fun W2 hW2 fW2 => ?_)) (nb rfl)
                cases hr : (canonK l j).any bigT with
                | true =>
                  have hr1 : (!(canonK l j).any bigT) = false := by rw [hr]; rfl
                  rw [hr, Bool.not_true, Bool.false_and] at e9
                  refine jl_op ?_ (nb rfl)
                  refine ow_fieldAddr rfl rfl rfl (nb rfl) ?_
                  refine jl_op0 ?_
                  refine ow_store1 1 rfl rfl rfl rfl (nb rfl) ?_
                  refine jl_nil ?_
                  refine jq_then ?_
                  refine jc_region ?_
                  refine jl_op ?_ (nb rfl)
                  refine ow_move rfl ?_
                  refine jl_op ?_ (nb rfl)
                  refine ow_move rfl ?_
                  refine jl_guardN rfl (by first | assumption | exact decide_eq_true rfl | exact decide_eq_true (by first | assumption | omega) | exact decide_eq_false (by first | assumption | omega) | with_reducible rfl | exact (rfl : false = !true) | exact (rfl : true = !false)) (nb rfl) ?_
                  refine jl_guardN rfl (by first | assumption | exact decide_eq_true rfl | exact decide_eq_true (by first | assumption | omega) | exact decide_eq_false (by first | assumption | omega) | with_reducible rfl | exact (rfl : false = !true) | exact (rfl : true = !false)) (nb rfl) ?_
                  refine jl_guardN rfl (by first | assumption | exact decide_eq_true rfl | exact decide_eq_true (by first | assumption | omega) | exact decide_eq_false (by first | assumption | omega) | with_reducible rfl | exact (rfl : false = !true) | exact (rfl : true = !false)) (nb rfl) ?_
                  refine jl_guardN rfl (by first | assumption | exact decide_eq_true rfl | exact decide_eq_true (by first | assumption | omega) | exact decide_eq_false (by first | assumption | omega) | with_reducible rfl | exact (rfl : false = !true) | exact (rfl : true = !false)) (nb rfl) ?_
                  refine jl_guardN rfl (by first | assumption | exact decide_eq_true rfl | exact decide_eq_true (by first | assumption | omega) | exact decide_eq_false (by first | assumption | omega) | with_reducible rfl | exact (rfl : false = !true) | exact (rfl : true = !false)) (nb rfl) ?_
                  refine jl_op ?_ (nb rfl)
                  refine ow_pickF rfl (by first | assumption | exact decide_eq_true rfl | exact decide_eq_true (by first | assumption | omega) | exact decide_eq_false (by first | assumption | omega) | with_reducible rfl | exact (rfl : false = !true) | exact (rfl : true = !false)) rfl ?_
                  refine jl_op ?_ (nb rfl)
                  refine ow_assign rfl ?_
                  refine jl_nil ?_
                  refine jq_block ?_
                  refine jq_then ?_
                  refine jc_region ?_
                  refine jl_op ?_ (nb rfl)
                  refine ow_move rfl ?_
                  refine jl_op ?_ (nb rfl)
                  refine ow_add64 rfl rfl (by omega) ?_
                  refine jl_op ?_ (nb rfl)
                  refine ow_assign rfl ?_
                  refine jl_nil ?_
                  refine jq_againS (i := (j, W)) (j + 1, W2) ⟨by dsimp only; omega, hW2, fW2 hF⟩ (by dsimp only; omega) ?_ ?_
                  · dsimp only
                    rw [estep]
                    refine sub_step 1 rfl ?_
                    refine sub_step 0 rfl ?_
                    refine sub_step 0 rfl ?_
                    refine sub_step 0 rfl ?_
                    exact sub_end
                  · dsimp only
                    rw [e9]
                    (repeat (first | exact True.intro | refine ⟨rfl, ?_⟩))
                | false =>
                  have hr1 : (!(canonK l j).any bigT) = true := by rw [hr]; rfl
                  rw [hr, Bool.not_false, Bool.true_and] at e9
                  refine jl_op ?_ (nb rfl)
                  refine ow_fieldAddr rfl rfl rfl (nb rfl) ?_
                  refine jl_op0 ?_
                  refine ow_store1 1 rfl rfl rfl rfl (nb rfl) ?_
                  refine jl_nil ?_
                  refine jq_then ?_
                  refine jc_region ?_
                  refine jl_op ?_ (nb rfl)
                  refine ow_move rfl ?_
                  refine jl_op ?_ (nb rfl)
                  refine ow_move rfl ?_
                  refine jl_guardY rfl (by first | assumption | exact decide_eq_true rfl | exact decide_eq_true (by first | assumption | omega) | exact decide_eq_false (by first | assumption | omega) | with_reducible rfl | exact (rfl : false = !true) | exact (rfl : true = !false)) (nb rfl) ?_
                  refine ow_move rfl ?_
                  refine jl_guardY rfl (by first | assumption | exact decide_eq_true rfl | exact decide_eq_true (by first | assumption | omega) | exact decide_eq_false (by first | assumption | omega) | with_reducible rfl | exact (rfl : false = !true) | exact (rfl : true = !false)) (nb rfl) ?_
                  refine ow_move rfl ?_
                  refine jl_guardY rfl (by first | assumption | exact decide_eq_true rfl | exact decide_eq_true (by first | assumption | omega) | exact decide_eq_false (by first | assumption | omega) | with_reducible rfl | exact (rfl : false = !true) | exact (rfl : true = !false)) (nb rfl) ?_
                  refine ow_indexOwn 2 rfl rfl rfl (by omega) (by simp only [List.length_map]; omega) rfl ?_
                  refine jl_guardY rfl (by first | assumption | exact decide_eq_true rfl | exact decide_eq_true (by first | assumption | omega) | exact decide_eq_false (by first | assumption | omega) | with_reducible rfl | exact (rfl : false = !true) | exact (rfl : true = !false)) (nb rfl) ?_
                  refine ow_loadInn1 2 rfl rfl rfl (by omega) rfl ?_
                  refine jl_guardY rfl (by first | assumption | exact decide_eq_true rfl | exact decide_eq_true (by first | assumption | omega) | exact decide_eq_false (by first | assumption | omega) | with_reducible rfl | exact (rfl : false = !true) | exact (rfl : true = !false)) (nb rfl) ?_
                  refine ow_call0 rfl (in_c _) ?_
                  refine jl_op ?_ (nb rfl)
                  refine ow_pickT rfl (by first | assumption | exact decide_eq_true rfl | exact decide_eq_true (by first | assumption | omega) | exact decide_eq_false (by first | assumption | omega) | with_reducible rfl | exact (rfl : false = !true) | exact (rfl : true = !false)) rfl ?_
                  refine jl_op ?_ (nb rfl)
                  refine ow_assign rfl ?_
                  refine jl_nil ?_
                  refine jq_block ?_
                  refine jq_then ?_
                  refine jc_region ?_
                  refine jl_op ?_ (nb rfl)
                  refine ow_move rfl ?_
                  refine jl_op ?_ (nb rfl)
                  refine ow_add64 rfl rfl (by omega) ?_
                  refine jl_op ?_ (nb rfl)
                  refine ow_assign rfl ?_
                  refine jl_nil ?_
                  refine jq_againS (i := (j, W)) (j + 1, W2) ⟨by dsimp only; omega, hW2, fW2 hF⟩ (by dsimp only; omega) ?_ ?_
                  · dsimp only
                    rw [estep]
                    refine sub_step 1 rfl ?_
                    refine sub_step 0 rfl ?_
                    refine sub_step 0 rfl ?_
                    refine sub_step 0 rfl ?_
                    exact sub_end
                  · dsimp only
                    rw [e9]
                    (repeat (first | exact True.intro | refine ⟨rfl, ?_⟩))
              · rw [if_pos (by rw [← ej]; omega), List.append_nil] at estep
                refine jc_skip ?_
                refine jq_block ?_
                refine jq_then ?_
                refine jc_region ?_
                refine jl_op ?_ (nb rfl)
                refine ow_move rfl ?_
                refine jl_op ?_ (nb rfl)
                refine ow_add64 rfl rfl (by omega) ?_
                refine jl_op ?_ (nb rfl)
                refine ow_assign rfl ?_
                refine jl_nil ?_
                refine jq_againS (i := (j, W)) (j + 1, W) ⟨by dsimp only; omega, hW, hF⟩ (by dsimp only; omega) ?_ ?_
                · dsimp only
                  rw [estep]
                  refine sub_step 0 rfl ?_
                  refine sub_step 0 rfl ?_
                  refine sub_step 0 rfl ?_
                  refine sub_step 0 rfl ?_
                  exact sub_end
                · dsimp only
                  rw [estep]
                  (repeat (first | exact True.intro | refine ⟨rfl, ?_⟩))
            · obtain rfl : j = 256 := by omega
              have eK : canonK l 256 = canon l := rfl
              rw [eK] at eC ⊢
              refine jc_exit ?_
              refine jq_then_exit ?_
              refine jq_then_exit ?_
              refine jq_block_exit ?_
              refine jq_then ?_
              refine jc_seq ?_
              refine jc_seq ?_
              refine jc_region ?_
              refine jl_op ?_ (nb rfl)
              refine ow_fieldAddr rfl rfl rfl (nb rfl) ?_
              refine jl_op ?_ (nb rfl)
              refine ow_load 1 rfl rfl rfl rfl ?_
              refine jl_op ?_ (nb rfl)
              refine ow_lenown 0 rfl rfl (fun hlen => ?_)
              refine jl_op ?_ (nb rfl)
              refine ow_gtr rfl rfl ?_
              refine jl_nil ?_
              refine jq_then ?_
              refine jc_condd rfl (fun h64 => ?_) (fun h64 => ?_)
              · have e : ofF l most = (F0, 4) := by unfold ofF; rw [if_neg (by omega), hok, hsm', if_neg (by decide), if_pos (by omega)]
                refine jc_seq ?_
                refine jc_region ?_
                refine jl_op ?_ (nb rfl)
                refine ow_build rfl rfl rfl rfl rfl ?_
                refine jl_op0 ?_
                refine ow_storeAll 3 rfl rfl rfl rfl rfl rfl ?_
                refine jl_op ?_ (nb rfl)
                refine ow_assign rfl ?_
                refine jl_nil ?_
                refine jq_then ?_
                refine jc_ret ?_
                refine jq_then_ret ?_
                refine jq_row 0 (FR F0) rfl (.cons .nil (.cons (.refl _) .nil)) ?_
                refine jq_retRowT rfl rfl rfl rfl rfl 0 rfl (fun K h => by rw [e] at h; exact h) ?_
                exact sub_end
              · refine jc_skip ?_
                refine jq_then ?_
                refine jc_seq ?_
                refine jc_seq ?_
                refine jc_region ?_
                refine jl_op ?_ (nb rfl)
                refine ow_move rfl ?_
                refine jl_op ?_ (nb rfl)
                refine ow_not rfl ?_
                refine jl_nil ?_
                refine jq_then ?_
                refine jc_cond rfl (fun hbig => ?_) (fun hbig => ?_)
                · have e : ofF l most = (F0, 3) := by unfold ofF; rw [if_neg (by omega), hok, hsm', if_neg (by decide), if_neg (by omega), show (canon l).any bigT = true by simpa using hbig, if_pos rfl]
                  refine jc_seq ?_
                  refine jc_region ?_
                  refine jl_op ?_ (nb rfl)
                  refine ow_build rfl rfl rfl rfl rfl ?_
                  refine jl_op0 ?_
                  refine ow_storeAll 3 rfl rfl rfl rfl rfl rfl ?_
                  refine jl_op ?_ (nb rfl)
                  refine ow_assign rfl ?_
                  refine jl_nil ?_
                  refine jq_then ?_
                  refine jc_ret ?_
                  refine jq_then_ret ?_
                  refine jq_row 0 (FR F0) rfl (.cons .nil (.cons (.refl _) .nil)) ?_
                  refine jq_retRowT rfl rfl rfl rfl rfl 0 rfl (fun K h => by rw [e] at h; exact h) ?_
                  exact sub_end
                · have e : ofF l most = (⟨canon l, most⟩, 0) := by unfold ofF; rw [if_neg (by omega), hok, hsm', if_neg (by decide), if_neg (by omega), show (canon l).any bigT = false by simpa using hbig, if_neg (by decide)]
                  refine jc_skip ?_
                  refine jq_then ?_
                  refine jc_seq ?_
                  refine jc_freezeB 0 0 0 rfl rfl hF ?_
                  refine jc_region ?_
                  refine jl_op ?_ (nb rfl)
                  refine ow_loadAll 0 rfl rfl rfl rfl ?_
                  refine jl_op0 ?_
                  refine ow_storeAll 2 rfl rfl rfl rfl rfl rfl ?_
                  refine jl_op ?_ (nb rfl)
                  refine ow_assign rfl ?_
                  refine jl_nil ?_
                  refine jq_then ?_
                  refine jc_ret ?_
                  refine jq_retRowT rfl rfl rfl rfl rfl 0 rfl (fun K h => by rw [e] at h; exact h) ?_
                  exact sub_end
end Go.Proofs.Ytjkkkjikhjfdnaa
