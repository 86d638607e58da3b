import Derived.Test.YtjkkkjikhjfdnaaFc2
namespace Go.Proofs.Ytjkkkjikhjfdnaa
open Go.Vc
attribute [local irreducible] JL JC JQ OpWp Con ConN
attribute [local irreducible] isSmall isBlock
set_option maxHeartbeats 4000000

theorem RPoints_c (points to : List (List Int)) : Con Try.prog 42 [.cell (.list (points.map Lrow)), .cell (.list (to.map Lrow))] [] (fun K => K (.tup [.cell (.list ((pointsF points to).1.map Lrow)), In .i64 (pointsF points to).2]) []) := by
  have eP : (points.map Lrow).length = points.length := List.length_map _
  have eT : (to.map Lrow).length = to.length := List.length_map _
  have hmp := RisMap_c points
  have hmt := RisMap_c to
  refine con_intro Try.func42 rfl rfl (Nat.le_of_ble_eq_true rfl) (fun c hc => ?_)
  cases h1 : mappedF points with
  | false =>
    rw [h1] at hmp
    have e : pointsF points to = ([], 10) := by unfold pointsF; rw [h1, Bool.not_false, Bool.true_or, if_pos rfl]
    refine jc_seq ?_
    refine jc_region ?_
    refine jl_op ?_ (nb rfl)
    refine ow_assign rfl ?_
    refine jl_op ?_ (nb rfl)
    refine ow_assign rfl ?_
    refine jl_nil ?_
    refine jq_then ?_
    refine jc_seq ?_
    refine jc_seq ?_
    refine jc_region ?_
    refine jl_op ?_ (nb rfl)
    refine ow_move rfl ?_
    refine jl_op ?_ (nb rfl)
    refine ow_call0 rfl (hmp) ?_
    refine jl_op ?_ (nb rfl)
    refine ow_not rfl ?_
    refine jl_op ?_ (nb rfl)
    refine ow_move rfl ?_
    refine jl_guardN rfl (by first | assumption | exact decide_eq_true rfl | exact decide_eq_true (by first | assumption | omega) | exact decide_eq_false (by first | assumption | omega) | with_reducible rfl | exact (rfl : false = !true) | exact (rfl : true = !false)) (nb rfl) ?_
    refine jl_guardN rfl (by first | assumption | exact decide_eq_true rfl | exact decide_eq_true (by first | assumption | omega) | exact decide_eq_false (by first | assumption | omega) | with_reducible rfl | exact (rfl : false = !true) | exact (rfl : true = !false)) (nb rfl) ?_
    refine jl_guardN rfl (by first | assumption | exact decide_eq_true rfl | exact decide_eq_true (by first | assumption | omega) | exact decide_eq_false (by first | assumption | omega) | with_reducible rfl | exact (rfl : false = !true) | exact (rfl : true = !false)) (nb rfl) ?_
    refine jl_op ?_ (nb rfl)
    refine ow_pickT rfl (by first | assumption | exact decide_eq_true rfl | exact decide_eq_true (by first | assumption | omega) | exact decide_eq_false (by first | assumption | omega) | with_reducible rfl | exact (rfl : false = !true) | exact (rfl : true = !false)) rfl ?_
    refine jl_nil ?_
    refine jq_then ?_
    refine jc_cond rfl (fun _ => ?_) (fun h => by cases h)
    refine jc_seq ?_
    refine jc_region ?_
    refine jl_op ?_ (nb rfl)
    refine ow_assign rfl ?_
    refine jl_op ?_ (nb rfl)
    refine ow_assign rfl ?_
    refine jl_nil ?_
    refine jq_then ?_
    refine jc_ret ?_
    refine jq_then_ret ?_
    refine jq_sle 4 rfl (SLe.cell CLe.nil) ?_
    refine jq_ret2 rfl rfl rfl [] rfl (fun K h => by rw [e] at h; exact h)
  | true =>
    rw [h1] at hmp
    cases h2 : mappedF to with
    | false =>
      rw [h2] at hmt
      have e : pointsF points to = ([], 10) := by unfold pointsF; rw [h2, Bool.not_false, Bool.or_true, if_pos rfl]
      refine jc_seq ?_
      refine jc_region ?_
      refine jl_op ?_ (nb rfl)
      refine ow_assign rfl ?_
      refine jl_op ?_ (nb rfl)
      refine ow_assign rfl ?_
      refine jl_nil ?_
      refine jq_then ?_
      refine jc_seq ?_
      refine jc_seq ?_
      refine jc_region ?_
      refine jl_op ?_ (nb rfl)
      refine ow_move rfl ?_
      refine jl_op ?_ (nb rfl)
      refine ow_call0 rfl (hmp) ?_
      refine jl_op ?_ (nb rfl)
      refine ow_not rfl ?_
      refine jl_op ?_ (nb rfl)
      refine ow_move rfl ?_
      refine jl_guardY rfl (by first | assumption | exact decide_eq_true rfl | exact decide_eq_true (by first | assumption | omega) | exact decide_eq_false (by first | assumption | omega) | with_reducible rfl | exact (rfl : false = !true) | exact (rfl : true = !false)) (nb rfl) ?_
      refine ow_move rfl ?_
      refine jl_guardY rfl (by first | assumption | exact decide_eq_true rfl | exact decide_eq_true (by first | assumption | omega) | exact decide_eq_false (by first | assumption | omega) | with_reducible rfl | exact (rfl : false = !true) | exact (rfl : true = !false)) (nb rfl) ?_
      refine ow_call0 rfl (hmt) ?_
      refine jl_guardY rfl (by first | assumption | exact decide_eq_true rfl | exact decide_eq_true (by first | assumption | omega) | exact decide_eq_false (by first | assumption | omega) | with_reducible rfl | exact (rfl : false = !true) | exact (rfl : true = !false)) (nb rfl) ?_
      refine ow_not rfl ?_
      refine jl_op ?_ (nb rfl)
      refine ow_pickF rfl (by first | assumption | exact decide_eq_true rfl | exact decide_eq_true (by first | assumption | omega) | exact decide_eq_false (by first | assumption | omega) | with_reducible rfl | exact (rfl : false = !true) | exact (rfl : true = !false)) rfl ?_
      refine jl_nil ?_
      refine jq_then ?_
      refine jc_cond rfl (fun _ => ?_) (fun h => by cases h)
      refine jc_seq ?_
      refine jc_region ?_
      refine jl_op ?_ (nb rfl)
      refine ow_assign rfl ?_
      refine jl_op ?_ (nb rfl)
      refine ow_assign rfl ?_
      refine jl_nil ?_
      refine jq_then ?_
      refine jc_ret ?_
      refine jq_then_ret ?_
      refine jq_sle 4 rfl (SLe.cell CLe.nil) ?_
      refine jq_ret2 rfl rfl rfl [] rfl (fun K h => by rw [e] at h; exact h)
    | true =>
      rw [h2] at hmt
      obtain ⟨p1, p2⟩ := mapped_parts h1
      obtain ⟨t1, t2⟩ := mapped_parts h2
      have hjl := fun l => joinL_len (fun l h => (t2 l h).1) l
      have eout : points.any (fun l => l.any (outI to)) = true → pointsF points to = ([], 11) := fun h => by
        unfold pointsF
        rw [h1, h2, if_neg (by decide), if_pos h]
      refine jc_seq ?_
      refine jc_region ?_
      refine jl_op ?_ (nb rfl)
      refine ow_assign rfl ?_
      refine jl_op ?_ (nb rfl)
      refine ow_assign rfl ?_
      refine jl_nil ?_
      refine jq_then ?_
      refine jc_seq ?_
      refine jc_seq ?_
      refine jc_region ?_
      refine jl_op ?_ (nb rfl)
      refine ow_move rfl ?_
      refine jl_op ?_ (nb rfl)
      refine ow_call0 rfl (hmp) ?_
      refine jl_op ?_ (nb rfl)
      refine ow_not rfl ?_
      refine jl_op ?_ (nb rfl)
      refine ow_move rfl ?_
      refine jl_guardY rfl (by first | assumption | exact decide_eq_true rfl | exact decide_eq_true (by first | assumption | omega) | exact decide_eq_false (by first | assumption | omega) | with_reducible rfl | exact (rfl : false = !true) | exact (rfl : true = !false)) (nb rfl) ?_
      refine ow_move rfl ?_
      refine jl_guardY rfl (by first | assumption | exact decide_eq_true rfl | exact decide_eq_true (by first | assumption | omega) | exact decide_eq_false (by first | assumption | omega) | with_reducible rfl | exact (rfl : false = !true) | exact (rfl : true = !false)) (nb rfl) ?_
      refine ow_call0 rfl (hmt) ?_
      refine jl_guardY rfl (by first | assumption | exact decide_eq_true rfl | exact decide_eq_true (by first | assumption | omega) | exact decide_eq_false (by first | assumption | omega) | with_reducible rfl | exact (rfl : false = !true) | exact (rfl : true = !false)) (nb rfl) ?_
      refine ow_not rfl ?_
      refine jl_op ?_ (nb rfl)
      refine ow_pickF rfl (by first | assumption | exact decide_eq_true rfl | exact decide_eq_true (by first | assumption | omega) | exact decide_eq_false (by first | assumption | omega) | with_reducible rfl | exact (rfl : false = !true) | exact (rfl : true = !false)) rfl ?_
      refine jl_nil ?_
      refine jq_then ?_
      refine jc_cond rfl (fun h => by cases h) (fun _ => ?_)
      refine jc_skip ?_
      refine jq_then ?_
      refine jc_seq ?_
      refine jc_region ?_
      refine jl_op ?_ (nb rfl)
      refine ow_assign rfl ?_
      refine jl_nil ?_
      refine jq_then ?_
      refine jc_seq ?_
      refine jc_region ?_
      refine jl_op ?_ (nb rfl)
      refine ow_assign rfl ?_
      refine jl_nil ?_
      refine jq_then ?_
      refine jc_seq ?_
      refine jc_seq ?_
      refine jc_region ?_
      refine jl_op ?_ (nb rfl)
      refine ow_assign rfl ?_
      refine jl_nil ?_
      refine jq_then ?_
      refine jc_block ?_
      refine jc_ownNil 22 1 (by omega) ?_
      refine jc_loopS (ι := Nat × Value) [] (fun i => i.1 ≤ points.length ∧ i.2.oneCell' = true ∧ (points.take i.1).any (fun l => l.any (outI to)) = false) (fun i => [(0, .cell (.list (points.map Lrow))), (1, .cell (.list (to.map Lrow))), (7, Bl ((points.take i.1).any (longJ to))), (6, .cell (.val i.2)), (8, In .i64 (i.1 : Int))]) (fun i => [OwL i.2 ((points.take i.1).map (joinL to))]) (fun i => points.length - i.1) (0, .slice none 0 0) ⟨Nat.zero_le _, rfl, by rw [List.take_zero]; rfl⟩ ?_ ?_ ?_
      · show Vc.Sub _ (OwL _ ((points.take 0).map _) :: _)
        rw [List.take_zero]
        refine sub_step 0 rfl ?_
        exact sub_end
      · (repeat (first | exact True.intro | refine ⟨rfl, ?_⟩))
      · rintro ⟨k, V⟩ ⟨hk, hV, hno⟩
        dsimp only at hk hV hno ⊢
        refine jc_reset [(0, .cell (.list (points.map Lrow))), (1, .cell (.list (to.map Lrow))), (7, Bl ((points.take k).any (longJ to))), (6, .cell (.val V)), (8, In .i64 (k : Int))] [OwL V ((points.take k).map (joinL to))] ?_ ⟨[0], [], rfl⟩ ?_
        · (repeat (first | exact True.intro | refine ⟨rfl, ?_⟩))
        have eK : ((points.take k).map (joinL to)).length ≤ 256 := by rw [List.length_map, List.length_take]; omega
        have esl : k < points.length → ∀ (h : k < points.length), (points.take (k + 1)).map (joinL to) = (points.take k).map (joinL to) ++ [joinL to points[k]] := fun _ h => by
          rw [List.take_succ_eq_append_getElem h, List.map_append]
          rfl
        have eany : ∀ (h : k < points.length), (points.take (k + 1)).any (longJ to) = ((points.take k).any (longJ to) || longJ to points[k]) := fun h => by
          rw [List.take_succ_eq_append_getElem h, List.any_append]
          simp only [List.any_cons, List.any_nil, Bool.or_false]
        refine jc_seq ?_
        refine jc_seq ?_
        refine jc_region ?_
        refine jl_op ?_ (nb rfl)
        refine ow_move rfl ?_
        refine jl_op ?_ (nb rfl)
        refine ow_move rfl ?_
        refine jl_op ?_ (nb rfl)
        refine ow_len rfl (fun hlen => ?_)
        refine jl_op ?_ (nb rfl)
        refine ow_lss rfl rfl ?_
        refine jl_nil ?_
        refine jq_then ?_
        refine jc_condd rfl (fun hlt => ?_) (fun hge => ?_)
        · have hlt' : k < points.length := by omega
          have hx := p2 _ (List.getElem_mem hlt')
          have eX : (points[k].map Irow).length = points[k].length := List.length_map _
          have esl' := esl hlt' hlt'
          have eany' := eany hlt'
          clear esl eany
          refine jc_skip ?_
          refine jq_then ?_
          refine jc_seq ?_
          refine jc_block ?_
          refine jc_seq ?_
          refine jc_region ?_
          refine jl_op ?_ (nb rfl)
          refine ow_assign rfl ?_
          refine jl_nil ?_
          refine jq_then ?_
          refine jc_seq ?_
          refine jc_seq ?_
          refine jc_region ?_
          refine jl_op ?_ (nb rfl)
          refine ow_assign rfl ?_
          refine jl_nil ?_
          refine jq_then ?_
          refine jc_block ?_
          refine jc_ownNil 3 1 (by omega) ?_
          refine jc_loopS (ι := Nat × Value) [] (fun i => i.1 ≤ points[k].length ∧ i.2.oneCell' = true ∧ (points[k].take i.1).any (outI to) = false) (fun i => [(0, .cell (.list (points.map Lrow))), (1, .cell (.list (to.map Lrow))), (7, Bl ((points.take k).any (longJ to))), (6, .cell (.val V)), (8, In .i64 (k : Int)), (9, .cell (.val i.2)), (10, In .i64 (i.1 : Int))]) (fun i => [Ow1 i.2 (joinL to (points[k].take i.1)), OwL V ((points.take k).map (joinL to))]) (fun i => points[k].length - i.1) (0, .slice none 0 0) ⟨Nat.zero_le _, rfl, by rw [List.take_zero]; rfl⟩ ?_ ?_ ?_
          · show Vc.Sub _ (Ow1 _ (joinL to (points[k].take 0)) :: _)
            rw [List.take_zero]
            refine sub_step 0 rfl ?_
            refine sub_step 0 rfl ?_
            exact sub_end
          · (repeat (first | exact True.intro | refine ⟨rfl, ?_⟩))
          · rintro ⟨j, X⟩ ⟨hj, hX, hnoj⟩
            dsimp only at hj hX hnoj ⊢
            refine jc_reset [(0, .cell (.list (points.map Lrow))), (1, .cell (.list (to.map Lrow))), (7, Bl ((points.take k).any (longJ to))), (6, .cell (.val V)), (8, In .i64 (k : Int)), (9, .cell (.val X)), (10, In .i64 (j : Int))] [Ow1 X (joinL to (points[k].take j)), OwL V ((points.take k).map (joinL to))] ?_ ⟨[0, 0], [], rfl⟩ ?_
            · (repeat (first | exact True.intro | refine ⟨rfl, ?_⟩))
            have hjj := hjl (points[k].take j)
            rw [List.length_take] at hjj
            refine jc_seq ?_
            refine jc_seq ?_
            refine jc_region ?_
            refine jl_op ?_ (nb rfl)
            refine ow_move rfl ?_
            refine jl_op ?_ (nb rfl)
            refine ow_move rfl ?_
            refine jl_op ?_ (nb rfl)
            refine ow_move rfl ?_
            refine jl_op ?_ (nb rfl)
            refine ow_indexAddrMapE rfl rfl (by omega) rfl rfl (nb rfl) ?_
            refine jl_op ?_ (nb rfl)
            refine ow_loadPlace rfl rfl ?_
            refine jl_op ?_ (nb rfl)
            refine ow_len rfl (fun hlen => ?_)
            refine jl_op ?_ (nb rfl)
            refine ow_lss rfl rfl ?_
            refine jl_nil ?_
            refine jq_then ?_
            refine jc_condd rfl (fun hjlt => ?_) (fun hjge => ?_)
            · have hj' : j < points[k].length := by omega
              have hxj := hx.2 points[k][j] (List.getElem_mem hj')
              refine jc_skip ?_
              refine jq_then ?_
              refine jc_seq ?_
              refine jc_block ?_
              refine jc_seq ?_
              refine jc_seq ?_
              refine jc_region ?_
              refine jl_op ?_ (nb rfl)
              refine ow_move rfl ?_
              refine jl_op ?_ (nb rfl)
              refine ow_move rfl ?_
              refine jl_op ?_ (nb rfl)
              refine ow_indexAddrMapE rfl rfl (by omega) rfl rfl (nb rfl) ?_
              refine jl_op ?_ (nb rfl)
              refine ow_loadPlace rfl rfl ?_
              refine jl_op ?_ (nb rfl)
              refine ow_move rfl ?_
              refine jl_op ?_ (nb rfl)
              refine ow_indexAddrMapE rfl rfl (by omega) rfl rfl (nb rfl) ?_
              refine jl_op ?_ (nb rfl)
              refine ow_loadPlace rfl rfl ?_
              refine jl_op ?_ (nb rfl)
              refine ow_move rfl ?_
              refine jl_op ?_ (nb rfl)
              refine ow_len rfl (fun hlen => ?_)
              refine jl_op ?_ (nb rfl)
              refine ow_geq rfl rfl ?_
              refine jl_nil ?_
              refine jq_then ?_
              refine jc_condd rfl (fun hout => ?_) (fun hnout => ?_)
              · have e := eout (List.any_eq_true.2 ⟨points[k], List.getElem_mem hlt', List.any_eq_true.2 ⟨points[k][j], List.getElem_mem hj', decide_eq_true (by omega)⟩⟩)
                refine jc_seq ?_
                refine jc_region ?_
                refine jl_op ?_ (nb rfl)
                refine ow_assign rfl ?_
                refine jl_op ?_ (nb rfl)
                refine ow_assign rfl ?_
                refine jl_nil ?_
                refine jq_then ?_
                refine jc_ret ?_
                refine jq_then_ret ?_
                refine jq_block_ret ?_
                refine jq_then_ret ?_
                refine jq_then_ret ?_
                refine jq_block_ret ?_
                refine jq_then_ret ?_
                refine jq_block_ret ?_
                refine jq_then_ret ?_
                refine jq_then_ret ?_
                refine jq_block_ret ?_
                refine jq_then_ret ?_
                refine jq_sle 4 rfl (SLe.cell CLe.nil) ?_
                refine jq_ret2 rfl rfl rfl [] rfl (fun K h => by rw [e] at h; exact h)
              · have hix : points[k][j].toNat < to.length := by omega
                have htl := (t2 to[points[k][j].toNat] (List.getElem_mem hix)).1
                have estep : joinL to (points[k].take (j + 1)) = joinL to (points[k].take j) ++ to[points[k][j].toNat] := by
                  rw [List.take_succ_eq_append_getElem hj', joinL_append]
                  simp only [joinL, List.append_nil]
                  rw [List.getD_eq_getElem?_getD, List.getElem?_eq_getElem hix, Option.getD_some]
                generalize joinL to (points[k].take j) = O at hjj estep ⊢
                refine jc_skip ?_
                refine jq_then ?_
                refine jc_region ?_
                refine jl_op ?_ (nb rfl)
                refine ow_move rfl ?_
                refine jl_op ?_ (nb rfl)
                refine ow_move rfl ?_
                refine jl_op ?_ (nb rfl)
                refine ow_move rfl ?_
                refine jl_op ?_ (nb rfl)
                refine ow_move rfl ?_
                refine jl_op ?_ (nb rfl)
                refine ow_indexAddrMapE rfl rfl (by omega) rfl rfl (nb rfl) ?_
                refine jl_op ?_ (nb rfl)
                refine ow_loadPlace rfl rfl ?_
                refine jl_op ?_ (nb rfl)
                refine ow_move rfl ?_
                refine jl_op ?_ (nb rfl)
                refine ow_indexAddrMapE rfl rfl (by omega) rfl rfl (nb rfl) ?_
                refine jl_op ?_ (nb rfl)
                refine ow_loadPlace rfl rfl ?_
                refine jl_op ?_ (nb rfl)
                refine ow_indexAddrMapI rfl rfl (by omega) (by omega) rfl rfl (nb rfl) ?_
                refine jl_op ?_ (nb rfl)
                refine ow_loadPlace rfl rfl ?_
                refine jl_op (ow_appendM 0 rfl rfl rfl rfl rfl rfl rfl (fun _ => rfl) (by show (_ + _) * 8 ≤ _; first | omega | (simp only [List.length_append]; omega)) (by first | omega | (simp only [List.length_append]; omega)) (fun X2 hX2 => ?_)) (nb rfl)
                refine jl_op ?_ (nb rfl)
                refine ow_assign rfl ?_
                refine jl_nil ?_
                refine jq_block ?_
                refine jq_then ?_
                refine jc_region ?_
                refine jl_op ?_ (nb rfl)
                refine ow_move rfl ?_
                refine jl_op ?_ (nb rfl)
                refine ow_add64 rfl rfl (by omega) ?_
                refine jl_op ?_ (nb rfl)
                refine ow_assign rfl ?_
                refine jl_nil ?_
                refine jq_againS (i := (j, X)) (j + 1, X2) ⟨by dsimp only; omega, hX2, ?_⟩ (by dsimp only; omega) ?_ ?_
                · dsimp only
                  rw [List.take_succ_eq_append_getElem hj', List.any_append, hnoj]
                  simp only [List.any_cons, List.any_nil, Bool.or_false, Bool.false_or]
                  exact decide_eq_false (by omega)
                · dsimp only
                  rw [estep]
                  refine sub_step 0 rfl ?_
                  refine sub_step 0 rfl ?_
                  exact sub_end
                · (repeat (first | exact True.intro | refine ⟨rfl, ?_⟩))
            · obtain rfl : j = points[k].length := by omega
              rw [List.take_length] at hnoj ⊢
              have hno2 : (points.take (k + 1)).any (fun l => l.any (outI to)) = false := by
                rw [List.take_succ_eq_append_getElem hlt', List.any_append, hno]
                simp only [List.any_cons, List.any_nil, Bool.or_false, Bool.false_or]
                exact hnoj
              have eJ : ((joinL to points[k]).map Irow).length = (joinL to points[k]).length := List.length_map _
              cases hlg : (points.take k).any (longJ to) with
              | true =>
                rw [hlg, Bool.true_or] at eany'
                refine jc_exit ?_
                refine jq_then_exit ?_
                refine jq_then_exit ?_
                refine jq_block_exit ?_
                refine jq_then ?_
                refine jc_seq ?_
                refine jc_region ?_
                refine jl_op ?_ (nb rfl)
                refine ow_move rfl ?_
                refine jl_op ?_ (nb rfl)
                refine ow_move rfl ?_
                refine jl_guardN rfl (by first | assumption | exact decide_eq_true rfl | exact decide_eq_true (by first | assumption | omega) | exact decide_eq_false (by first | assumption | omega) | with_reducible rfl | exact (rfl : false = !true) | exact (rfl : true = !false)) (nb rfl) ?_
                refine jl_guardN rfl (by first | assumption | exact decide_eq_true rfl | exact decide_eq_true (by first | assumption | omega) | exact decide_eq_false (by first | assumption | omega) | with_reducible rfl | exact (rfl : false = !true) | exact (rfl : true = !false)) (nb rfl) ?_
                refine jl_guardN rfl (by first | assumption | exact decide_eq_true rfl | exact decide_eq_true (by first | assumption | omega) | exact decide_eq_false (by first | assumption | omega) | with_reducible rfl | exact (rfl : false = !true) | exact (rfl : true = !false)) (nb rfl) ?_
                refine jl_op ?_ (nb rfl)
                refine ow_pickT rfl (by first | assumption | exact decide_eq_true rfl | exact decide_eq_true (by first | assumption | omega) | exact decide_eq_false (by first | assumption | omega) | with_reducible rfl | exact (rfl : false = !true) | exact (rfl : true = !false)) rfl ?_
                refine jl_op ?_ (nb rfl)
                refine ow_assign rfl ?_
                refine jl_nil ?_
                refine jq_then ?_
                refine jc_freeze 9 0 rfl rfl (by rw [hc]; simp [hb]) ?_
                refine jc_region ?_
                refine jl_op ?_ (nb rfl)
                refine ow_move rfl ?_
                refine jl_op ?_ (nb rfl)
                refine ow_move rfl ?_
                refine jl_op ?_ (nb rfl)
                refine ow_buildSlice rfl rfl (nb rfl) rfl rfl (nb rfl) ?_
                refine jl_op (ow_append1 0 ((joinL to points[k])) rfl rfl rfl rfl rfl rfl rfl (fun _ => rfl) (by show (_ + _) * 24 ≤ _; first | omega | (simp only [List.length_append]; omega)) (by first | omega | (simp only [List.length_append]; omega)) (fun V2 hV2 => ?_)) (nb rfl)
                refine jl_op ?_ (nb rfl)
                refine ow_assign rfl ?_
                refine jl_nil ?_
                refine jq_block ?_
                refine jq_then ?_
                refine jc_region ?_
                refine jl_op ?_ (nb rfl)
                refine ow_move rfl ?_
                refine jl_op ?_ (nb rfl)
                refine ow_add64 rfl rfl (by omega) ?_
                refine jl_op ?_ (nb rfl)
                refine ow_assign rfl ?_
                refine jl_nil ?_
                refine jq_againS (i := (k, V)) (k + 1, V2) ⟨by dsimp only; omega, hV2, hno2⟩ (by dsimp only; omega) ?_ ?_
                · dsimp only
                  rw [esl']
                  refine sub_step 0 rfl ?_
                  exact sub_end
                · dsimp only
                  rw [eany']
                  (repeat (first | exact True.intro | refine ⟨rfl, ?_⟩))
              | false =>
                rw [hlg, Bool.false_or, show longJ to points[k] = decide ((256 : Int) < (((joinL to points[k]).map Irow).length : Int)) from decide_eq_decide.2 (by omega)] at eany'
                refine jc_exit ?_
                refine jq_then_exit ?_
                refine jq_then_exit ?_
                refine jq_block_exit ?_
                refine jq_then ?_
                refine jc_seq ?_
                refine jc_region ?_
                refine jl_op ?_ (nb rfl)
                refine ow_move rfl ?_
                refine jl_op ?_ (nb rfl)
                refine ow_move rfl ?_
                refine jl_guardY rfl (by first | assumption | exact decide_eq_true rfl | exact decide_eq_true (by first | assumption | omega) | exact decide_eq_false (by first | assumption | omega) | with_reducible rfl | exact (rfl : false = !true) | exact (rfl : true = !false)) (nb rfl) ?_
                refine ow_move rfl ?_
                refine jl_guardY rfl (by first | assumption | exact decide_eq_true rfl | exact decide_eq_true (by first | assumption | omega) | exact decide_eq_false (by first | assumption | omega) | with_reducible rfl | exact (rfl : false = !true) | exact (rfl : true = !false)) (nb rfl) ?_
                refine ow_lenown 0 rfl rfl (fun hlen => ?_)
                refine jl_guardY rfl (by first | assumption | exact decide_eq_true rfl | exact decide_eq_true (by first | assumption | omega) | exact decide_eq_false (by first | assumption | omega) | with_reducible rfl | exact (rfl : false = !true) | exact (rfl : true = !false)) (nb rfl) ?_
                refine ow_gtr rfl rfl ?_
                refine jl_op ?_ (nb rfl)
                refine ow_pickF rfl (by first | assumption | exact decide_eq_true rfl | exact decide_eq_true (by first | assumption | omega) | exact decide_eq_false (by first | assumption | omega) | with_reducible rfl | exact (rfl : false = !true) | exact (rfl : true = !false)) rfl ?_
                refine jl_op ?_ (nb rfl)
                refine ow_assign rfl ?_
                refine jl_nil ?_
                refine jq_then ?_
                refine jc_freeze 9 0 rfl rfl (by rw [hc]; simp [hb]) ?_
                refine jc_region ?_
                refine jl_op ?_ (nb rfl)
                refine ow_move rfl ?_
                refine jl_op ?_ (nb rfl)
                refine ow_move rfl ?_
                refine jl_op ?_ (nb rfl)
                refine ow_buildSlice rfl rfl (nb rfl) rfl rfl (nb rfl) ?_
                refine jl_op (ow_append1 0 ((joinL to points[k])) rfl rfl rfl rfl rfl rfl rfl (fun _ => rfl) (by show (_ + _) * 24 ≤ _; first | omega | (simp only [List.length_append]; omega)) (by first | omega | (simp only [List.length_append]; omega)) (fun V2 hV2 => ?_)) (nb rfl)
                refine jl_op ?_ (nb rfl)
                refine ow_assign rfl ?_
                refine jl_nil ?_
                refine jq_block ?_
                refine jq_then ?_
                refine jc_region ?_
                refine jl_op ?_ (nb rfl)
                refine ow_move rfl ?_
                refine jl_op ?_ (nb rfl)
                refine ow_add64 rfl rfl (by omega) ?_
                refine jl_op ?_ (nb rfl)
                refine ow_assign rfl ?_
                refine jl_nil ?_
                refine jq_againS (i := (k, V)) (k + 1, V2) ⟨by dsimp only; omega, hV2, hno2⟩ (by dsimp only; omega) ?_ ?_
                · dsimp only
                  rw [esl']
                  refine sub_step 0 rfl ?_
                  exact sub_end
                · dsimp only
                  rw [eany']
                  (repeat (first | exact True.intro | refine ⟨rfl, ?_⟩))
        · obtain rfl : k = points.length := by omega
          rw [List.take_length] at hno ⊢
          refine jc_freeze 6 0 rfl rfl (by rw [hc]; simp [hb]) ?_
          refine jc_exit ?_
          refine jq_then_exit ?_
          refine jq_then_exit ?_
          refine jq_block_exit ?_
          refine jq_then ?_
          refine jc_seq ?_
          refine jc_seq ?_
          refine jc_region ?_
          refine jl_op ?_ (nb rfl)
          refine ow_move rfl ?_
          refine jl_nil ?_
          refine jq_then ?_
          refine jc_cond rfl (fun hlong => ?_) (fun hlong => ?_)
          · have e : pointsF points to = ([], 4) := by unfold pointsF; rw [h1, h2, if_neg (by decide), hno, if_neg (by decide), if_pos hlong]
            refine jc_seq ?_
            refine jc_region ?_
            refine jl_op ?_ (nb rfl)
            refine ow_assign rfl ?_
            refine jl_op ?_ (nb rfl)
            refine ow_assign rfl ?_
            refine jl_nil ?_
            refine jq_then ?_
            refine jc_ret ?_
            refine jq_then_ret ?_
            refine jq_sle 4 rfl (SLe.cell CLe.nil) ?_
            refine jq_ret2 rfl rfl rfl [] rfl (fun K h => by rw [e] at h; exact h)
          · have e : pointsF points to = (points.map (joinL to), 0) := by unfold pointsF; rw [h1, h2, if_neg (by decide), hno, if_neg (by decide), hlong, if_neg (by decide)]
            refine jc_skip ?_
            refine jq_then ?_
            refine jc_seq ?_
            refine jc_region ?_
            refine jl_op ?_ (nb rfl)
            refine ow_move rfl ?_
            refine jl_op ?_ (nb rfl)
            refine ow_assign rfl ?_
            refine jl_op ?_ (nb rfl)
            refine ow_assign rfl ?_
            refine jl_nil ?_
            refine jq_then ?_
            refine jc_ret ?_
            refine jq_ret2 rfl rfl rfl [] rfl (fun K h => by rw [e] at h; exact h)

theorem RAddM_c (l m : List Tm) (p q a b : Int) : Con Try.prog 41 [.row [.list (l.map TR), .val (.int .i64 p)], .row [.list (m.map TR), .val (.int .i64 q)], In .i64 a, In .i64 b] [] (fun K => K (.tup [.row (FR (addF ⟨l, p⟩ ⟨m, q⟩ a b).1), In .i64 (addF ⟨l, p⟩ ⟨m, q⟩ a b).2]) []) := by
  have cF : Con Try.prog 37 [.row [.list (l.map TR), .val (.int .i64 p)]] [] (fun K => K (In .i64 (checkF ⟨l, p⟩)) []) := RCheckM_c l p
  have cG : Con Try.prog 37 [.row [.list (m.map TR), .val (.int .i64 q)]] [] (fun K => K (In .i64 (checkF ⟨m, q⟩)) []) := RCheckM_c m q
  refine con_intro Try.func41 rfl rfl (Nat.le_of_ble_eq_true rfl) (fun c hc => ?_)
  refine jc_seq ?_
  refine jc_region ?_
  refine jl_op ?_ (nb rfl)
  refine ow_box rfl (fun bx => ?_)
  refine jl_op ?_ (nb rfl)
  refine ow_box rfl (fun bx => ?_)
  refine jl_op ?_ (nb rfl)
  refine ow_alloc rfl rfl (fun bl => ?_)
  refine jl_op ?_ (nb rfl)
  refine ow_assign rfl ?_
  refine jl_nil ?_
  refine jq_then ?_
  refine jc_seq ?_
  refine jc_seq ?_
  refine jc_region ?_
  refine jl_op ?_ (nb rfl)
  refine ow_loadAll 2 rfl rfl rfl rfl ?_
  refine jl_op ?_ (nb rfl)
  refine ow_call0 rfl (cF) ?_
  refine jl_op ?_ (nb rfl)
  refine ow_assign rfl ?_
  refine jl_nil ?_
  refine jq_then ?_
  refine jc_seq ?_
  refine jc_region ?_
  refine jl_op ?_ (nb rfl)
  refine ow_move rfl ?_
  refine jl_op ?_ (nb rfl)
  refine ow_neq rfl rfl ?_
  refine jl_nil ?_
  refine jq_then ?_
  refine jc_condd rfl (fun hne => ?_) (fun heq => ?_)
  · have e : addF ⟨l, p⟩ ⟨m, q⟩ a b = (F0, checkF ⟨l, p⟩) := by unfold addF; rw [if_pos hne]
    refine jc_seq ?_
    refine jc_region ?_
    refine jl_op ?_ (nb rfl)
    refine ow_build rfl rfl rfl rfl rfl ?_
    refine jl_op ?_ (nb rfl)
    refine ow_move rfl ?_
    refine jl_op0 ?_
    refine ow_storeAll 0 rfl rfl rfl rfl rfl rfl ?_
    refine jl_op ?_ (nb rfl)
    refine ow_assign rfl ?_
    refine jl_nil ?_
    refine jq_then ?_
    refine jc_ret ?_
    refine jq_then_ret ?_
    refine jq_row 0 (FR F0) rfl (.cons .nil (.cons (.refl _) .nil)) ?_
    refine jq_retRowT rfl rfl rfl rfl rfl 0 rfl (fun K h => by rw [e] at h; exact h) ?_
    exact sub_end
  · have hf0 : checkF ⟨l, p⟩ = 0 := by omega
    refine jc_skip ?_
    refine jq_then ?_
    refine jc_seq ?_
    refine jc_seq ?_
    refine jc_region ?_
    refine jl_op ?_ (nb rfl)
    refine ow_loadAll 1 rfl rfl rfl rfl ?_
    refine jl_op ?_ (nb rfl)
    refine ow_call0 rfl (cG) ?_
    refine jl_op ?_ (nb rfl)
    refine ow_assign rfl ?_
    refine jl_nil ?_
    refine jq_then ?_
    refine jc_seq ?_
    refine jc_region ?_
    refine jl_op ?_ (nb rfl)
    refine ow_move rfl ?_
    refine jl_op ?_ (nb rfl)
    refine ow_neq rfl rfl ?_
    refine jl_nil ?_
    refine jq_then ?_
    refine jc_condd rfl (fun hne => ?_) (fun heq2 => ?_)
    · have e : addF ⟨l, p⟩ ⟨m, q⟩ a b = (F0, checkF ⟨m, q⟩) := by unfold addF; rw [if_neg (by omega), if_pos hne]
      refine jc_seq ?_
      refine jc_region ?_
      refine jl_op ?_ (nb rfl)
      refine ow_build rfl rfl rfl rfl rfl ?_
      refine jl_op ?_ (nb rfl)
      refine ow_move rfl ?_
      refine jl_op0 ?_
      refine ow_storeAll 0 rfl rfl rfl rfl rfl rfl ?_
      refine jl_op ?_ (nb rfl)
      refine ow_assign rfl ?_
      refine jl_nil ?_
      refine jq_then ?_
      refine jc_ret ?_
      refine jq_then_ret ?_
      refine jq_row 0 (FR F0) rfl (.cons .nil (.cons (.refl _) .nil)) ?_
      refine jq_retRowT rfl rfl rfl rfl rfl 0 rfl (fun K h => by rw [e] at h; exact h) ?_
      exact sub_end
    · have hg0 : checkF ⟨m, q⟩ = 0 := by omega
      have bad : addBad a b = true → addF ⟨l, p⟩ ⟨m, q⟩ a b = (F0, 3) := fun h => by unfold addF; rw [if_neg (by omega), if_neg (by omega), if_pos h]
      by_cases h1 : a < 0
      · have e := bad (by simp [addBad, h1])
        refine jc_skip ?_
        refine jq_then ?_
        refine jc_seq ?_
        refine jc_seq ?_
        refine jc_region ?_
        refine jl_op ?_ (nb rfl)
        refine ow_move rfl ?_
        refine jl_op ?_ (nb rfl)
        refine ow_lss rfl rfl ?_
        refine jl_op ?_ (nb rfl)
        refine ow_move rfl ?_
        refine jl_guardN rfl (by first | assumption | exact decide_eq_true rfl | exact decide_eq_true (by first | assumption | omega) | exact decide_eq_false (by first | assumption | omega) | with_reducible rfl | exact (rfl : false = !true) | exact (rfl : true = !false)) (nb rfl) ?_
        refine jl_guardN rfl (by first | assumption | exact decide_eq_true rfl | exact decide_eq_true (by first | assumption | omega) | exact decide_eq_false (by first | assumption | omega) | with_reducible rfl | exact (rfl : false = !true) | exact (rfl : true = !false)) (nb rfl) ?_
        refine jl_op ?_ (nb rfl)
        refine ow_pickT rfl (by first | assumption | exact decide_eq_true rfl | exact decide_eq_true (by first | assumption | omega) | exact decide_eq_false (by first | assumption | omega) | with_reducible rfl | exact (rfl : false = !true) | exact (rfl : true = !false)) rfl ?_
        refine jl_op ?_ (nb rfl)
        refine ow_move rfl ?_
        refine jl_guardN rfl (by first | assumption | exact decide_eq_true rfl | exact decide_eq_true (by first | assumption | omega) | exact decide_eq_false (by first | assumption | omega) | with_reducible rfl | exact (rfl : false = !true) | exact (rfl : true = !false)) (nb rfl) ?_
        refine jl_guardN rfl (by first | assumption | exact decide_eq_true rfl | exact decide_eq_true (by first | assumption | omega) | exact decide_eq_false (by first | assumption | omega) | with_reducible rfl | exact (rfl : false = !true) | exact (rfl : true = !false)) (nb rfl) ?_
        refine jl_op ?_ (nb rfl)
        refine ow_pickT rfl (by first | assumption | exact decide_eq_true rfl | exact decide_eq_true (by first | assumption | omega) | exact decide_eq_false (by first | assumption | omega) | with_reducible rfl | exact (rfl : false = !true) | exact (rfl : true = !false)) rfl ?_
        refine jl_op ?_ (nb rfl)
        refine ow_move rfl ?_
        refine jl_guardN rfl (by first | assumption | exact decide_eq_true rfl | exact decide_eq_true (by first | assumption | omega) | exact decide_eq_false (by first | assumption | omega) | with_reducible rfl | exact (rfl : false = !true) | exact (rfl : true = !false)) (nb rfl) ?_
        refine jl_guardN rfl (by first | assumption | exact decide_eq_true rfl | exact decide_eq_true (by first | assumption | omega) | exact decide_eq_false (by first | assumption | omega) | with_reducible rfl | exact (rfl : false = !true) | exact (rfl : true = !false)) (nb rfl) ?_
        refine jl_op ?_ (nb rfl)
        refine ow_pickT rfl (by first | assumption | exact decide_eq_true rfl | exact decide_eq_true (by first | assumption | omega) | exact decide_eq_false (by first | assumption | omega) | with_reducible rfl | exact (rfl : false = !true) | exact (rfl : true = !false)) rfl ?_
        refine jl_nil ?_
        refine jq_then ?_
        refine jc_cond rfl (fun _ => ?_) (fun h => by cases h)
        refine jc_seq ?_
        refine jc_region ?_
        refine jl_op ?_ (nb rfl)
        refine ow_build rfl rfl rfl rfl rfl ?_
        refine jl_op0 ?_
        refine ow_storeAll 0 rfl rfl rfl rfl rfl rfl ?_
        refine jl_op ?_ (nb rfl)
        refine ow_assign rfl ?_
        refine jl_nil ?_
        refine jq_then ?_
        refine jc_ret ?_
        refine jq_then_ret ?_
        refine jq_row 0 (FR F0) rfl (.cons .nil (.cons (.refl _) .nil)) ?_
        refine jq_retRowT rfl rfl rfl rfl rfl 0 rfl (fun K h => by rw [e] at h; exact h) ?_
        exact sub_end
      · by_cases h2 : 1048576 < a
        · have e := bad (by simp [addBad, h2])
          refine jc_skip ?_
          refine jq_then ?_
          refine jc_seq ?_
          refine jc_seq ?_
          refine jc_region ?_
          refine jl_op ?_ (nb rfl)
          refine ow_move rfl ?_
          refine jl_op ?_ (nb rfl)
          refine ow_lss rfl rfl ?_
          refine jl_op ?_ (nb rfl)
          refine ow_move rfl ?_
          refine jl_guardY rfl (by first | assumption | exact decide_eq_true rfl | exact decide_eq_true (by first | assumption | omega) | exact decide_eq_false (by first | assumption | omega) | with_reducible rfl | exact (rfl : false = !true) | exact (rfl : true = !false)) (nb rfl) ?_
          refine ow_move rfl ?_
          refine jl_guardY rfl (by first | assumption | exact decide_eq_true rfl | exact decide_eq_true (by first | assumption | omega) | exact decide_eq_false (by first | assumption | omega) | with_reducible rfl | exact (rfl : false = !true) | exact (rfl : true = !false)) (nb rfl) ?_
          refine ow_gtr rfl rfl ?_
          refine jl_op ?_ (nb rfl)
          refine ow_pickF rfl (by first | assumption | exact decide_eq_true rfl | exact decide_eq_true (by first | assumption | omega) | exact decide_eq_false (by first | assumption | omega) | with_reducible rfl | exact (rfl : false = !true) | exact (rfl : true = !false)) rfl ?_
          refine jl_op ?_ (nb rfl)
          refine ow_move rfl ?_
          refine jl_guardN rfl (by first | assumption | exact decide_eq_true rfl | exact decide_eq_true (by first | assumption | omega) | exact decide_eq_false (by first | assumption | omega) | with_reducible rfl | exact (rfl : false = !true) | exact (rfl : true = !false)) (nb rfl) ?_
          refine jl_guardN rfl (by first | assumption | exact decide_eq_true rfl | exact decide_eq_true (by first | assumption | omega) | exact decide_eq_false (by first | assumption | omega) | with_reducible rfl | exact (rfl : false = !true) | exact (rfl : true = !false)) (nb rfl) ?_
          refine jl_op ?_ (nb rfl)
          refine ow_pickT rfl (by first | assumption | exact decide_eq_true rfl | exact decide_eq_true (by first | assumption | omega) | exact decide_eq_false (by first | assumption | omega) | with_reducible rfl | exact (rfl : false = !true) | exact (rfl : true = !false)) rfl ?_
          refine jl_op ?_ (nb rfl)
          refine ow_move rfl ?_
          refine jl_guardN rfl (by first | assumption | exact decide_eq_true rfl | exact decide_eq_true (by first | assumption | omega) | exact decide_eq_false (by first | assumption | omega) | with_reducible rfl | exact (rfl : false = !true) | exact (rfl : true = !false)) (nb rfl) ?_
          refine jl_guardN rfl (by first | assumption | exact decide_eq_true rfl | exact decide_eq_true (by first | assumption | omega) | exact decide_eq_false (by first | assumption | omega) | with_reducible rfl | exact (rfl : false = !true) | exact (rfl : true = !false)) (nb rfl) ?_
          refine jl_op ?_ (nb rfl)
          refine ow_pickT rfl (by first | assumption | exact decide_eq_true rfl | exact decide_eq_true (by first | assumption | omega) | exact decide_eq_false (by first | assumption | omega) | with_reducible rfl | exact (rfl : false = !true) | exact (rfl : true = !false)) rfl ?_
          refine jl_nil ?_
          refine jq_then ?_
          refine jc_cond rfl (fun _ => ?_) (fun h => by cases h)
          refine jc_seq ?_
          refine jc_region ?_
          refine jl_op ?_ (nb rfl)
          refine ow_build rfl rfl rfl rfl rfl ?_
          refine jl_op0 ?_
          refine ow_storeAll 0 rfl rfl rfl rfl rfl rfl ?_
          refine jl_op ?_ (nb rfl)
          refine ow_assign rfl ?_
          refine jl_nil ?_
          refine jq_then ?_
          refine jc_ret ?_
          refine jq_then_ret ?_
          refine jq_row 0 (FR F0) rfl (.cons .nil (.cons (.refl _) .nil)) ?_
          refine jq_retRowT rfl rfl rfl rfl rfl 0 rfl (fun K h => by rw [e] at h; exact h) ?_
          exact sub_end
        · by_cases h3 : b < 0
          · have e := bad (by simp [addBad, h3])
            refine jc_skip ?_
            refine jq_then ?_
            refine jc_seq ?_
            refine jc_seq ?_
            refine jc_region ?_
            refine jl_op ?_ (nb rfl)
            refine ow_move rfl ?_
            refine jl_op ?_ (nb rfl)
            refine ow_lss rfl rfl ?_
            refine jl_op ?_ (nb rfl)
            refine ow_move rfl ?_
            refine jl_guardY rfl (by first | assumption | exact decide_eq_true rfl | exact decide_eq_true (by first | assumption | omega) | exact decide_eq_false (by first | assumption | omega) | with_reducible rfl | exact (rfl : false = !true) | exact (rfl : true = !false)) (nb rfl) ?_
            refine ow_move rfl ?_
            refine jl_guardY rfl (by first | assumption | exact decide_eq_true rfl | exact decide_eq_true (by first | assumption | omega) | exact decide_eq_false (by first | assumption | omega) | with_reducible rfl | exact (rfl : false = !true) | exact (rfl : true = !false)) (nb rfl) ?_
            refine ow_gtr rfl rfl ?_
            refine jl_op ?_ (nb rfl)
            refine ow_pickF rfl (by first | assumption | exact decide_eq_true rfl | exact decide_eq_true (by first | assumption | omega) | exact decide_eq_false (by first | assumption | omega) | with_reducible rfl | exact (rfl : false = !true) | exact (rfl : true = !false)) rfl ?_
            refine jl_op ?_ (nb rfl)
            refine ow_move rfl ?_
            refine jl_guardY rfl (by first | assumption | exact decide_eq_true rfl | exact decide_eq_true (by first | assumption | omega) | exact decide_eq_false (by first | assumption | omega) | with_reducible rfl | exact (rfl : false = !true) | exact (rfl : true = !false)) (nb rfl) ?_
            refine ow_move rfl ?_
            refine jl_guardY rfl (by first | assumption | exact decide_eq_true rfl | exact decide_eq_true (by first | assumption | omega) | exact decide_eq_false (by first | assumption | omega) | with_reducible rfl | exact (rfl : false = !true) | exact (rfl : true = !false)) (nb rfl) ?_
            refine ow_lss rfl rfl ?_
            refine jl_op ?_ (nb rfl)
            refine ow_pickF rfl (by first | assumption | exact decide_eq_true rfl | exact decide_eq_true (by first | assumption | omega) | exact decide_eq_false (by first | assumption | omega) | with_reducible rfl | exact (rfl : false = !true) | exact (rfl : true = !false)) rfl ?_
            refine jl_op ?_ (nb rfl)
            refine ow_move rfl ?_
            refine jl_guardN rfl (by first | assumption | exact decide_eq_true rfl | exact decide_eq_true (by first | assumption | omega) | exact decide_eq_false (by first | assumption | omega) | with_reducible rfl | exact (rfl : false = !true) | exact (rfl : true = !false)) (nb rfl) ?_
            refine jl_guardN rfl (by first | assumption | exact decide_eq_true rfl | exact decide_eq_true (by first | assumption | omega) | exact decide_eq_false (by first | assumption | omega) | with_reducible rfl | exact (rfl : false = !true) | exact (rfl : true = !false)) (nb rfl) ?_
            refine jl_op ?_ (nb rfl)
            refine ow_pickT rfl (by first | assumption | exact decide_eq_true rfl | exact decide_eq_true (by first | assumption | omega) | exact decide_eq_false (by first | assumption | omega) | with_reducible rfl | exact (rfl : false = !true) | exact (rfl : true = !false)) rfl ?_
            refine jl_nil ?_
            refine jq_then ?_
            refine jc_cond rfl (fun _ => ?_) (fun h => by cases h)
            refine jc_seq ?_
            refine jc_region ?_
            refine jl_op ?_ (nb rfl)
            refine ow_build rfl rfl rfl rfl rfl ?_
            refine jl_op0 ?_
            refine ow_storeAll 0 rfl rfl rfl rfl rfl rfl ?_
            refine jl_op ?_ (nb rfl)
            refine ow_assign rfl ?_
            refine jl_nil ?_
            refine jq_then ?_
            refine jc_ret ?_
            refine jq_then_ret ?_
            refine jq_row 0 (FR F0) rfl (.cons .nil (.cons (.refl _) .nil)) ?_
            refine jq_retRowT rfl rfl rfl rfl rfl 0 rfl (fun K h => by rw [e] at h; exact h) ?_
            exact sub_end
          · refine jc_skip ?_
            refine jq_then ?_
            refine jc_seq ?_
            refine jc_seq ?_
            refine jc_region ?_
            refine jl_op ?_ (nb rfl)
            refine ow_move rfl ?_
            refine jl_op ?_ (nb rfl)
            refine ow_lss rfl rfl ?_
            refine jl_op ?_ (nb rfl)
            refine ow_move rfl ?_
            refine jl_guardY rfl (by first | assumption | exact decide_eq_true rfl | exact decide_eq_true (by first | assumption | omega) | exact decide_eq_false (by first | assumption | omega) | with_reducible rfl | exact (rfl : false = !true) | exact (rfl : true = !false)) (nb rfl) ?_
            refine ow_move rfl ?_
            refine jl_guardY rfl (by first | assumption | exact decide_eq_true rfl | exact decide_eq_true (by first | assumption | omega) | exact decide_eq_false (by first | assumption | omega) | with_reducible rfl | exact (rfl : false = !true) | exact (rfl : true = !false)) (nb rfl) ?_
            refine ow_gtr rfl rfl ?_
            refine jl_op ?_ (nb rfl)
            refine ow_pickF rfl (by first | assumption | exact decide_eq_true rfl | exact decide_eq_true (by first | assumption | omega) | exact decide_eq_false (by first | assumption | omega) | with_reducible rfl | exact (rfl : false = !true) | exact (rfl : true = !false)) rfl ?_
            refine jl_op ?_ (nb rfl)
            refine ow_move rfl ?_
            refine jl_guardY rfl (by first | assumption | exact decide_eq_true rfl | exact decide_eq_true (by first | assumption | omega) | exact decide_eq_false (by first | assumption | omega) | with_reducible rfl | exact (rfl : false = !true) | exact (rfl : true = !false)) (nb rfl) ?_
            refine ow_move rfl ?_
            refine jl_guardY rfl (by first | assumption | exact decide_eq_true rfl | exact decide_eq_true (by first | assumption | omega) | exact decide_eq_false (by first | assumption | omega) | with_reducible rfl | exact (rfl : false = !true) | exact (rfl : true = !false)) (nb rfl) ?_
            refine ow_lss rfl rfl ?_
            refine jl_op ?_ (nb rfl)
            refine ow_pickF rfl (by first | assumption | exact decide_eq_true rfl | exact decide_eq_true (by first | assumption | omega) | exact decide_eq_false (by first | assumption | omega) | with_reducible rfl | exact (rfl : false = !true) | exact (rfl : true = !false)) rfl ?_
            refine jl_op ?_ (nb rfl)
            refine ow_move rfl ?_
            refine jl_guardY rfl (by first | assumption | exact decide_eq_true rfl | exact decide_eq_true (by first | assumption | omega) | exact decide_eq_false (by first | assumption | omega) | with_reducible rfl | exact (rfl : false = !true) | exact (rfl : true = !false)) (nb rfl) ?_
            refine ow_move rfl ?_
            refine jl_guardY rfl (by first | assumption | exact decide_eq_true rfl | exact decide_eq_true (by first | assumption | omega) | exact decide_eq_false (by first | assumption | omega) | with_reducible rfl | exact (rfl : false = !true) | exact (rfl : true = !false)) (nb rfl) ?_
            refine ow_gtr rfl rfl ?_
            refine jl_op ?_ (nb rfl)
            refine ow_pickF rfl (by first | assumption | exact decide_eq_true rfl | exact decide_eq_true (by first | assumption | omega) | exact decide_eq_false (by first | assumption | omega) | with_reducible rfl | exact (rfl : false = !true) | exact (rfl : true = !false)) rfl ?_
            refine jl_nil ?_
            refine jq_then ?_
            refine jc_condd rfl (fun h4 => ?_) (fun h4 => ?_)
            · have e := bad (by simp [addBad, h4])
              refine jc_seq ?_
              refine jc_region ?_
              refine jl_op ?_ (nb rfl)
              refine ow_build rfl rfl rfl rfl rfl ?_
              refine jl_op0 ?_
              refine ow_storeAll 0 rfl rfl rfl rfl rfl rfl ?_
              refine jl_op ?_ (nb rfl)
              refine ow_assign rfl ?_
              refine jl_nil ?_
              refine jq_then ?_
              refine jc_ret ?_
              refine jq_then_ret ?_
              refine jq_row 0 (FR F0) rfl (.cons .nil (.cons (.refl _) .nil)) ?_
              refine jq_retRowT rfl rfl rfl rfl rfl 0 rfl (fun K h => by rw [e] at h; exact h) ?_
              exact sub_end
            · have e : addF ⟨l, p⟩ ⟨m, q⟩ a b = ofF (timesT a l ++ timesT b m) (a * p + b * q) := by
                unfold addF
                rw [if_neg (by omega), if_neg (by omega), if_neg (by simp [addBad]; omega)]
              have vf := valid_of hf0
              have vg := valid_of hg0
              have okf : ∀ t ∈ l, -1048576 ≤ t.2 ∧ t.2 ≤ 1048576 := fun t ht => (okB_parts (vf.ok t ht).1).2
              have okg : ∀ t ∈ m, -1048576 ≤ t.2 ∧ t.2 ≤ 1048576 := fun t ht => (okB_parts (vg.ok t ht).1).2
              have bp := mul_bd (a := a) (m := p) (A := 1048576) (B := 1048576) (by omega) (isSmall_iff.1 vf.most) (by omega)
              have bq := mul_bd (a := b) (m := q) (A := 1048576) (B := 1048576) (by omega) (isSmall_iff.1 vg.most) (by omega)
              rw [Int.mul_comm p a] at bp
              rw [Int.mul_comm q b] at bq
              have l64 : l.length ≤ 64 := vf.len
              have m64 : m.length ≤ 64 := vg.len
              have eL : (l.map TR).length = l.length := List.length_map _
              have eM : (m.map TR).length = m.length := List.length_map _
              have cO := ROf_c (timesT a l ++ timesT b m) (a * p + b * q)
              have lT1 := timesT_len a l
              have lT2 := timesT_len b m
              refine jc_skip ?_
              refine jq_then ?_
              refine jc_seq ?_
              refine jc_region ?_
              refine jl_op ?_ (nb rfl)
              refine ow_assign rfl ?_
              refine jl_nil ?_
              refine jq_then ?_
              refine jc_seq ?_
              refine jc_seq ?_
              refine jc_region ?_
              refine jl_op ?_ (nb rfl)
              refine ow_assign rfl ?_
              refine jl_nil ?_
              refine jq_then ?_
              refine jc_block ?_
              rename_i bF
              refine jc_ownNil 44 2 (by omega) ?_
              refine jc_loopS (ι := Nat × Value) [] (fun i => i.1 ≤ l.length ∧ i.2.oneCell' = true) (fun i => [(2, In .i64 a), (3, In .i64 b), (4, .cell (.val (.pointer (some ⟨bF, 0, none⟩)))), (5, .cell (.val (.pointer (some ⟨bx, 0, none⟩)))), (8, .cell (.val (.pointer (some ⟨bl, 0, none⟩)))), (12, .cell (.val i.2)), (13, In .i64 (i.1 : Int))]) (fun i => [Ow i.2 (timesT a (l.take i.1)), .blk bl 30 [.val (.slice none 0 0), .val (.int .i64 0)], .blk bx 30 (FRm m q), .blk bF 30 (FRm l p)]) (fun i => l.length - i.1) (0, .slice none 0 0) ⟨Nat.zero_le _, rfl⟩ ?_ ?_ ?_
              · show Vc.Sub _ (Ow _ (timesT a (l.take 0)) :: _)
                rw [List.take_zero]
                refine sub_step 0 rfl ?_
                refine sub_step 0 rfl ?_
                refine sub_step 0 rfl ?_
                refine sub_step 0 rfl ?_
                exact sub_end
              · (repeat (first | exact True.intro | refine ⟨rfl, ?_⟩))
              · rintro ⟨k, W⟩ ⟨hk, hW⟩
                dsimp only at hk hW ⊢
                refine jc_reset [(2, In .i64 a), (3, In .i64 b), (4, .cell (.val (.pointer (some ⟨bF, 0, none⟩)))), (5, .cell (.val (.pointer (some ⟨bx, 0, none⟩)))), (8, .cell (.val (.pointer (some ⟨bl, 0, none⟩)))), (12, .cell (.val W)), (13, In .i64 (k : Int))] [Ow W (timesT a (l.take k)), .blk bl 30 [.val (.slice none 0 0), .val (.int .i64 0)], .blk bx 30 (FRm m q), .blk bF 30 (FRm l p)] ?_ ⟨[0, 0, 0, 0], [], rfl⟩ ?_
                · (repeat (first | exact True.intro | refine ⟨rfl, ?_⟩))
                have hlenO := timesT_len a (l.take k)
                rw [List.length_take] at hlenO
                refine jc_seq ?_
                refine jc_seq ?_
                refine jc_region ?_
                refine jl_op ?_ (nb rfl)
                refine ow_move rfl ?_
                refine jl_op ?_ (nb rfl)
                refine ow_fieldAddr rfl rfl rfl (nb rfl) ?_
                refine jl_op ?_ (nb rfl)
                refine ow_load 3 rfl rfl rfl rfl ?_
                refine jl_op ?_ (nb rfl)
                refine ow_len rfl (fun hlen => ?_)
                refine jl_op ?_ (nb rfl)
                refine ow_lss rfl rfl ?_
                refine jl_nil ?_
                refine jq_then ?_
                refine jc_condd rfl (fun hlt => ?_) (fun hge => ?_)
                · have hlt' : k < l.length := by omega
                  have hb2 := mul_bd (a := a) (A := 1048576) (B := 1048576) (by omega) (okf l[k] (List.getElem_mem hlt')) (by omega)
                  have estep : timesT a (l.take (k + 1)) = timesT a (l.take k) ++ [(l[k].1, l[k].2 * a)] := by
                    rw [List.take_succ_eq_append_getElem hlt', timesT_append]
                    rfl
                  rw [Int.mul_comm l[k].2 a] at hb2 estep
                  generalize timesT a (l.take k) = O at hlenO estep ⊢
                  refine jc_skip ?_
                  refine jq_then ?_
                  refine jc_seq ?_
                  refine jc_block ?_
                  refine jc_anyB 17 none rfl (by kernel_rfl) (by kernel_rfl) ?_
                  refine any_op (fun c => ow_move rfl ⟨rfl, List.Perm.refl _⟩) ?_
                  refine any_op (fun c => ow_fieldAddr rfl rfl rfl (nb rfl) ⟨rfl, List.Perm.refl _⟩) ?_
                  refine any_op (fun c => ow_load 3 rfl rfl rfl rfl ⟨rfl, List.Perm.refl _⟩) ?_
                  refine any_op (fun c => ow_move rfl ⟨rfl, List.Perm.refl _⟩) ?_
                  refine any_op (fun c => ow_indexAddrMapE rfl rfl (by omega) rfl rfl (nb rfl) ⟨rfl, List.Perm.refl _⟩) ?_
                  refine any_op (fun c => ow_fieldAddrPlace rfl rfl rfl (nb rfl) rfl (nb rfl) ⟨rfl, List.Perm.refl _⟩) ?_
                  refine any_op (fun c => ow_loadPlace rfl rfl ⟨rfl, List.Perm.refl _⟩) ?_
                  refine any_op (fun c => ow_move rfl ⟨rfl, List.Perm.refl _⟩) ?_
                  refine any_op (fun c => ow_fieldAddr rfl rfl rfl (nb rfl) ⟨rfl, List.Perm.refl _⟩) ?_
                  refine any_op (fun c => ow_load 3 rfl rfl rfl rfl ⟨rfl, List.Perm.refl _⟩) ?_
                  refine any_op (fun c => ow_move rfl ⟨rfl, List.Perm.refl _⟩) ?_
                  refine any_op (fun c => ow_indexAddrMapE rfl rfl (by omega) rfl rfl (nb rfl) ⟨rfl, List.Perm.refl _⟩) ?_
                  refine any_op (fun c => ow_fieldAddrPlace rfl rfl rfl (nb rfl) rfl (nb rfl) ⟨rfl, List.Perm.refl _⟩) ?_
                  refine any_op (fun c => ow_loadPlace rfl rfl ⟨rfl, List.Perm.refl _⟩) ?_
                  refine any_op (fun c => ow_mul64 rfl rfl (by omega) ⟨rfl, List.Perm.refl _⟩) ?_
                  refine any_op (fun c => ow_build rfl rfl rfl rfl rfl ⟨rfl, List.Perm.refl _⟩) ?_
                  refine any_op (fun c => ow_buildSlice rfl rfl (nb rfl) rfl rfl (nb rfl) ⟨rfl, List.Perm.refl _⟩) ?_
                  refine any_nil ?_
                  refine afin_none ?_
                  skip
                  refine jl_op (ow_append1 0 ((l[k].1, a * l[k].2)) rfl rfl rfl rfl rfl rfl rfl (fun _ => rfl) (by show (_ + _) * 16 ≤ _; first | omega | (simp only [List.length_append]; omega)) (by first | omega | (simp only [List.length_append]; omega)) (fun W2 hW2 => ?_)) (nb rfl)
                  refine jl_op ?_ (nb rfl)
                  refine ow_assign rfl ?_
                  refine jl_nil ?_
                  refine jq_block ?_
                  refine jq_then ?_
                  refine jc_region ?_
                  refine jl_op ?_ (nb rfl)
                  refine ow_move rfl ?_
                  refine jl_op ?_ (nb rfl)
                  refine ow_add64 rfl rfl (by omega) ?_
                  refine jl_op ?_ (nb rfl)
                  refine ow_assign rfl ?_
                  refine jl_nil ?_
                  refine jq_againS (i := (k, W)) (k + 1, W2) ⟨by dsimp only; omega, hW2⟩ (by dsimp only; omega) ?_ ?_
                  · dsimp only
                    rw [estep]
                    refine sub_step 0 rfl ?_
                    refine sub_step 0 rfl ?_
                    refine sub_step 0 rfl ?_
                    refine sub_step 0 rfl ?_
                    exact sub_end
                  · (repeat (first | exact True.intro | refine ⟨rfl, ?_⟩))
                · obtain rfl : k = l.length := by omega
                  rw [List.take_length]
                  refine jc_exit ?_
                  refine jq_then_exit ?_
                  refine jq_then_exit ?_
                  refine jq_block_exit ?_
                  refine jq_then ?_
                  refine jc_seq ?_
                  refine jc_seq ?_
                  refine jc_region ?_
                  refine jl_op ?_ (nb rfl)
                  refine ow_assign rfl ?_
                  refine jl_nil ?_
                  refine jq_then ?_
                  refine jc_block ?_
                  refine jc_loopS (ι := Nat × Value) [] (fun i => i.1 ≤ m.length ∧ i.2.oneCell' = true) (fun i => [(2, In .i64 a), (3, In .i64 b), (4, .cell (.val (.pointer (some ⟨bF, 0, none⟩)))), (5, .cell (.val (.pointer (some ⟨bx, 0, none⟩)))), (8, .cell (.val (.pointer (some ⟨bl, 0, none⟩)))), (12, .cell (.val i.2)), (14, In .i64 (i.1 : Int))]) (fun i => [Ow i.2 (timesT a l ++ timesT b (m.take i.1)), .blk bl 30 [.val (.slice none 0 0), .val (.int .i64 0)], .blk bx 30 (FRm m q), .blk bF 30 (FRm l p)]) (fun i => m.length - i.1) (0, W) ⟨Nat.zero_le _, hW⟩ ?_ ?_ ?_
                  · show Vc.Sub _ (Ow _ (timesT a l ++ timesT b (m.take 0)) :: _)
                    rw [List.take_zero, show timesT b [] = [] from rfl, List.append_nil]
                    refine sub_step 0 rfl ?_
                    refine sub_step 0 rfl ?_
                    refine sub_step 0 rfl ?_
                    refine sub_step 0 rfl ?_
                    exact sub_end
                  · (repeat (first | exact True.intro | refine ⟨rfl, ?_⟩))
                  · rintro ⟨k, V⟩ ⟨hk, hV⟩
                    dsimp only at hk hV ⊢
                    refine jc_reset [(2, In .i64 a), (3, In .i64 b), (4, .cell (.val (.pointer (some ⟨bF, 0, none⟩)))), (5, .cell (.val (.pointer (some ⟨bx, 0, none⟩)))), (8, .cell (.val (.pointer (some ⟨bl, 0, none⟩)))), (12, .cell (.val V)), (14, In .i64 (k : Int))] [Ow V (timesT a l ++ timesT b (m.take k)), .blk bl 30 [.val (.slice none 0 0), .val (.int .i64 0)], .blk bx 30 (FRm m q), .blk bF 30 (FRm l p)] ?_ ⟨[0, 0, 0, 0], [], rfl⟩ ?_
                    · (repeat (first | exact True.intro | refine ⟨rfl, ?_⟩))
                    have hlen2 := timesT_len b (m.take k)
                    rw [List.length_take] at hlen2
                    have hlen3 : (timesT a l ++ timesT b (m.take k)).length ≤ 128 := by rw [List.length_append]; omega
                    refine jc_seq ?_
                    refine jc_seq ?_
                    refine jc_region ?_
                    refine jl_op ?_ (nb rfl)
                    refine ow_move rfl ?_
                    refine jl_op ?_ (nb rfl)
                    refine ow_fieldAddr rfl rfl rfl (nb rfl) ?_
                    refine jl_op ?_ (nb rfl)
                    refine ow_load 2 rfl rfl rfl rfl ?_
                    refine jl_op ?_ (nb rfl)
                    refine ow_len rfl (fun hlen => ?_)
                    refine jl_op ?_ (nb rfl)
                    refine ow_lss rfl rfl ?_
                    refine jl_nil ?_
                    refine jq_then ?_
                    refine jc_condd rfl (fun hlt => ?_) (fun hge => ?_)
                    · have hlt' : k < m.length := by omega
                      have hb2 := mul_bd (a := b) (A := 1048576) (B := 1048576) (by omega) (okg m[k] (List.getElem_mem hlt')) (by omega)
                      have estep : timesT a l ++ timesT b (m.take (k + 1)) = (timesT a l ++ timesT b (m.take k)) ++ [(m[k].1, m[k].2 * b)] := by
                        rw [List.take_succ_eq_append_getElem hlt', timesT_append, List.append_assoc]
                        rfl
                      rw [Int.mul_comm m[k].2 b] at hb2 estep
                      generalize timesT a l ++ timesT b (m.take k) = O at hlen3 estep ⊢
                      refine jc_skip ?_
                      refine jq_then ?_
                      refine jc_seq ?_
                      refine jc_block ?_
                      refine jc_anyB 17 none rfl (by kernel_rfl) (by kernel_rfl) ?_
                      refine any_op (fun c => ow_move rfl ⟨rfl, List.Perm.refl _⟩) ?_
                      refine any_op (fun c => ow_fieldAddr rfl rfl rfl (nb rfl) ⟨rfl, List.Perm.refl _⟩) ?_
                      refine any_op (fun c => ow_load 2 rfl rfl rfl rfl ⟨rfl, List.Perm.refl _⟩) ?_
                      refine any_op (fun c => ow_move rfl ⟨rfl, List.Perm.refl _⟩) ?_
                      refine any_op (fun c => ow_indexAddrMapE rfl rfl (by omega) rfl rfl (nb rfl) ⟨rfl, List.Perm.refl _⟩) ?_
                      refine any_op (fun c => ow_fieldAddrPlace rfl rfl rfl (nb rfl) rfl (nb rfl) ⟨rfl, List.Perm.refl _⟩) ?_
                      refine any_op (fun c => ow_loadPlace rfl rfl ⟨rfl, List.Perm.refl _⟩) ?_
                      refine any_op (fun c => ow_move rfl ⟨rfl, List.Perm.refl _⟩) ?_
                      refine any_op (fun c => ow_fieldAddr rfl rfl rfl (nb rfl) ⟨rfl, List.Perm.refl _⟩) ?_
                      refine any_op (fun c => ow_load 2 rfl rfl rfl rfl ⟨rfl, List.Perm.refl _⟩) ?_
                      refine any_op (fun c => ow_move rfl ⟨rfl, List.Perm.refl _⟩) ?_
                      refine any_op (fun c => ow_indexAddrMapE rfl rfl (by omega) rfl rfl (nb rfl) ⟨rfl, List.Perm.refl _⟩) ?_
                      refine any_op (fun c => ow_fieldAddrPlace rfl rfl rfl (nb rfl) rfl (nb rfl) ⟨rfl, List.Perm.refl _⟩) ?_
                      refine any_op (fun c => ow_loadPlace rfl rfl ⟨rfl, List.Perm.refl _⟩) ?_
                      refine any_op (fun c => ow_mul64 rfl rfl (by omega) ⟨rfl, List.Perm.refl _⟩) ?_
                      refine any_op (fun c => ow_build rfl rfl rfl rfl rfl ⟨rfl, List.Perm.refl _⟩) ?_
                      refine any_op (fun c => ow_buildSlice rfl rfl (nb rfl) rfl rfl (nb rfl) ⟨rfl, List.Perm.refl _⟩) ?_
                      refine any_nil ?_
                      refine afin_none ?_
                      skip
                      refine jl_op (ow_append1 0 ((m[k].1, b * m[k].2)) rfl rfl rfl rfl rfl rfl rfl (fun _ => rfl) (by show (_ + _) * 16 ≤ _; first | omega | (simp only [List.length_append]; omega)) (by first | omega | (simp only [List.length_append]; omega)) (fun V2 hV2 => ?_)) (nb rfl)
                      refine jl_op ?_ (nb rfl)
                      refine ow_assign rfl ?_
                      refine jl_nil ?_
                      refine jq_block ?_
                      refine jq_then ?_
                      refine jc_region ?_
                      refine jl_op ?_ (nb rfl)
                      refine ow_move rfl ?_
                      refine jl_op ?_ (nb rfl)
                      refine ow_add64 rfl rfl (by omega) ?_
                      refine jl_op ?_ (nb rfl)
                      refine ow_assign rfl ?_
                      refine jl_nil ?_
                      refine jq_againS (i := (k, V)) (k + 1, V2) ⟨by dsimp only; omega, hV2⟩ (by dsimp only; omega) ?_ ?_
                      · dsimp only
                        rw [estep]
                        refine sub_step 0 rfl ?_
                        refine sub_step 0 rfl ?_
                        refine sub_step 0 rfl ?_
                        refine sub_step 0 rfl ?_
                        exact sub_end
                      · (repeat (first | exact True.intro | refine ⟨rfl, ?_⟩))
                    · obtain rfl : k = m.length := by omega
                      rw [List.take_length]
                      refine jc_exit ?_
                      refine jq_then_exit ?_
                      refine jq_then_exit ?_
                      refine jq_block_exit ?_
                      refine jq_then ?_
                      refine jc_seq ?_
                      refine jc_freeze 12 0 rfl rfl (by rw [hc]; simp [hb]) ?_
                      refine jc_region ?_
                      refine jl_op ?_ (nb rfl)
                      refine ow_move rfl ?_
                      refine jl_op ?_ (nb rfl)
                      refine ow_move rfl ?_
                      refine jl_op ?_ (nb rfl)
                      refine ow_fieldAddr rfl rfl rfl (nb rfl) ?_
                      refine jl_op ?_ (nb rfl)
                      refine ow_load 2 rfl rfl rfl rfl ?_
                      refine jl_op ?_ (nb rfl)
                      refine ow_mul64 rfl rfl (by omega) ?_
                      refine jl_op ?_ (nb rfl)
                      refine ow_move rfl ?_
                      refine jl_op ?_ (nb rfl)
                      refine ow_fieldAddr rfl rfl rfl (nb rfl) ?_
                      refine jl_op ?_ (nb rfl)
                      refine ow_load 1 rfl rfl rfl rfl ?_
                      refine jl_op ?_ (nb rfl)
                      refine ow_mul64 rfl rfl (by omega) ?_
                      refine jl_op ?_ (nb rfl)
                      refine ow_add64 rfl rfl (by omega) ?_
                      refine jl_op ?_ (nb rfl)
                      refine ow_call0 rfl (cO) ?_
                      refine jl_op ?_ (nb rfl)
                      refine ow_extract rfl rfl ?_
                      refine jl_op ?_ (nb rfl)
                      refine ow_extract rfl rfl ?_
                      refine jl_op0 ?_
                      refine ow_storeAll 0 rfl rfl rfl rfl rfl rfl ?_
                      refine jl_op ?_ (nb rfl)
                      refine ow_assign rfl ?_
                      refine jl_nil ?_
                      refine jq_then ?_
                      refine jc_ret ?_
                      refine jq_retRowT rfl rfl rfl rfl rfl 0 rfl (fun K h => by rw [e] at h; exact h) ?_
                      exact sub_end
theorem RAdd_c (f g : Fct) (a b : Int) : Con Try.prog 41 [.row (FR f), .row (FR g), In .i64 a, In .i64 b] [] (fun K => K (.tup [.row (FR (addF f g a b).1), In .i64 (addF f g a b).2]) []) := RAddM_c f.terms g.terms f.most g.most a b
end Go.Proofs.Ytjkkkjikhjfdnaa
