import Derived.Test.YtjkkkjikhjfdnaaFc1
namespace Go.Proofs.Ytjkkkjikhjfdnaa
open Go.Vc
attribute [local irreducible] JL JC JQ OpWp Con ConN
attribute [local irreducible] isSmall isBlock
set_option maxHeartbeats 4000000

/-! The reference's Map, Add, Points; lists compared -/
theorem RMap_c (f : Fct) (to : List (List Int)) : Con Try.prog 40 [.row (FR f), .cell (.list (to.map Lrow))] [] (fun K => K (.tup [.row (FR (mapF f to).1), In .i64 (mapF f to).2]) []) := by
  have hC := RCheck_c f
  have hO := ROf_c (mapT to f.terms) f.most
  have hI := RisMap_c to
  obtain ⟨l, most⟩ := f
  dsimp only at hO
  have eT : (l.map TR).length = l.length := List.length_map _
  have eL : (to.map Lrow).length = to.length := List.length_map _
  refine con_intro Try.func40 rfl rfl (Nat.le_of_ble_eq_true rfl) (fun c hc => ?_)
  refine jc_seq ?_
  refine jc_region ?_
  refine jl_op ?_ (nb rfl)
  refine ow_box rfl (fun bx => ?_)
  refine jl_op ?_ (nb rfl)
  refine ow_alloc rfl rfl (fun bl => ?_)
  refine jl_op ?_ (nb rfl)
  refine ow_assign rfl ?_
  refine jl_nil ?_
  refine jq_then ?_
  refine jc_seq ?_
  refine jc_seq ?_
  refine jc_region ?_
  refine jl_op ?_ (nb rfl)
  refine ow_loadAll 1 rfl rfl rfl rfl ?_
  refine jl_op ?_ (nb rfl)
  refine ow_call0 rfl (hC) ?_
  refine jl_op ?_ (nb rfl)
  refine ow_assign rfl ?_
  refine jl_nil ?_
  refine jq_then ?_
  refine jc_seq ?_
  refine jc_region ?_
  refine jl_op ?_ (nb rfl)
  refine ow_move rfl ?_
  refine jl_op ?_ (nb rfl)
  refine ow_neq rfl rfl ?_
  refine jl_nil ?_
  refine jq_then ?_
  refine jc_condd rfl (fun hne => ?_) (fun heq => ?_)
  · have e : mapF ⟨l, most⟩ to = (F0, checkF ⟨l, most⟩) := by unfold mapF; rw [if_pos hne]
    refine jc_seq ?_
    refine jc_region ?_
    refine jl_op ?_ (nb rfl)
    refine ow_build rfl rfl rfl rfl rfl ?_
    refine jl_op ?_ (nb rfl)
    refine ow_move rfl ?_
    refine jl_op0 ?_
    refine ow_storeAll 0 rfl rfl rfl rfl rfl rfl ?_
    refine jl_op ?_ (nb rfl)
    refine ow_assign rfl ?_
    refine jl_nil ?_
    refine jq_then ?_
    refine jc_ret ?_
    refine jq_then_ret ?_
    refine jq_row 0 (FR F0) rfl (.cons .nil (.cons (.refl _) .nil)) ?_
    refine jq_retRowT rfl rfl rfl rfl rfl 0 rfl (fun K h => by rw [e] at h; exact h) ?_
    exact sub_end
  · have h0 : checkF ⟨l, most⟩ = 0 := by omega
    have hv := valid_of h0
    cases hm : mappedF to with
    | false =>
      rw [hm] at hI
      have e : mapF ⟨l, most⟩ to = (F0, 10) := by unfold mapF; rw [if_neg (by omega), if_pos hm]
      refine jc_skip ?_
      refine jq_then ?_
      refine jc_seq ?_
      refine jc_seq ?_
      refine jc_region ?_
      refine jl_op ?_ (nb rfl)
      refine ow_move rfl ?_
      refine jl_op ?_ (nb rfl)
      refine ow_call0 rfl (hI) ?_
      refine jl_op ?_ (nb rfl)
      refine ow_not rfl ?_
      refine jl_nil ?_
      refine jq_then ?_
      refine jc_cond rfl (fun _ => ?_) (fun h => by cases h)
      refine jc_seq ?_
      refine jc_region ?_
      refine jl_op ?_ (nb rfl)
      refine ow_build rfl rfl rfl rfl rfl ?_
      refine jl_op0 ?_
      refine ow_storeAll 0 rfl rfl rfl rfl rfl rfl ?_
      refine jl_op ?_ (nb rfl)
      refine ow_assign rfl ?_
      refine jl_nil ?_
      refine jq_then ?_
      refine jc_ret ?_
      refine jq_then_ret ?_
      refine jq_row 0 (FR F0) rfl (.cons .nil (.cons (.refl _) .nil)) ?_
      refine jq_retRowT rfl rfl rfl rfl rfl 0 rfl (fun K h => by rw [e] at h; exact h) ?_
      exact sub_end
    | true =>
      rw [hm] at hI
      have hlen64 : l.length ≤ 64 := hv.len
      refine jc_skip ?_
      refine jq_then ?_
      refine jc_seq ?_
      refine jc_seq ?_
      refine jc_region ?_
      refine jl_op ?_ (nb rfl)
      refine ow_move rfl ?_
      refine jl_op ?_ (nb rfl)
      refine ow_call0 rfl (hI) ?_
      refine jl_op ?_ (nb rfl)
      refine ow_not rfl ?_
      refine jl_nil ?_
      refine jq_then ?_
      refine jc_cond rfl (fun h => by cases h) (fun _ => ?_)
      refine jc_skip ?_
      refine jq_then ?_
      refine jc_seq ?_
      refine jc_region ?_
      refine jl_op ?_ (nb rfl)
      refine ow_assign rfl ?_
      refine jl_nil ?_
      refine jq_then ?_
      refine jc_seq ?_
      refine jc_seq ?_
      refine jc_region ?_
      refine jl_op ?_ (nb rfl)
      refine ow_assign rfl ?_
      refine jl_nil ?_
      refine jq_then ?_
      refine jc_block ?_
      revert bl
      intro bR
      refine jc_ownNil 44 2 (by omega) ?_
      refine jc_loopS (ι := Nat × Value) [] (fun i => i.1 ≤ l.length ∧ i.2.oneCell' = true ∧ ((l.take i.1).any (outT to) = false)) (fun i => [(1, .cell (.list (to.map Lrow))), (2, .cell (.val (.pointer (some ⟨bx, 0, none⟩)))), (4, .cell (.val (.pointer (some ⟨bR, 0, none⟩)))), (7, .cell (.val i.2)), (8, In .i64 (i.1 : Int))]) (fun i => [Ow i.2 (mapT to (l.take i.1)), .blk bR 30 [.val (.slice none 0 0), .val (.int .i64 0)], .blk bx 30 (FRm l most)]) (fun i => l.length - i.1) (0, .slice none 0 0) ⟨Nat.zero_le _, rfl, by rw [List.take_zero]; rfl⟩ ?_ ?_ ?_
      · show Vc.Sub _ (Ow _ (mapT to (l.take 0)) :: _)
        rw [List.take_zero]
        refine sub_step 0 rfl ?_
        refine sub_step 0 rfl ?_
        refine sub_step 0 rfl ?_
        exact sub_end
      · (repeat (first | exact True.intro | refine ⟨rfl, ?_⟩))
      · rintro ⟨k, W⟩ ⟨hk, hW, hin⟩
        dsimp only at hk hW hin ⊢
        refine jc_reset [(1, .cell (.list (to.map Lrow))), (2, .cell (.val (.pointer (some ⟨bx, 0, none⟩)))), (4, .cell (.val (.pointer (some ⟨bR, 0, none⟩)))), (7, .cell (.val W)), (8, In .i64 (k : Int))] [Ow W (mapT to (l.take k)), .blk bR 30 [.val (.slice none 0 0), .val (.int .i64 0)], .blk bx 30 (FRm l most)] ?_ ⟨[0, 0, 0], [], rfl⟩ ?_
        · (repeat (first | exact True.intro | refine ⟨rfl, ?_⟩))
        refine jc_seq ?_
        refine jc_seq ?_
        refine jc_region ?_
        refine jl_op ?_ (nb rfl)
        refine ow_move rfl ?_
        refine jl_op ?_ (nb rfl)
        refine ow_fieldAddr rfl rfl rfl (nb rfl) ?_
        refine jl_op ?_ (nb rfl)
        refine ow_load 2 rfl rfl rfl rfl ?_
        refine jl_op ?_ (nb rfl)
        refine ow_len rfl (fun hlen => ?_)
        refine jl_op ?_ (nb rfl)
        refine ow_lss rfl rfl ?_
        refine jl_nil ?_
        refine jq_then ?_
        refine jc_condd rfl (fun hlt => ?_) (fun hge => ?_)
        · have hlt' : k < l.length := by omega
          have hp := okB_parts (hv.ok l[k] (List.getElem_mem hlt')).1
          refine jc_skip ?_
          refine jq_then ?_
          refine jc_seq ?_
          refine jc_block ?_
          refine jc_seq ?_
          refine jc_region ?_
          refine jl_op ?_ (nb rfl)
          refine ow_fieldAddr rfl rfl rfl (nb rfl) ?_
          refine jl_op ?_ (nb rfl)
          refine ow_load 2 rfl rfl rfl rfl ?_
          refine jl_op ?_ (nb rfl)
          refine ow_move rfl ?_
          refine jl_op ?_ (nb rfl)
          refine ow_indexAddrMapE rfl rfl (by omega) rfl rfl (nb rfl) ?_
          refine jl_op ?_ (nb rfl)
          refine ow_loadPlaceN rfl rfl rfl ?_
          refine jl_op ?_ (nb rfl)
          refine ow_alloc rfl rfl (fun bl => ?_)
          refine jl_op0 ?_
          refine ow_storeAll 0 rfl rfl rfl rfl rfl rfl ?_
          refine jl_nil ?_
          refine jq_then ?_
          refine jc_seq ?_
          refine jc_seq ?_
          refine jc_region ?_
          refine jl_op ?_ (nb rfl)
          refine ow_fieldAddr rfl rfl rfl (nb rfl) ?_
          refine jl_op ?_ (nb rfl)
          refine ow_load 0 rfl rfl rfl rfl ?_
          refine jl_op ?_ (nb rfl)
          refine ow_move rfl ?_
          refine jl_op ?_ (nb rfl)
          refine ow_len rfl (fun hlen => ?_)
          refine jl_op ?_ (nb rfl)
          refine ow_geq rfl rfl ?_
          refine jl_nil ?_
          refine jq_then ?_
          refine jc_condd rfl (fun hout => ?_) (fun hnout => ?_)
          · have e : mapF ⟨l, most⟩ to = (F0, 11) := by
              unfold mapF
              rw [if_neg (by omega), hm, if_neg (by decide), if_pos (List.any_eq_true.2 ⟨l[k], List.getElem_mem hlt', decide_eq_true (by omega)⟩)]
            refine jc_seq ?_
            refine jc_region ?_
            refine jl_op ?_ (nb rfl)
            refine ow_build rfl rfl rfl rfl rfl ?_
            refine jl_op0 ?_
            refine ow_storeAll 2 rfl rfl rfl rfl rfl rfl ?_
            refine jl_op ?_ (nb rfl)
            refine ow_assign rfl ?_
            refine jl_nil ?_
            refine jq_then ?_
            refine jc_ret ?_
            refine jq_then_ret ?_
            refine jq_block_ret ?_
            refine jq_then_ret ?_
            refine jq_then_ret ?_
            refine jq_block_ret ?_
            refine jq_then_ret ?_
            refine jq_row 0 (FR F0) rfl (.cons .nil (.cons (.refl _) .nil)) ?_
            refine jq_retRowT rfl rfl rfl rfl rfl 0 rfl (fun K h => by rw [e] at h; exact h) ?_
            exact sub_end
          · have hx : l[k].1.toNat < to.length := by omega
            have ea : toAt to l[k] = to[l[k].1.toNat] := by unfold toAt; rw [List.getD_eq_getElem?_getD, List.getElem?_eq_getElem hx, Option.getD_some]
            have hta := toAt_len hm l[k]
            have hml := mapT_len hm (l.take k)
            rw [List.length_take] at hml
            have estep : mapT to (l.take (k + 1)) = mapT to (l.take k) ++ (to[l[k].1.toNat]).map (fun n => (n, l[k].2)) := by
              rw [List.take_succ_eq_append_getElem hlt', mapT_append]
              simp only [mapT, List.append_nil, ea]
            rw [ea] at hta
            refine jc_skip ?_
            refine jq_then ?_
            refine jc_seq ?_
            refine jc_region ?_
            refine jl_op ?_ (nb rfl)
            refine ow_assign rfl ?_
            refine jl_nil ?_
            refine jq_then ?_
            refine jc_block ?_
            generalize mapT to (l.take k) = O at hml estep ⊢
            have eX : (to[l[k].1.toNat].map Irow).length = to[l[k].1.toNat].length := List.length_map _
            have eO : (O.map TR).length = O.length := List.length_map _
            refine jc_loopS (ι := Nat × Value) [] (fun i => i.1 ≤ to[l[k].1.toNat].length ∧ i.2.oneCell' = true) (fun i => [(1, .cell (.list (to.map Lrow))), (2, .cell (.val (.pointer (some ⟨bx, 0, none⟩)))), (4, .cell (.val (.pointer (some ⟨bR, 0, none⟩)))), (7, .cell (.val i.2)), (9, .cell (.val (.pointer (some ⟨bl, 0, none⟩)))), (8, In .i64 (k : Int)), (10, In .i64 (i.1 : Int))]) (fun i => [.blk bl 44 (TR l[k]), Ow i.2 (O ++ (to[l[k].1.toNat].take i.1).map (fun n => (n, l[k].2))), .blk bR 30 [.val (.slice none 0 0), .val (.int .i64 0)], .blk bx 30 (FRm l most)]) (fun i => to[l[k].1.toNat].length - i.1) (0, W) ⟨Nat.zero_le _, hW⟩ ?_ ?_ ?_
            · show Vc.Sub _ (_ :: Ow _ (O ++ (to[l[k].1.toNat].take 0).map _) :: _)
              rw [List.take_zero, List.map_nil, List.append_nil]
              refine sub_step 0 rfl ?_
              refine sub_step 0 rfl ?_
              refine sub_step 0 rfl ?_
              refine sub_step 0 rfl ?_
              exact sub_end
            · (repeat (first | exact True.intro | refine ⟨rfl, ?_⟩))
            · rintro ⟨j, V⟩ ⟨hj, hV⟩
              dsimp only at hj hV ⊢
              refine jc_reset [(1, .cell (.list (to.map Lrow))), (2, .cell (.val (.pointer (some ⟨bx, 0, none⟩)))), (4, .cell (.val (.pointer (some ⟨bR, 0, none⟩)))), (7, .cell (.val V)), (9, .cell (.val (.pointer (some ⟨bl, 0, none⟩)))), (8, In .i64 (k : Int)), (10, In .i64 (j : Int))] [.blk bl 44 (TR l[k]), Ow V (O ++ (to[l[k].1.toNat].take j).map (fun n => (n, l[k].2))), .blk bR 30 [.val (.slice none 0 0), .val (.int .i64 0)], .blk bx 30 (FRm l most)] ?_ ⟨[0, 0, 0, 0], [], rfl⟩ ?_
              · (repeat (first | exact True.intro | refine ⟨rfl, ?_⟩))
              refine jc_seq ?_
              refine jc_seq ?_
              refine jc_region ?_
              refine jl_op ?_ (nb rfl)
              refine ow_move rfl ?_
              refine jl_op ?_ (nb rfl)
              refine ow_move rfl ?_
              refine jl_op ?_ (nb rfl)
              refine ow_fieldAddr rfl rfl rfl (nb rfl) ?_
              refine jl_op ?_ (nb rfl)
              refine ow_load 0 rfl rfl rfl rfl ?_
              refine jl_op ?_ (nb rfl)
              refine ow_indexAddrMapI rfl rfl (by omega) (by omega) rfl rfl (nb rfl) ?_
              refine jl_op ?_ (nb rfl)
              refine ow_loadPlace rfl rfl ?_
              refine jl_op ?_ (nb rfl)
              refine ow_len rfl (fun hlen => ?_)
              refine jl_op ?_ (nb rfl)
              refine ow_lss rfl rfl ?_
              refine jl_nil ?_
              refine jq_then ?_
              refine jc_condd rfl (fun hjlt => ?_) (fun hjge => ?_)
              · have hj' : j < to[l[k].1.toNat].length := by omega
                have ej : O ++ (to[l[k].1.toNat].take (j + 1)).map (fun n => (n, l[k].2)) = (O ++ (to[l[k].1.toNat].take j).map (fun n => (n, l[k].2))) ++ [(to[l[k].1.toNat][j], l[k].2)] := by
                  rw [List.take_succ_eq_append_getElem hj', List.map_append, List.append_assoc]
                  rfl
                have hOl : (O ++ (to[l[k].1.toNat].take j).map (fun n => (n, l[k].2))).length ≤ 256 * 64 + 256 := by
                  rw [List.length_append, List.length_map, List.length_take]
                  omega
                generalize O ++ (to[l[k].1.toNat].take j).map (fun n => (n, l[k].2)) = O2 at ej hOl ⊢
                have eO2 : (O2.map TR).length = O2.length := List.length_map _
                refine jc_skip ?_
                refine jq_then ?_
                refine jc_seq ?_
                refine jc_block ?_
                refine jc_anyB 13 none rfl (by kernel_rfl) (by kernel_rfl) ?_
                refine any_op (fun c => ow_move rfl ⟨rfl, List.Perm.refl _⟩) ?_
                refine any_op (fun c => ow_move rfl ⟨rfl, List.Perm.refl _⟩) ?_
                refine any_op (fun c => ow_fieldAddr rfl rfl rfl (nb rfl) ⟨rfl, List.Perm.refl _⟩) ?_
                refine any_op (fun c => ow_load 0 rfl rfl rfl rfl ⟨rfl, List.Perm.refl _⟩) ?_
                refine any_op (fun c => ow_indexAddrMapI rfl rfl (by omega) (by omega) rfl rfl (nb rfl) ⟨rfl, List.Perm.refl _⟩) ?_
                refine any_op (fun c => ow_loadPlace rfl rfl ⟨rfl, List.Perm.refl _⟩) ?_
                refine any_op (fun c => ow_move rfl ⟨rfl, List.Perm.refl _⟩) ?_
                refine any_op (fun c => ow_indexAddrMapE rfl rfl (by omega) rfl rfl (nb rfl) ⟨rfl, List.Perm.refl _⟩) ?_
                refine any_op (fun c => ow_loadPlace rfl rfl ⟨rfl, List.Perm.refl _⟩) ?_
                refine any_op (fun c => ow_fieldAddr rfl rfl rfl (nb rfl) ⟨rfl, List.Perm.refl _⟩) ?_
                refine any_op (fun c => ow_load 0 rfl rfl rfl rfl ⟨rfl, List.Perm.refl _⟩) ?_
                refine any_op (fun c => ow_build rfl rfl rfl rfl rfl ⟨rfl, List.Perm.refl _⟩) ?_
                refine any_op (fun c => ow_buildSlice rfl rfl (nb rfl) rfl rfl (nb rfl) ⟨rfl, List.Perm.refl _⟩) ?_
                refine any_nil ?_
                refine afin_none ?_
                skip
                refine jl_op (ow_append1 1 ((to[l[k].1.toNat][j], l[k].2)) rfl rfl rfl rfl rfl rfl rfl (fun _ => rfl) (by show (_ + _) * 16 ≤ _; first | omega | (simp only [List.length_append]; omega)) (by first | omega | (simp only [List.length_append]; omega)) (fun V2 hV2 => ?_)) (nb rfl)
                refine jl_op ?_ (nb rfl)
                refine ow_assign rfl ?_
                refine jl_nil ?_
                refine jq_block ?_
                refine jq_then ?_
                refine jc_region ?_
                refine jl_op ?_ (nb rfl)
                refine ow_move rfl ?_
                refine jl_op ?_ (nb rfl)
                refine ow_add64 rfl rfl (by omega) ?_
                refine jl_op ?_ (nb rfl)
                refine ow_assign rfl ?_
                refine jl_nil ?_
                refine jq_againS (i := (j, V)) (j + 1, V2) ⟨by dsimp only; omega, hV2⟩ (by dsimp only; omega) ?_ ?_
                · dsimp only
                  rw [ej]
                  refine sub_step 1 rfl ?_
                  refine sub_step 0 rfl ?_
                  refine sub_step 0 rfl ?_
                  refine sub_step 0 rfl ?_
                  exact sub_end
                · (repeat (first | exact True.intro | refine ⟨rfl, ?_⟩))
              · obtain rfl : j = to[l[k].1.toNat].length := by omega
                rw [List.take_length, ← estep]
                refine jc_exit ?_
                refine jq_then_exit ?_
                refine jq_then_exit ?_
                refine jq_block_exit ?_
                refine jq_block ?_
                refine jq_then ?_
                refine jc_region ?_
                refine jl_op ?_ (nb rfl)
                refine ow_move rfl ?_
                refine jl_op ?_ (nb rfl)
                refine ow_add64 rfl rfl (by omega) ?_
                refine jl_op ?_ (nb rfl)
                refine ow_assign rfl ?_
                refine jl_nil ?_
                refine jq_againS (i := (k, W)) (k + 1, V) ⟨by dsimp only; omega, hV, ?_⟩ (by dsimp only; omega) ?_ ?_
                · dsimp only
                  rw [List.take_succ_eq_append_getElem hlt', List.any_append, hin]
                  simp only [List.any_cons, List.any_nil, Bool.or_false, Bool.false_or]
                  exact decide_eq_false (by omega)
                · dsimp only
                  refine sub_step 1 rfl ?_
                  refine sub_step 1 rfl ?_
                  refine sub_step 1 rfl ?_
                  exact sub_end
                · (repeat (first | exact True.intro | refine ⟨rfl, ?_⟩))
        · obtain rfl : k = l.length := by omega
          rw [List.take_length] at hin ⊢
          have e : mapF ⟨l, most⟩ to = ofF (mapT to l) most := by
            unfold mapF
            rw [if_neg (by omega), hm, if_neg (by decide), hin, if_neg (by decide)]
          refine jc_exit ?_
          refine jq_then_exit ?_
          refine jq_then_exit ?_
          refine jq_block_exit ?_
          refine jq_then ?_
          refine jc_seq ?_
          refine jc_freeze 7 0 rfl rfl (by rw [hc]; simp [hb]) ?_
          refine jc_region ?_
          refine jl_op ?_ (nb rfl)
          refine ow_move rfl ?_
          refine jl_op ?_ (nb rfl)
          refine ow_fieldAddr rfl rfl rfl (nb rfl) ?_
          refine jl_op ?_ (nb rfl)
          refine ow_load 1 rfl rfl rfl rfl ?_
          refine jl_op ?_ (nb rfl)
          refine ow_call0 rfl (hO) ?_
          refine jl_op ?_ (nb rfl)
          refine ow_extract rfl rfl ?_
          refine jl_op ?_ (nb rfl)
          refine ow_extract rfl rfl ?_
          refine jl_op0 ?_
          refine ow_storeAll 0 rfl rfl rfl rfl rfl rfl ?_
          refine jl_op ?_ (nb rfl)
          refine ow_assign rfl ?_
          refine jl_nil ?_
          refine jq_then ?_
          refine jc_ret ?_
          refine jq_retRowT rfl rfl rfl rfl rfl 0 rfl (fun K h => by rw [e] at h; exact h) ?_
          exact sub_end

theorem SameInts_c (a b : List Int) : Con Try.prog 56 [.cell (.list (a.map Irow)), .cell (.list (b.map Irow))] [] (fun K => K (Bl (decide (a = b))) []) := by
  have eA : (a.map Irow).length = a.length := List.length_map _
  have eB : (b.map Irow).length = b.length := List.length_map _
  refine con_intro Try.func56 rfl rfl (Nat.le_of_ble_eq_true rfl) (fun c hc => ?_)
  refine jc_seq ?_
  refine jc_region ?_
  refine jl_op ?_ (nb rfl)
  refine ow_assign rfl ?_
  refine jl_nil ?_
  refine jq_then ?_
  refine jc_seq ?_
  refine jc_seq ?_
  refine jc_region ?_
  refine jl_op ?_ (nb rfl)
  refine ow_move rfl ?_
  refine jl_op ?_ (nb rfl)
  refine ow_len rfl (fun hlen => ?_)
  refine jl_op ?_ (nb rfl)
  refine ow_move rfl ?_
  refine jl_op ?_ (nb rfl)
  refine ow_len rfl (fun hlen => ?_)
  refine jl_op ?_ (nb rfl)
  refine ow_neq rfl rfl ?_
  refine jl_nil ?_
  refine jq_then ?_
  refine jc_condd rfl (fun hne => ?_) (fun heq => ?_)
  · refine jc_seq ?_
    refine jc_region ?_
    refine jl_op ?_ (nb rfl)
    refine ow_assign rfl ?_
    refine jl_nil ?_
    refine jq_then ?_
    refine jc_ret ?_
    refine jq_then_ret ?_
    refine jq_ret1 rfl rfl [] rfl (fun K h => ?_)
    rw [show decide (a = b) = false from decide_eq_false (fun e => hne (by rw [e]))] at h
    exact h
  refine jc_skip ?_
  refine jq_then ?_
  refine jc_seq ?_
  refine jc_seq ?_
  refine jc_region ?_
  refine jl_op ?_ (nb rfl)
  refine ow_assign rfl ?_
  refine jl_nil ?_
  refine jq_then ?_
  refine jc_block ?_
  have hab : a.length = b.length := by omega
  refine jc_loop [0, 1] (fun k => k ≤ a.length ∧ a.take k = b.take k) (fun k => [(5, In .i64 (k : Int))]) (fun _ => []) (fun k => a.length - k) 0 [] ⟨Nat.zero_le _, rfl⟩ rfl ?_ ?_
  · (repeat (first | exact True.intro | refine ⟨rfl, ?_⟩))
  · rintro k ⟨hk, hke⟩
    refine jc_seq ?_
    refine jc_seq ?_
    refine jc_region ?_
    refine jl_op ?_ (nb rfl)
    refine ow_move rfl ?_
    refine jl_op ?_ (nb rfl)
    refine ow_move rfl ?_
    refine jl_op ?_ (nb rfl)
    refine ow_len rfl (fun hlen => ?_)
    refine jl_op ?_ (nb rfl)
    refine ow_lss rfl rfl ?_
    refine jl_nil ?_
    refine jq_then ?_
    refine jc_condd rfl (fun hlt => ?_) (fun hge => ?_)
    · have hlt : k < a.length := by omega
      have hltb : k < b.length := by omega
      refine jc_skip ?_
      refine jq_then ?_
      refine jc_seq ?_
      refine jc_block ?_
      refine jc_seq ?_
      refine jc_any rfl rfl (by kernel_rfl) (by kernel_rfl) ?_
      refine any_op (fun c => ow_move rfl ⟨rfl, List.Perm.refl _⟩) ?_
      refine any_op (fun c => ow_move rfl ⟨rfl, List.Perm.refl _⟩) ?_
      refine any_op (fun c => ow_indexAddrMapE rfl rfl (by omega) rfl rfl (nb rfl) ⟨rfl, List.Perm.refl _⟩) ?_
      refine any_op (fun c => ow_loadPlace rfl rfl ⟨rfl, List.Perm.refl _⟩) ?_
      refine any_op (fun c => ow_move rfl ⟨rfl, List.Perm.refl _⟩) ?_
      refine any_op (fun c => ow_move rfl ⟨rfl, List.Perm.refl _⟩) ?_
      refine any_op (fun c => ow_indexAddrMapE rfl rfl (by omega) rfl rfl (nb rfl) ⟨rfl, List.Perm.refl _⟩) ?_
      refine any_op (fun c => ow_loadPlace rfl rfl ⟨rfl, List.Perm.refl _⟩) ?_
      refine any_op (fun c => ow_neq rfl rfl ⟨rfl, List.Perm.refl _⟩) ?_
      refine any_nil ?_
      refine jq_then ?_
      refine jc_condd rfl (fun hne => ?_) (fun hee => ?_)
      · refine jc_seq ?_
        refine jc_region ?_
        refine jl_op ?_ (nb rfl)
        refine ow_assign rfl ?_
        refine jl_nil ?_
        refine jq_then ?_
        refine jc_ret ?_
        refine jq_block_ret ?_
        refine jq_then_ret ?_
        refine jq_then_ret ?_
        refine jq_block_ret ?_
        refine jq_then_ret ?_
        refine jq_ret1 rfl rfl [] rfl (fun K h => ?_)
        rw [show decide (a = b) = false from decide_eq_false (fun e => hne (by subst e; rfl))] at h
        exact h
      · have hee' : a[k] = b[k] := by omega
        refine jc_skip ?_
        refine jq_block ?_
        refine jq_then ?_
        refine jc_region ?_
        refine jl_op ?_ (nb rfl)
        refine ow_move rfl ?_
        refine jl_op ?_ (nb rfl)
        refine ow_add64 rfl rfl (by omega) ?_
        refine jl_op ?_ (nb rfl)
        refine ow_assign rfl ?_
        refine jl_nil ?_
        refine jq_again (k + 1) [] ⟨hlt, by rw [List.take_succ_eq_append_getElem hlt, List.take_succ_eq_append_getElem hltb, hke, hee']⟩ (by omega) rfl ?_
        (repeat (first | exact True.intro | refine ⟨rfl, ?_⟩))
    · rw [List.take_of_length_le (by omega), List.take_of_length_le (by omega)] at hke
      subst hke
      refine jc_exit ?_
      refine jq_then_exit ?_
      refine jq_then_exit ?_
      refine jq_block_exit ?_
      refine jq_then ?_
      refine jc_seq ?_
      refine jc_region ?_
      refine jl_op ?_ (nb rfl)
      refine ow_assign rfl ?_
      refine jl_nil ?_
      refine jq_then ?_
      refine jc_ret ?_
      refine jq_ret1 rfl rfl [] rfl (fun K h => by simpa using h)
theorem SameLists_c (a b : List (List Int)) : Con Try.prog 43 [.cell (.list (a.map Lrow)), .cell (.list (b.map Lrow))] [] (fun K => K (Bl (decide (a = b))) []) := by
  have eA : (a.map Lrow).length = a.length := List.length_map _
  have eB : (b.map Lrow).length = b.length := List.length_map _
  refine con_intro Try.func43 rfl rfl (Nat.le_of_ble_eq_true rfl) (fun c hc => ?_)
  refine jc_seq ?_
  refine jc_region ?_
  refine jl_op ?_ (nb rfl)
  refine ow_assign rfl ?_
  refine jl_nil ?_
  refine jq_then ?_
  refine jc_seq ?_
  refine jc_seq ?_
  refine jc_region ?_
  refine jl_op ?_ (nb rfl)
  refine ow_move rfl ?_
  refine jl_op ?_ (nb rfl)
  refine ow_len rfl (fun hlen => ?_)
  refine jl_op ?_ (nb rfl)
  refine ow_move rfl ?_
  refine jl_op ?_ (nb rfl)
  refine ow_len rfl (fun hlen => ?_)
  refine jl_op ?_ (nb rfl)
  refine ow_neq rfl rfl ?_
  refine jl_nil ?_
  refine jq_then ?_
  refine jc_condd rfl (fun hne => ?_) (fun heq => ?_)
  · refine jc_seq ?_
    refine jc_region ?_
    refine jl_op ?_ (nb rfl)
    refine ow_assign rfl ?_
    refine jl_nil ?_
    refine jq_then ?_
    refine jc_ret ?_
    refine jq_then_ret ?_
    refine jq_ret1 rfl rfl [] rfl (fun K h => ?_)
    rw [show decide (a = b) = false from decide_eq_false (fun e => hne (by rw [e]))] at h
    exact h
  refine jc_skip ?_
  refine jq_then ?_
  refine jc_seq ?_
  refine jc_seq ?_
  refine jc_region ?_
  refine jl_op ?_ (nb rfl)
  refine ow_assign rfl ?_
  refine jl_nil ?_
  refine jq_then ?_
  refine jc_block ?_
  have hab : a.length = b.length := by omega
  refine jc_loop [0, 1] (fun k => k ≤ a.length ∧ a.take k = b.take k) (fun k => [(5, In .i64 (k : Int))]) (fun _ => []) (fun k => a.length - k) 0 [] ⟨Nat.zero_le _, rfl⟩ rfl ?_ ?_
  · (repeat (first | exact True.intro | refine ⟨rfl, ?_⟩))
  · rintro k ⟨hk, hke⟩
    refine jc_seq ?_
    refine jc_seq ?_
    refine jc_region ?_
    refine jl_op ?_ (nb rfl)
    refine ow_move rfl ?_
    refine jl_op ?_ (nb rfl)
    refine ow_move rfl ?_
    refine jl_op ?_ (nb rfl)
    refine ow_len rfl (fun hlen => ?_)
    refine jl_op ?_ (nb rfl)
    refine ow_lss rfl rfl ?_
    refine jl_nil ?_
    refine jq_then ?_
    refine jc_condd rfl (fun hlt => ?_) (fun hge => ?_)
    · have hlt : k < a.length := by omega
      have hltb : k < b.length := by omega
      have hS := SameInts_c a[k] b[k]
      refine jc_skip ?_
      refine jq_then ?_
      refine jc_seq ?_
      refine jc_block ?_
      refine jc_seq ?_
      refine jc_any rfl rfl (by kernel_rfl) (by kernel_rfl) ?_
      refine any_op (fun c => ow_move rfl ⟨rfl, List.Perm.refl _⟩) ?_
      refine any_op (fun c => ow_move rfl ⟨rfl, List.Perm.refl _⟩) ?_
      refine any_op (fun c => ow_indexAddrMapE rfl rfl (by omega) rfl rfl (nb rfl) ⟨rfl, List.Perm.refl _⟩) ?_
      refine any_op (fun c => ow_loadPlace rfl rfl ⟨rfl, List.Perm.refl _⟩) ?_
      refine any_op (fun c => ow_move rfl ⟨rfl, List.Perm.refl _⟩) ?_
      refine any_op (fun c => ow_move rfl ⟨rfl, List.Perm.refl _⟩) ?_
      refine any_op (fun c => ow_indexAddrMapE rfl rfl (by omega) rfl rfl (nb rfl) ⟨rfl, List.Perm.refl _⟩) ?_
      refine any_op (fun c => ow_loadPlace rfl rfl ⟨rfl, List.Perm.refl _⟩) ?_
      refine any_op (fun c => ow_call0 rfl (hS) ⟨rfl, List.Perm.refl _⟩) ?_
      refine any_op (fun c => ow_notdec rfl ⟨rfl, List.Perm.refl _⟩) ?_
      refine any_nil ?_
      refine jq_then ?_
      refine jc_cond rfl (fun hne => ?_) (fun hee => ?_)
      · refine jc_seq ?_
        refine jc_region ?_
        refine jl_op ?_ (nb rfl)
        refine ow_assign rfl ?_
        refine jl_nil ?_
        refine jq_then ?_
        refine jc_ret ?_
        refine jq_block_ret ?_
        refine jq_then_ret ?_
        refine jq_then_ret ?_
        refine jq_block_ret ?_
        refine jq_then_ret ?_
        refine jq_ret1 rfl rfl [] rfl (fun K h => ?_)
        rw [show decide (a = b) = false from decide_eq_false (fun e => by subst e; simp at hne)] at h
        exact h
      · have hee' : a[k] = b[k] := by simpa using hee
        refine jc_skip ?_
        refine jq_block ?_
        refine jq_then ?_
        refine jc_region ?_
        refine jl_op ?_ (nb rfl)
        refine ow_move rfl ?_
        refine jl_op ?_ (nb rfl)
        refine ow_add64 rfl rfl (by omega) ?_
        refine jl_op ?_ (nb rfl)
        refine ow_assign rfl ?_
        refine jl_nil ?_
        refine jq_again (k + 1) [] ⟨hlt, by rw [List.take_succ_eq_append_getElem hlt, List.take_succ_eq_append_getElem hltb, hke, hee']⟩ (by omega) rfl ?_
        (repeat (first | exact True.intro | refine ⟨rfl, ?_⟩))
    · rw [List.take_of_length_le (by omega), List.take_of_length_le (by omega)] at hke
      subst hke
      refine jc_exit ?_
      refine jq_then_exit ?_
      refine jq_then_exit ?_
      refine jq_block_exit ?_
      refine jq_then ?_
      refine jc_seq ?_
      refine jc_region ?_
      refine jl_op ?_ (nb rfl)
      refine ow_assign rfl ?_
      refine jl_nil ?_
      refine jq_then ?_
      refine jc_ret ?_
      refine jq_ret1 rfl rfl [] rfl (fun K h => by simpa using h)
end Go.Proofs.Ytjkkkjikhjfdnaa
