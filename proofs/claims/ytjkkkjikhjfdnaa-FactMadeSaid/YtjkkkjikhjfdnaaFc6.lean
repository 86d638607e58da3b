import Derived.Test.YtjkkkjikhjfdnaaFc5
namespace Go.Proofs.Ytjkkkjikhjfdnaa
open Go.Vc
attribute [local irreducible] JL JC JQ OpWp Con ConN
attribute [local irreducible] isSmall isBlock
set_option maxHeartbeats 4000000

/-- The elements of a map whose first list is still owned. -/
def rowsO (X : Value) : List (List Int) → List (List C)
  | [] => []
  | _ :: r => [.val X] :: r.map Lrow
theorem rowsO_len (X : Value) (to : List (List Int)) : (rowsO X to).length = to.length := by cases to <;> simp [rowsO]
theorem mapsO_c {L : List Int} {b : Nat} (n : Nat) (hn : 1 ≤ n ∧ n ≤ 30) (hL : InR L) (hLn : L.length ≤ 400) :
    Con Try.prog 13 [Ptr b, In .i64 (n : Int)] [Dk b L] (fun K => ∀ r : Value × Value × List Int × List (List Int), (MapsOk n (r.2.2.1 :: r.2.2.2) ∧ r.1.oneCell' = true ∧ r.2.1.oneCell' = true) → K (.cell (.val r.1)) [.own r.1 22 1 ([.val r.2.1] :: r.2.2.2.map Lrow), Ow1 r.2.1 r.2.2.1, Dk b L]) := by
  refine con_intro Try.func13 rfl rfl (Nat.le_of_ble_eq_true rfl) (fun c hc => ?_)
  refine jc_seq ?_
  refine jc_region ?_
  refine jl_op ?_ (nb rfl)
  refine ow_assign rfl ?_
  refine jl_nil ?_
  refine jq_then ?_
  refine jc_seq ?_
  refine jc_region ?_
  refine jl_op ?_ (nb rfl)
  refine ow_assign rfl ?_
  refine jl_nil ?_
  refine jq_then ?_
  refine jc_seq ?_
  refine jc_region ?_
  refine jl_op ?_ (nb rfl)
  refine ow_assign rfl ?_
  refine jl_nil ?_
  refine jq_then ?_
  refine jc_seq ?_
  refine jc_seq ?_
  refine jc_region ?_
  refine jl_op ?_ (nb rfl)
  refine ow_assign rfl ?_
  refine jl_nil ?_
  refine jq_then ?_
  refine jc_block ?_
  refine jc_ownNil 3 1 (by omega) ?_
  refine jc_ownNil 22 1 (by omega) ?_
  refine jc_loopS (ι := Int × Value × Value × List (List Int)) [] (fun i => i.2.2.2.length ≤ n ∧ 0 ≤ i.1 ∧ i.1 ≤ 2 * (i.2.2.2.length : Int) ∧ i.2.1.oneCell' = true ∧ i.2.2.1.oneCell' = true ∧ ∀ l ∈ i.2.2.2, l.length ≤ 3 ∧ ∀ x ∈ l, 0 ≤ x ∧ x < 2 * (n : Int)) (fun i => [(0, Ptr b), (1, In .i64 (n : Int)), (5, .cell (.val i.2.1)), (6, In .i64 i.1), (7, In .i64 (i.2.2.2.length : Int))]) (fun i => [.own i.2.1 22 1 (rowsO i.2.2.1 i.2.2.2), Ow1 i.2.2.1 (i.2.2.2.headD []), Dk b L]) (fun i => n - i.2.2.2.length) (0, .slice none 0 0, .slice none 0 0, []) ⟨Nat.zero_le _, by dsimp only; omega, by dsimp only; simp, rfl, rfl, fun l h => by cases h⟩ ?_ ?_ ?_
  · refine sub_step 0 rfl ?_
    refine sub_step 0 rfl ?_
    refine sub_step 0 rfl ?_
    exact sub_end
  · (repeat (first | exact True.intro | refine ⟨rfl, ?_⟩))
  · rintro ⟨k, V, X0, to⟩ ⟨hlen, hk0, hk, hV, hX0, hok⟩
    dsimp only at hlen hk0 hk hV hX0 hok ⊢
    refine jc_reset [(0, Ptr b), (1, In .i64 (n : Int)), (5, .cell (.val V)), (6, In .i64 k), (7, In .i64 (to.length : Int))] [.own V 22 1 (rowsO X0 to), Ow1 X0 (to.headD []), Dk b L] ?_ ⟨[0, 0, 0], [], rfl⟩ ?_
    · (repeat (first | exact True.intro | refine ⟨rfl, ?_⟩))
    refine jc_seq ?_
    refine jc_seq ?_
    refine jc_region ?_
    refine jl_op ?_ (nb rfl)
    refine ow_move rfl ?_
    refine jl_op ?_ (nb rfl)
    refine ow_move rfl ?_
    refine jl_op ?_ (nb rfl)
    refine ow_lss rfl rfl ?_
    refine jl_nil ?_
    refine jq_then ?_
    refine jc_condd rfl (fun hlt => ?_) (fun hge => ?_)
    · refine jc_skip ?_
      refine jq_then ?_
      refine jc_seq ?_
      refine jc_block ?_
      refine jc_seq ?_
      refine jc_region ?_
      refine jl_op ?_ (nb rfl)
      refine ow_assign rfl ?_
      refine jl_nil ?_
      refine jq_then ?_
      refine jc_seq ?_
      refine jc_seq ?_
      refine jc_region ?_
      refine jl_op ?_ (nb rfl)
      refine ow_move rfl ?_
      refine jl_op (ow_callP [2] rfl rfl (Nx_c _ hL hLn (by omega)) (fun j0 hj0 => ?_)) (nb rfl)
      refine jl_op ?_ (nb rfl)
      refine ow_assign rfl ?_
      refine jl_nil ?_
      refine jq_then ?_
      refine jc_block ?_
      refine jc_ownNil 3 1 (by omega) ?_
      refine jc_loopS (ι := Int × Int × Value × List Int) [] (fun i => 0 ≤ i.1 ∧ (i.2.2.2.length : Int) + i.1 ≤ 2 ∧ 0 ≤ i.2.1 ∧ i.2.1 + i.1 ≤ 2 * (to.length : Int) + 2 ∧ i.2.2.1.oneCell' = true ∧ ∀ x ∈ i.2.2.2, 0 ≤ x ∧ x < 2 * (n : Int)) (fun i => [(0, Ptr b), (1, In .i64 (n : Int)), (5, .cell (.val V)), (6, In .i64 i.2.1), (7, In .i64 (to.length : Int)), (8, .cell (.val i.2.2.1)), (9, In .i64 i.1)]) (fun i => [Ow1 i.2.2.1 i.2.2.2, .own V 22 1 (rowsO X0 to), Ow1 X0 (to.headD []), Dk b L]) (fun i => i.1.toNat) (j0, k, .slice none 0 0, []) ⟨by dsimp only; omega, by dsimp only [List.length_nil]; omega, hk0, by dsimp only; omega, rfl, fun l h => by cases h⟩ ?_ ?_ ?_
      · refine sub_step 0 rfl ?_
        refine sub_step 1 rfl ?_
        refine sub_step 1 rfl ?_
        refine sub_step 0 rfl ?_
        exact sub_end
      · (repeat (first | exact True.intro | refine ⟨rfl, ?_⟩))
      · rintro ⟨j, m, X, x⟩ ⟨hj, hxl, hm0, hm, hX, hx⟩
        dsimp only at hj hxl hm0 hm hX hx ⊢
        refine jc_reset [(0, Ptr b), (1, In .i64 (n : Int)), (5, .cell (.val V)), (6, In .i64 m), (7, In .i64 (to.length : Int)), (8, .cell (.val X)), (9, In .i64 j)] [Ow1 X x, .own V 22 1 (rowsO X0 to), Ow1 X0 (to.headD []), Dk b L] ?_ ⟨[0, 0, 0, 0], [], rfl⟩ ?_
        · (repeat (first | exact True.intro | refine ⟨rfl, ?_⟩))
        have eX : (x.map Irow).length = x.length := List.length_map _
        refine jc_seq ?_
        refine jc_seq ?_
        refine jc_region ?_
        refine jl_op ?_ (nb rfl)
        refine ow_move rfl ?_
        refine jl_op ?_ (nb rfl)
        refine ow_gtr rfl rfl ?_
        refine jl_nil ?_
        refine jq_then ?_
        refine jc_condd rfl (fun hgt => ?_) (fun hle => ?_)
        · refine jc_skip ?_
          refine jq_then ?_
          refine jc_seq ?_
          refine jc_block ?_
          refine jc_seq ?_
          refine jc_region ?_
          refine jl_op ?_ (nb rfl)
          refine ow_move rfl ?_
          refine jl_op ?_ (nb rfl)
          refine ow_move rfl ?_
          refine jl_op ?_ (nb rfl)
          refine ow_buildSlice rfl rfl (nb rfl) rfl rfl (nb rfl) ?_
          refine jl_op (ow_append1 0 (m) rfl rfl rfl rfl rfl rfl rfl (fun _ => rfl) (by show (_ + _) * 8 ≤ _; first | omega | (simp only [List.length_append]; omega)) (by first | omega | (simp only [List.length_append]; omega)) (fun X2 hX2 => ?_)) (nb rfl)
          refine jl_op ?_ (nb rfl)
          refine ow_assign rfl ?_
          refine jl_nil ?_
          refine jq_then ?_
          refine jc_region ?_
          refine jl_op ?_ (nb rfl)
          refine ow_move rfl ?_
          refine jl_op ?_ (nb rfl)
          refine ow_add64 rfl rfl (by omega) ?_
          refine jl_op ?_ (nb rfl)
          refine ow_assign rfl ?_
          refine jl_nil ?_
          refine jq_block ?_
          refine jq_then ?_
          refine jc_region ?_
          refine jl_op ?_ (nb rfl)
          refine ow_move rfl ?_
          refine jl_op ?_ (nb rfl)
          refine ow_sub64 rfl rfl (by omega) ?_
          refine jl_op ?_ (nb rfl)
          refine ow_assign rfl ?_
          refine jl_nil ?_
          refine jq_againS (i := (j, m, X, x)) (j - 1, m + 1, X2, x ++ [m]) ⟨by dsimp only; omega, by dsimp only; rw [List.length_append]; simp; omega, by dsimp only; omega, by dsimp only; omega, hX2, fun y hy => ?_⟩ (by dsimp only; omega) ?_ ?_
          · rcases List.mem_append.1 hy with h | h
            · exact hx y h
            · obtain rfl := List.mem_singleton.1 h
              omega
          · dsimp only
            refine sub_step 0 rfl ?_
            refine sub_step 0 rfl ?_
            refine sub_step 0 rfl ?_
            refine sub_step 0 rfl ?_
            exact sub_end
          · (repeat (first | exact True.intro | refine ⟨rfl, ?_⟩))
        · obtain rfl : j = 0 := by omega
          refine jc_exit ?_
          refine jq_then_exit ?_
          refine jq_then_exit ?_
          refine jq_block_exit ?_
          refine jq_then ?_
          refine jc_seq ?_
          refine jc_seq ?_
          refine jc_region ?_
          refine jl_op ?_ (nb rfl)
          refine ow_move rfl ?_
          refine jl_op (ow_callP [3] rfl rfl (Nx_c _ hL hLn (by omega)) (fun y hy => ?_)) (nb rfl)
          by_cases h8 : y = 8
          · refine jl_op ?_ (nb rfl)
            refine ow_eql rfl rfl ?_
            refine jl_op ?_ (nb rfl)
            refine ow_move rfl ?_
            refine jl_guardY rfl (by first | assumption | exact decide_eq_true rfl | exact decide_eq_true (by first | assumption | omega) | exact decide_eq_false (by first | assumption | omega) | with_reducible rfl | exact (rfl : false = !true) | exact (rfl : true = !false)) (nb rfl) ?_
            refine ow_move rfl ?_
            refine jl_guardY rfl (by first | assumption | exact decide_eq_true rfl | exact decide_eq_true (by first | assumption | omega) | exact decide_eq_false (by first | assumption | omega) | with_reducible rfl | exact (rfl : false = !true) | exact (rfl : true = !false)) (nb rfl) ?_
            refine ow_gtr rfl rfl ?_
            refine jl_op ?_ (nb rfl)
            refine ow_pickT rfl (by first | assumption | exact decide_eq_true rfl | exact decide_eq_true (by first | assumption | omega) | exact decide_eq_false (by first | assumption | omega) | with_reducible rfl | exact (rfl : false = !true) | exact (rfl : true = !false)) rfl ?_
            refine jl_nil ?_
            refine jq_then ?_
            refine jc_condd rfl (fun hpos => ?_) (fun hnp => ?_)
            · refine jc_region ?_
              refine jl_op ?_ (nb rfl)
              refine ow_move rfl ?_
              refine jl_op ?_ (nb rfl)
              refine ow_move rfl ?_
              refine jl_op ?_ (nb rfl)
              refine ow_move rfl ?_
              refine jl_op (ow_callP [0] rfl rfl (Nx_c _ hL hLn (by omega)) (fun w hw => ?_)) (nb rfl)
              refine jl_op ?_ (nb rfl)
              refine ow_buildSlice rfl rfl (nb rfl) rfl rfl (nb rfl) ?_
              refine jl_op (ow_append1 1 (w) rfl rfl rfl rfl rfl rfl rfl (fun _ => rfl) (by show (_ + _) * 8 ≤ _; first | omega | (simp only [List.length_append]; omega)) (by first | omega | (simp only [List.length_append]; omega)) (fun X2 hX2 => ?_)) (nb rfl)
              cases to with
              | nil =>
                have h00 : ([] : List (List Int)).length = 0 := rfl
                refine jl_op ?_ (nb rfl)
                refine ow_assign rfl ?_
                refine jl_nil ?_
                refine jq_then ?_
                refine jc_region ?_
                refine jl_op ?_ (nb rfl)
                refine ow_move rfl ?_
                refine jl_op ?_ (nb rfl)
                refine ow_move rfl ?_
                refine jl_op ?_ (nb rfl)
                refine ow_buildSlice rfl rfl (nb rfl) rfl rfl (nb rfl) ?_
                refine jl_op (ow_append (rows := []) 2 rfl rfl rfl rfl rfl rfl rfl (fun row h => by rw [List.mem_singleton.1 h]; rfl) (by show (0 + 1) * 24 ≤ _; omega) (by show 0 + 1 ≤ _; omega) (fun V2 hV2 => ?_)) (nb rfl)
                refine jl_op ?_ (nb rfl)
                refine ow_assign rfl ?_
                refine jl_nil ?_
                refine jq_block ?_
                refine jq_then ?_
                refine jc_region ?_
                refine jl_op ?_ (nb rfl)
                refine ow_move rfl ?_
                refine jl_op ?_ (nb rfl)
                refine ow_add64 rfl rfl (by omega) ?_
                refine jl_op ?_ (nb rfl)
                refine ow_assign rfl ?_
                refine jl_nil ?_
                refine jq_againS (i := (k, V, X0, [])) (m, V2, X2, [x ++ [w]]) ⟨by dsimp only [List.length_cons, List.length_nil]; omega, hm0, by dsimp only [List.length_cons, List.length_nil]; omega, hV2, hX2, fun v hv => ?_⟩ (by dsimp only [List.length_cons, List.length_nil]; omega) ?_ ?_
                · obtain rfl := List.mem_singleton.1 hv
                  refine ⟨by rw [List.length_append]; simp; omega, fun u hu => ?_⟩
                  rcases List.mem_append.1 hu with h2 | h2
                  · exact hx u h2
                  · obtain rfl := List.mem_singleton.1 h2
                    omega
                · dsimp only
                  refine sub_step 0 rfl ?_
                  refine sub_step 0 rfl ?_
                  refine sub_step 0 rfl ?_
                  exact sub_end
                · (repeat (first | exact True.intro | refine ⟨rfl, ?_⟩))
              | cons th tr =>
                have hct : (th :: tr).length = tr.length + 1 := rfl
                have hct2 : ∀ z : List Int, (th :: (tr ++ [z])).length = tr.length + 2 := fun z => by simp
                have hma : ∀ z : List Int, (tr ++ [z]).map Lrow = tr.map Lrow ++ [Lrow z] := fun z => by rw [List.map_append]; rfl
                refine jl_op ?_ (nb rfl)
                refine ow_assign rfl ?_
                refine jl_nil ?_
                refine jq_then ?_
                refine jc_freeze 8 0 rfl rfl (by rw [hc]; simp [hb]; exact fun _ h => .inl h) ?_
                refine jc_region ?_
                refine jl_op ?_ (nb rfl)
                refine ow_move rfl ?_
                refine jl_op ?_ (nb rfl)
                refine ow_move rfl ?_
                refine jl_op ?_ (nb rfl)
                refine ow_buildSlice rfl rfl (nb rfl) rfl rfl (nb rfl) ?_
                refine jl_op (ow_append (rows := [.val X0] :: tr.map Lrow) 1 rfl rfl rfl rfl rfl rfl rfl (fun row h => by rw [List.mem_singleton.1 h]; rfl) (by show (_ + 1) * 24 ≤ _; simp only [List.length_cons, List.length_map] at hlen ⊢; omega) (by show _ + 1 ≤ _; simp only [List.length_cons, List.length_map] at hlen ⊢; omega) (fun V2 hV2 => ?_)) (nb rfl)
                refine jl_op ?_ (nb rfl)
                refine ow_assign rfl ?_
                refine jl_nil ?_
                refine jq_block ?_
                refine jq_then ?_
                refine jc_region ?_
                refine jl_op ?_ (nb rfl)
                refine ow_move rfl ?_
                refine jl_op ?_ (nb rfl)
                refine ow_add64 rfl rfl (by omega) ?_
                refine jl_op ?_ (nb rfl)
                refine ow_assign rfl ?_
                refine jl_nil ?_
                refine jq_againS (i := (k, V, X0, th :: tr)) (m, V2, X0, th :: (tr ++ [x ++ [w]])) ⟨by dsimp only; rw [hct2]; omega, hm0, by dsimp only; rw [hct2]; omega, hV2, hX0, fun v hv => ?_⟩ (by dsimp only; rw [hct2]; omega) ?_ ?_
                · rcases List.mem_cons.1 hv with rfl | hv
                  · exact hok _ (by simp)
                  · rcases List.mem_append.1 hv with h | h
                    · exact hok v (by simp [h])
                    · obtain rfl := List.mem_singleton.1 h
                      refine ⟨by rw [List.length_append]; simp; omega, fun u hu => ?_⟩
                      rcases List.mem_append.1 hu with h2 | h2
                      · exact hx u h2
                      · obtain rfl := List.mem_singleton.1 h2
                        omega
                · show Vc.Sub _ [.own V2 22 1 ([.val X0] :: (tr ++ [x ++ [w]]).map Lrow), Ow1 X0 th, Dk b L]
                  rw [hma]
                  refine sub_step 0 rfl ?_
                  refine sub_step 1 rfl ?_
                  refine sub_step 0 rfl ?_
                  exact sub_end
                · dsimp only
                  rw [show (((th :: (tr ++ [x ++ [w]])).length : Nat) : Int) = ((th :: tr).length : Int) + 1 by simp]
                  (repeat (first | exact True.intro | refine ⟨rfl, ?_⟩))
            · cases to with
              | nil =>
                have h00 : ([] : List (List Int)).length = 0 := rfl
                refine jc_skip ?_
                refine jq_then ?_
                refine jc_region ?_
                refine jl_op ?_ (nb rfl)
                refine ow_move rfl ?_
                refine jl_op ?_ (nb rfl)
                refine ow_move rfl ?_
                refine jl_op ?_ (nb rfl)
                refine ow_buildSlice rfl rfl (nb rfl) rfl rfl (nb rfl) ?_
                refine jl_op (ow_append (rows := []) 2 rfl rfl rfl rfl rfl rfl rfl (fun row h => by rw [List.mem_singleton.1 h]; rfl) (by show (0 + 1) * 24 ≤ _; omega) (by show 0 + 1 ≤ _; omega) (fun V2 hV2 => ?_)) (nb rfl)
                refine jl_op ?_ (nb rfl)
                refine ow_assign rfl ?_
                refine jl_nil ?_
                refine jq_block ?_
                refine jq_then ?_
                refine jc_region ?_
                refine jl_op ?_ (nb rfl)
                refine ow_move rfl ?_
                refine jl_op ?_ (nb rfl)
                refine ow_add64 rfl rfl (by omega) ?_
                refine jl_op ?_ (nb rfl)
                refine ow_assign rfl ?_
                refine jl_nil ?_
                refine jq_againS (i := (k, V, X0, [])) (m, V2, X, [x]) ⟨by dsimp only [List.length_cons, List.length_nil]; omega, hm0, by dsimp only [List.length_cons, List.length_nil]; omega, hV2, hX, fun v hv => ?_⟩ (by dsimp only [List.length_cons, List.length_nil]; omega) ?_ ?_
                · obtain rfl := List.mem_singleton.1 hv
                  refine ⟨by omega, fun u hu => ?_⟩
                  exact hx u hu
                · dsimp only
                  refine sub_step 0 rfl ?_
                  refine sub_step 1 rfl ?_
                  refine sub_step 0 rfl ?_
                  exact sub_end
                · (repeat (first | exact True.intro | refine ⟨rfl, ?_⟩))
              | cons th tr =>
                have hct : (th :: tr).length = tr.length + 1 := rfl
                have hct2 : ∀ z : List Int, (th :: (tr ++ [z])).length = tr.length + 2 := fun z => by simp
                have hma : ∀ z : List Int, (tr ++ [z]).map Lrow = tr.map Lrow ++ [Lrow z] := fun z => by rw [List.map_append]; rfl
                refine jc_skip ?_
                refine jq_then ?_
                refine jc_freeze 8 1 rfl rfl (by rw [hc]; simp [hb]; exact fun _ h => .inl h) ?_
                refine jc_region ?_
                refine jl_op ?_ (nb rfl)
                refine ow_move rfl ?_
                refine jl_op ?_ (nb rfl)
                refine ow_move rfl ?_
                refine jl_op ?_ (nb rfl)
                refine ow_buildSlice rfl rfl (nb rfl) rfl rfl (nb rfl) ?_
                refine jl_op (ow_append (rows := [.val X0] :: tr.map Lrow) 1 rfl rfl rfl rfl rfl rfl rfl (fun row h => by rw [List.mem_singleton.1 h]; rfl) (by show (_ + 1) * 24 ≤ _; simp only [List.length_cons, List.length_map] at hlen ⊢; omega) (by show _ + 1 ≤ _; simp only [List.length_cons, List.length_map] at hlen ⊢; omega) (fun V2 hV2 => ?_)) (nb rfl)
                refine jl_op ?_ (nb rfl)
                refine ow_assign rfl ?_
                refine jl_nil ?_
                refine jq_block ?_
                refine jq_then ?_
                refine jc_region ?_
                refine jl_op ?_ (nb rfl)
                refine ow_move rfl ?_
                refine jl_op ?_ (nb rfl)
                refine ow_add64 rfl rfl (by omega) ?_
                refine jl_op ?_ (nb rfl)
                refine ow_assign rfl ?_
                refine jl_nil ?_
                refine jq_againS (i := (k, V, X0, th :: tr)) (m, V2, X0, th :: (tr ++ [x])) ⟨by dsimp only; rw [hct2]; omega, hm0, by dsimp only; rw [hct2]; omega, hV2, hX0, fun v hv => ?_⟩ (by dsimp only; rw [hct2]; omega) ?_ ?_
                · rcases List.mem_cons.1 hv with rfl | hv
                  · exact hok _ (by simp)
                  · rcases List.mem_append.1 hv with h | h
                    · exact hok v (by simp [h])
                    · obtain rfl := List.mem_singleton.1 h
                      refine ⟨by omega, fun u hu => ?_⟩
                      exact hx u hu
                · show Vc.Sub _ [.own V2 22 1 ([.val X0] :: (tr ++ [x]).map Lrow), Ow1 X0 th, Dk b L]
                  rw [hma]
                  refine sub_step 0 rfl ?_
                  refine sub_step 1 rfl ?_
                  refine sub_step 0 rfl ?_
                  exact sub_end
                · dsimp only
                  rw [show (((th :: (tr ++ [x])).length : Nat) : Int) = ((th :: tr).length : Int) + 1 by simp]
                  (repeat (first | exact True.intro | refine ⟨rfl, ?_⟩))
          · refine jl_op ?_ (nb rfl)
            refine ow_eql rfl rfl ?_
            refine jl_op ?_ (nb rfl)
            refine ow_move rfl ?_
            refine jl_guardN rfl (by first | assumption | exact decide_eq_true rfl | exact decide_eq_true (by first | assumption | omega) | exact decide_eq_false (by first | assumption | omega) | with_reducible rfl | exact (rfl : false = !true) | exact (rfl : true = !false)) (nb rfl) ?_
            refine jl_guardN rfl (by first | assumption | exact decide_eq_true rfl | exact decide_eq_true (by first | assumption | omega) | exact decide_eq_false (by first | assumption | omega) | with_reducible rfl | exact (rfl : false = !true) | exact (rfl : true = !false)) (nb rfl) ?_
            refine jl_op ?_ (nb rfl)
            refine ow_pickF rfl (by first | assumption | exact decide_eq_true rfl | exact decide_eq_true (by first | assumption | omega) | exact decide_eq_false (by first | assumption | omega) | with_reducible rfl | exact (rfl : false = !true) | exact (rfl : true = !false)) rfl ?_
            refine jl_nil ?_
            refine jq_then ?_
            refine jc_cond rfl (fun h => by cases h) (fun _ => ?_)
            cases to with
            | nil =>
              have h00 : ([] : List (List Int)).length = 0 := rfl
              refine jc_skip ?_
              refine jq_then ?_
              refine jc_region ?_
              refine jl_op ?_ (nb rfl)
              refine ow_move rfl ?_
              refine jl_op ?_ (nb rfl)
              refine ow_move rfl ?_
              refine jl_op ?_ (nb rfl)
              refine ow_buildSlice rfl rfl (nb rfl) rfl rfl (nb rfl) ?_
              refine jl_op (ow_append (rows := []) 2 rfl rfl rfl rfl rfl rfl rfl (fun row h => by rw [List.mem_singleton.1 h]; rfl) (by show (0 + 1) * 24 ≤ _; omega) (by show 0 + 1 ≤ _; omega) (fun V2 hV2 => ?_)) (nb rfl)
              refine jl_op ?_ (nb rfl)
              refine ow_assign rfl ?_
              refine jl_nil ?_
              refine jq_block ?_
              refine jq_then ?_
              refine jc_region ?_
              refine jl_op ?_ (nb rfl)
              refine ow_move rfl ?_
              refine jl_op ?_ (nb rfl)
              refine ow_add64 rfl rfl (by omega) ?_
              refine jl_op ?_ (nb rfl)
              refine ow_assign rfl ?_
              refine jl_nil ?_
              refine jq_againS (i := (k, V, X0, [])) (m, V2, X, [x]) ⟨by dsimp only [List.length_cons, List.length_nil]; omega, hm0, by dsimp only [List.length_cons, List.length_nil]; omega, hV2, hX, fun v hv => ?_⟩ (by dsimp only [List.length_cons, List.length_nil]; omega) ?_ ?_
              · obtain rfl := List.mem_singleton.1 hv
                refine ⟨by omega, fun u hu => ?_⟩
                exact hx u hu
              · dsimp only
                refine sub_step 0 rfl ?_
                refine sub_step 1 rfl ?_
                refine sub_step 0 rfl ?_
                exact sub_end
              · (repeat (first | exact True.intro | refine ⟨rfl, ?_⟩))
            | cons th tr =>
              have hct : (th :: tr).length = tr.length + 1 := rfl
              have hct2 : ∀ z : List Int, (th :: (tr ++ [z])).length = tr.length + 2 := fun z => by simp
              have hma : ∀ z : List Int, (tr ++ [z]).map Lrow = tr.map Lrow ++ [Lrow z] := fun z => by rw [List.map_append]; rfl
              refine jc_skip ?_
              refine jq_then ?_
              refine jc_freeze 8 1 rfl rfl (by rw [hc]; simp [hb]; exact fun _ h => .inl h) ?_
              refine jc_region ?_
              refine jl_op ?_ (nb rfl)
              refine ow_move rfl ?_
              refine jl_op ?_ (nb rfl)
              refine ow_move rfl ?_
              refine jl_op ?_ (nb rfl)
              refine ow_buildSlice rfl rfl (nb rfl) rfl rfl (nb rfl) ?_
              refine jl_op (ow_append (rows := [.val X0] :: tr.map Lrow) 1 rfl rfl rfl rfl rfl rfl rfl (fun row h => by rw [List.mem_singleton.1 h]; rfl) (by show (_ + 1) * 24 ≤ _; simp only [List.length_cons, List.length_map] at hlen ⊢; omega) (by show _ + 1 ≤ _; simp only [List.length_cons, List.length_map] at hlen ⊢; omega) (fun V2 hV2 => ?_)) (nb rfl)
              refine jl_op ?_ (nb rfl)
              refine ow_assign rfl ?_
              refine jl_nil ?_
              refine jq_block ?_
              refine jq_then ?_
              refine jc_region ?_
              refine jl_op ?_ (nb rfl)
              refine ow_move rfl ?_
              refine jl_op ?_ (nb rfl)
              refine ow_add64 rfl rfl (by omega) ?_
              refine jl_op ?_ (nb rfl)
              refine ow_assign rfl ?_
              refine jl_nil ?_
              refine jq_againS (i := (k, V, X0, th :: tr)) (m, V2, X0, th :: (tr ++ [x])) ⟨by dsimp only; rw [hct2]; omega, hm0, by dsimp only; rw [hct2]; omega, hV2, hX0, fun v hv => ?_⟩ (by dsimp only; rw [hct2]; omega) ?_ ?_
              · rcases List.mem_cons.1 hv with rfl | hv
                · exact hok _ (by simp)
                · rcases List.mem_append.1 hv with h | h
                  · exact hok v (by simp [h])
                  · obtain rfl := List.mem_singleton.1 h
                    refine ⟨by omega, fun u hu => ?_⟩
                    exact hx u hu
              · show Vc.Sub _ [.own V2 22 1 ([.val X0] :: (tr ++ [x]).map Lrow), Ow1 X0 th, Dk b L]
                rw [hma]
                refine sub_step 0 rfl ?_
                refine sub_step 1 rfl ?_
                refine sub_step 0 rfl ?_
                exact sub_end
              · dsimp only
                rw [show (((th :: (tr ++ [x])).length : Nat) : Int) = ((th :: tr).length : Int) + 1 by simp]
                (repeat (first | exact True.intro | refine ⟨rfl, ?_⟩))
    · have hl : to.length = n := by omega
      cases to with
      | nil => simp at hl; omega
      | cons th tr =>
        refine jc_exit ?_
        refine jq_then_exit ?_
        refine jq_then_exit ?_
        refine jq_block_exit ?_
        refine jq_then ?_
        refine jc_seq ?_
        refine jc_region ?_
        refine jl_op ?_ (nb rfl)
        refine ow_move rfl ?_
        refine jl_op ?_ (nb rfl)
        refine ow_assign rfl ?_
        refine jl_nil ?_
        refine jq_then ?_
        refine jc_ret ?_
        refine jq_ret1 rfl rfl [0, 0, 0] rfl (fun K h => h (V, X0, th, tr) ⟨⟨hl, hok⟩, hV, hX0⟩)
end Go.Proofs.Ytjkkkjikhjfdnaa
