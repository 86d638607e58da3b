import Derived.Test.YtjkkkjikhjfdnaaFb4
namespace Go.Proofs.Ytjkkkjikhjfdnaa
open Go.Vc
attribute [local irreducible] JL JC JQ OpWp Con ConN
attribute [local irreducible] isSmall isBlock
set_option maxHeartbeats 4000000

/-! Points -/
def joinL (to : List (List Int)) : List Int → List Int
  | [] => []
  | n :: r => to.getD n.toNat [] ++ joinL to r
theorem joinL_append (to : List (List Int)) (a b : List Int) : joinL to (a ++ b) = joinL to a ++ joinL to b := by
  induction a with
  | nil => rfl
  | cons n a ih => simp only [List.cons_append, joinL, ih, List.append_assoc]
theorem getD_le {to : List (List Int)} {c : Nat} (hl : ∀ l ∈ to, l.length ≤ c) (i : Nat) : (to.getD i []).length ≤ c := by
  rw [List.getD_eq_getElem?_getD]
  by_cases hx : i < to.length
  · rw [List.getElem?_eq_getElem hx, Option.getD_some]
    exact hl _ (List.getElem_mem hx)
  · rw [List.getElem?_eq_none (by omega), Option.getD_none]
    exact Nat.zero_le _
theorem joinL_len {to : List (List Int)} {c : Nat} (hl : ∀ l ∈ to, l.length ≤ c) : ∀ l : List Int, (joinL to l).length ≤ c * l.length
  | [] => by simp [joinL]
  | n :: r => by
    have h1 := joinL_len hl r
    have h2 := getD_le hl n.toNat
    simp only [joinL, List.length_append, List.length_cons, Nat.mul_add, Nat.mul_one]
    omega
theorem joinL_mem {to : List (List Int)} {x : Int} : ∀ {l : List Int}, x ∈ joinL to l → ∃ y ∈ to, x ∈ y
  | [], h => by cases h
  | n :: r, h => by
    rcases List.mem_append.1 h with h | h
    · exact toAt_mem (t := (n, 0)) h
    · exact joinL_mem h
theorem mapped_parts {to : List (List Int)} (h : mappedF to = true) : to.length ≤ 256 ∧ ∀ l ∈ to, l.length ≤ 256 ∧ ∀ x ∈ l, 0 ≤ x ∧ x < 256 := by
  unfold mappedF at h
  simp only [Bool.and_eq_true, Bool.not_eq_true', decide_eq_true_eq] at h
  refine ⟨h.1, fun l hl => ?_⟩
  have := List.any_eq_false.1 h.2 l hl
  unfold badList at this
  rw [Bool.or_eq_true, not_or, decide_eq_true_eq, Bool.not_eq_true, List.any_eq_false] at this
  refine ⟨by omega, fun x hx => isBlock_iff.1 (by have h2 := this.2 x hx; simpa using h2)⟩
def outI (to : List (List Int)) (n : Int) : Bool := decide ((to.length : Int) ≤ n)
def longJ (to : List (List Int)) (l : List Int) : Bool := decide (256 < (joinL to l).length)
def pointsF (points to : List (List Int)) : List (List Int) × Int :=
  if (!mappedF points || !mappedF to) = true then ([], 10) else if points.any (fun l => l.any (outI to)) = true then ([], 11) else if points.any (longJ to) = true then ([], 4) else (points.map (joinL to), 0)
theorem Points_c (points to : List (List Int)) : Con Try.prog 22 [.cell (.list (points.map Lrow)), .cell (.list (to.map Lrow))] [] (fun K => K (.tup [.cell (.list ((pointsF points to).1.map Lrow)), In .i64 (pointsF points to).2]) []) := by
  have eP : (points.map Lrow).length = points.length := List.length_map _
  have eT : (to.map Lrow).length = to.length := List.length_map _
  have hmp := mapped_c points
  have hmt := mapped_c to
  refine con_intro Try.func22 rfl rfl (Nat.le_of_ble_eq_true rfl) (fun c hc => ?_)
  cases h1 : mappedF points with
  | false =>
    rw [h1] at hmp
    have e : pointsF points to = ([], 10) := by unfold pointsF; rw [h1, Bool.not_false, Bool.true_or, if_pos rfl]
    refine jc_seq ?_
    refine jc_region ?_
    refine jl_op ?_ (nb rfl)
    refine ow_assign rfl ?_
    refine jl_op ?_ (nb rfl)
    refine ow_assign rfl ?_
    refine jl_nil ?_
    refine jq_then ?_
    refine jc_seq ?_
    refine jc_seq ?_
    refine jc_region ?_
    refine jl_op ?_ (nb rfl)
    refine ow_move rfl ?_
    refine jl_op ?_ (nb rfl)
    refine ow_call0 rfl (hmp) ?_
    refine jl_op ?_ (nb rfl)
    refine ow_not rfl ?_
    refine jl_op ?_ (nb rfl)
    refine ow_move rfl ?_
    refine jl_guardN rfl (by first | assumption | exact decide_eq_true rfl | exact decide_eq_true (by first | assumption | omega) | exact decide_eq_false (by first | assumption | omega) | with_reducible rfl | exact (rfl : false = !true) | exact (rfl : true = !false)) (nb rfl) ?_
    refine jl_guardN rfl (by first | assumption | exact decide_eq_true rfl | exact decide_eq_true (by first | assumption | omega) | exact decide_eq_false (by first | assumption | omega) | with_reducible rfl | exact (rfl : false = !true) | exact (rfl : true = !false)) (nb rfl) ?_
    refine jl_guardN rfl (by first | assumption | exact decide_eq_true rfl | exact decide_eq_true (by first | assumption | omega) | exact decide_eq_false (by first | assumption | omega) | with_reducible rfl | exact (rfl : false = !true) | exact (rfl : true = !false)) (nb rfl) ?_
    refine jl_op ?_ (nb rfl)
    refine ow_pickT rfl (by first | assumption | exact decide_eq_true rfl | exact decide_eq_true (by first | assumption | omega) | exact decide_eq_false (by first | assumption | omega) | with_reducible rfl | exact (rfl : false = !true) | exact (rfl : true = !false)) rfl ?_
    refine jl_nil ?_
    refine jq_then ?_
    refine jc_cond rfl (fun _ => ?_) (fun h => by cases h)
    refine jc_seq ?_
    refine jc_region ?_
    refine jl_op ?_ (nb rfl)
    refine ow_assign rfl ?_
    refine jl_op ?_ (nb rfl)
    refine ow_assign rfl ?_
    refine jl_nil ?_
    refine jq_then ?_
    refine jc_ret ?_
    refine jq_then_ret ?_
    refine jq_sle 4 rfl (SLe.cell CLe.nil) ?_
    refine jq_ret2 rfl rfl rfl [] rfl (fun K h => by rw [e] at h; exact h)
  | true =>
    rw [h1] at hmp
    cases h2 : mappedF to with
    | false =>
      rw [h2] at hmt
      have e : pointsF points to = ([], 10) := by unfold pointsF; rw [h2, Bool.not_false, Bool.or_true, if_pos rfl]
      refine jc_seq ?_
      refine jc_region ?_
      refine jl_op ?_ (nb rfl)
      refine ow_assign rfl ?_
      refine jl_op ?_ (nb rfl)
      refine ow_assign rfl ?_
      refine jl_nil ?_
      refine jq_then ?_
      refine jc_seq ?_
      refine jc_seq ?_
      refine jc_region ?_
      refine jl_op ?_ (nb rfl)
      refine ow_move rfl ?_
      refine jl_op ?_ (nb rfl)
      refine ow_call0 rfl (hmp) ?_
      refine jl_op ?_ (nb rfl)
      refine ow_not rfl ?_
      refine jl_op ?_ (nb rfl)
      refine ow_move rfl ?_
      refine jl_guardY rfl (by first | assumption | exact decide_eq_true rfl | exact decide_eq_true (by first | assumption | omega) | exact decide_eq_false (by first | assumption | omega) | with_reducible rfl | exact (rfl : false = !true) | exact (rfl : true = !false)) (nb rfl) ?_
      refine ow_move rfl ?_
      refine jl_guardY rfl (by first | assumption | exact decide_eq_true rfl | exact decide_eq_true (by first | assumption | omega) | exact decide_eq_false (by first | assumption | omega) | with_reducible rfl | exact (rfl : false = !true) | exact (rfl : true = !false)) (nb rfl) ?_
      refine ow_call0 rfl (hmt) ?_
      refine jl_guardY rfl (by first | assumption | exact decide_eq_true rfl | exact decide_eq_true (by first | assumption | omega) | exact decide_eq_false (by first | assumption | omega) | with_reducible rfl | exact (rfl : false = !true) | exact (rfl : true = !false)) (nb rfl) ?_
      refine ow_not rfl ?_
      refine jl_op ?_ (nb rfl)
      refine ow_pickF rfl (by first | assumption | exact decide_eq_true rfl | exact decide_eq_true (by first | assumption | omega) | exact decide_eq_false (by first | assumption | omega) | with_reducible rfl | exact (rfl : false = !true) | exact (rfl : true = !false)) rfl ?_
      refine jl_nil ?_
      refine jq_then ?_
      refine jc_cond rfl (fun _ => ?_) (fun h => by cases h)
      refine jc_seq ?_
      refine jc_region ?_
      refine jl_op ?_ (nb rfl)
      refine ow_assign rfl ?_
      refine jl_op ?_ (nb rfl)
      refine ow_assign rfl ?_
      refine jl_nil ?_
      refine jq_then ?_
      refine jc_ret ?_
      refine jq_then_ret ?_
      refine jq_sle 4 rfl (SLe.cell CLe.nil) ?_
      refine jq_ret2 rfl rfl rfl [] rfl (fun K h => by rw [e] at h; exact h)
    | true =>
      rw [h2] at hmt
      obtain ⟨p1, p2⟩ := mapped_parts h1
      obtain ⟨t1, t2⟩ := mapped_parts h2
      have hjl := fun l => joinL_len (fun l h => (t2 l h).1) l
      have eout : points.any (fun l => l.any (outI to)) = true → pointsF points to = ([], 11) := fun h => by
        unfold pointsF
        rw [h1, h2, if_neg (by decide), if_pos h]
      refine jc_seq ?_
      refine jc_region ?_
      refine jl_op ?_ (nb rfl)
      refine ow_assign rfl ?_
      refine jl_op ?_ (nb rfl)
      refine ow_assign rfl ?_
      refine jl_nil ?_
      refine jq_then ?_
      refine jc_seq ?_
      refine jc_seq ?_
      refine jc_region ?_
      refine jl_op ?_ (nb rfl)
      refine ow_move rfl ?_
      refine jl_op ?_ (nb rfl)
      refine ow_call0 rfl (hmp) ?_
      refine jl_op ?_ (nb rfl)
      refine ow_not rfl ?_
      refine jl_op ?_ (nb rfl)
      refine ow_move rfl ?_
      refine jl_guardY rfl (by first | assumption | exact decide_eq_true rfl | exact decide_eq_true (by first | assumption | omega) | exact decide_eq_false (by first | assumption | omega) | with_reducible rfl | exact (rfl : false = !true) | exact (rfl : true = !false)) (nb rfl) ?_
      refine ow_move rfl ?_
      refine jl_guardY rfl (by first | assumption | exact decide_eq_true rfl | exact decide_eq_true (by first | assumption | omega) | exact decide_eq_false (by first | assumption | omega) | with_reducible rfl | exact (rfl : false = !true) | exact (rfl : true = !false)) (nb rfl) ?_
      refine ow_call0 rfl (hmt) ?_
      refine jl_guardY rfl (by first | assumption | exact decide_eq_true rfl | exact decide_eq_true (by first | assumption | omega) | exact decide_eq_false (by first | assumption | omega) | with_reducible rfl | exact (rfl : false = !true) | exact (rfl : true = !false)) (nb rfl) ?_
      refine ow_not rfl ?_
      refine jl_op ?_ (nb rfl)
      refine ow_pickF rfl (by first | assumption | exact decide_eq_true rfl | exact decide_eq_true (by first | assumption | omega) | exact decide_eq_false (by first | assumption | omega) | with_reducible rfl | exact (rfl : false = !true) | exact (rfl : true = !false)) rfl ?_
      refine jl_nil ?_
      refine jq_then ?_
      refine jc_cond rfl (fun h => by cases h) (fun _ => ?_)
      refine jc_skip ?_
      refine jq_then ?_
      refine jc_seq ?_
      refine jc_region ?_
      refine jl_op ?_ (nb rfl)
      refine ow_assign rfl ?_
      refine jl_nil ?_
      refine jq_then ?_
      refine jc_seq ?_
      refine jc_region ?_
      refine jl_op ?_ (nb rfl)
      refine ow_assign rfl ?_
      refine jl_nil ?_
      refine jq_then ?_
      refine jc_seq ?_
      refine jc_seq ?_
      refine jc_region ?_
      refine jl_op ?_ (nb rfl)
      refine ow_move rfl ?_
      refine jl_op ?_ (nb rfl)
      refine ow_len rfl (fun hlen => ?_)
      refine jl_op ?_ (nb rfl)
      refine ow_move rfl ?_
      refine jl_nil ?_
      refine jq_then ?_
      refine jc_block ?_
      refine jc_ownNil 22 1 (by omega) ?_
      refine jc_loopS (ι := Nat × Value) [] (fun i => i.1 ≤ points.length ∧ i.2.oneCell' = true ∧ (points.take i.1).any (fun l => l.any (outI to)) = false) (fun i => [(1, .cell (.list (to.map Lrow))), (6, Bl ((points.take i.1).any (longJ to))), (7, .cell (.val i.2)), (21, .cell (.list (points.map Lrow))), (22, In .i64 ((points.map Lrow).length : Int)), (23, In .i64 (i.1 : Int))]) (fun i => [OwL i.2 ((points.take i.1).map (joinL to))]) (fun i => points.length - i.1) (0, .slice none 0 0) ⟨Nat.zero_le _, rfl, by rw [List.take_zero]; rfl⟩ ?_ ?_ ?_
      · show Vc.Sub _ (OwL _ ((points.take 0).map _) :: _)
        rw [List.take_zero]
        refine sub_step 0 rfl ?_
        exact sub_end
      · (repeat (first | exact True.intro | refine ⟨rfl, ?_⟩))
      · rintro ⟨k, V⟩ ⟨hk, hV, hno⟩
        dsimp only at hk hV hno ⊢
        refine jc_reset [(1, .cell (.list (to.map Lrow))), (6, Bl ((points.take k).any (longJ to))), (7, .cell (.val V)), (21, .cell (.list (points.map Lrow))), (22, In .i64 ((points.map Lrow).length : Int)), (23, In .i64 (k : Int))] [OwL V ((points.take k).map (joinL to))] ?_ ⟨[0], [], rfl⟩ ?_
        · (repeat (first | exact True.intro | refine ⟨rfl, ?_⟩))
        have eK : ((points.take k).map (joinL to)).length ≤ 256 := by rw [List.length_map, List.length_take]; omega
        have esl : k < points.length → ∀ (h : k < points.length), (points.take (k + 1)).map (joinL to) = (points.take k).map (joinL to) ++ [joinL to points[k]] := fun _ h => by
          rw [List.take_succ_eq_append_getElem h, List.map_append]
          rfl
        have eany : ∀ (h : k < points.length), (points.take (k + 1)).any (longJ to) = ((points.take k).any (longJ to) || longJ to points[k]) := fun h => by
          rw [List.take_succ_eq_append_getElem h, List.any_append]
          simp only [List.any_cons, List.any_nil, Bool.or_false]
        refine jc_seq ?_
        refine jc_region ?_
        refine jl_op ?_ (nb rfl)
        refine ow_lss rfl rfl ?_
        refine jl_nil ?_
        refine jq_then ?_
        refine jc_seq ?_
        refine jc_condd rfl (fun hlt => ?_) (fun hge => ?_)
        · have hlt' : k < points.length := by omega
          have hx := p2 _ (List.getElem_mem hlt')
          have eX : (points[k].map Irow).length = points[k].length := List.length_map _
          have esl' := esl hlt' hlt'
          have eany' := eany hlt'
          clear esl eany
          refine jc_skip ?_
          refine jq_then ?_
          refine jc_seq ?_
          refine jc_block ?_
          refine jc_seq ?_
          refine jc_region ?_
          refine jl_op ?_ (nb rfl)
          refine ow_indexAddrMapE rfl rfl (by omega) rfl rfl (nb rfl) ?_
          refine jl_op ?_ (nb rfl)
          refine ow_loadPlace rfl rfl ?_
          refine jl_op ?_ (nb rfl)
          refine ow_assign rfl ?_
          refine jl_nil ?_
          refine jq_then ?_
          refine jc_seq ?_
          refine jc_region ?_
          refine jl_op ?_ (nb rfl)
          refine ow_assign rfl ?_
          refine jl_nil ?_
          refine jq_then ?_
          refine jc_seq ?_
          refine jc_seq ?_
          refine jc_region ?_
          refine jl_op ?_ (nb rfl)
          refine ow_move rfl ?_
          refine jl_op ?_ (nb rfl)
          refine ow_len rfl (fun hlen => ?_)
          refine jl_op ?_ (nb rfl)
          refine ow_move rfl ?_
          refine jl_nil ?_
          refine jq_then ?_
          refine jc_block ?_
          refine jc_ownNil 3 1 (by omega) ?_
          refine jc_loopS (ι := Nat × Value) [] (fun i => i.1 ≤ points[k].length ∧ i.2.oneCell' = true ∧ (points[k].take i.1).any (outI to) = false) (fun i => [(1, .cell (.list (to.map Lrow))), (6, Bl ((points.take k).any (longJ to))), (7, .cell (.val V)), (21, .cell (.list (points.map Lrow))), (22, In .i64 ((points.map Lrow).length : Int)), (23, In .i64 (k : Int)), (10, .cell (.val i.2)), (27, .cell (.list (points[k].map Irow))), (28, In .i64 ((points[k].map Irow).length : Int)), (29, In .i64 (i.1 : Int))]) (fun i => [Ow1 i.2 (joinL to (points[k].take i.1)), OwL V ((points.take k).map (joinL to))]) (fun i => points[k].length - i.1) (0, .slice none 0 0) ⟨Nat.zero_le _, rfl, by rw [List.take_zero]; rfl⟩ ?_ ?_ ?_
          · show Vc.Sub _ (Ow1 _ (joinL to (points[k].take 0)) :: _)
            rw [List.take_zero]
            refine sub_step 0 rfl ?_
            refine sub_step 0 rfl ?_
            exact sub_end
          · (repeat (first | exact True.intro | refine ⟨rfl, ?_⟩))
          · rintro ⟨j, X⟩ ⟨hj, hX, hnoj⟩
            dsimp only at hj hX hnoj ⊢
            refine jc_reset [(1, .cell (.list (to.map Lrow))), (6, Bl ((points.take k).any (longJ to))), (7, .cell (.val V)), (21, .cell (.list (points.map Lrow))), (22, In .i64 ((points.map Lrow).length : Int)), (23, In .i64 (k : Int)), (10, .cell (.val X)), (27, .cell (.list (points[k].map Irow))), (28, In .i64 ((points[k].map Irow).length : Int)), (29, In .i64 (j : Int))] [Ow1 X (joinL to (points[k].take j)), OwL V ((points.take k).map (joinL to))] ?_ ⟨[0, 0], [], rfl⟩ ?_
            · (repeat (first | exact True.intro | refine ⟨rfl, ?_⟩))
            have hjj := hjl (points[k].take j)
            rw [List.length_take] at hjj
            refine jc_seq ?_
            refine jc_region ?_
            refine jl_op ?_ (nb rfl)
            refine ow_lss rfl rfl ?_
            refine jl_nil ?_
            refine jq_then ?_
            refine jc_seq ?_
            refine jc_condd rfl (fun hjlt => ?_) (fun hjge => ?_)
            · have hj' : j < points[k].length := by omega
              have hxj := hx.2 points[k][j] (List.getElem_mem hj')
              refine jc_skip ?_
              refine jq_then ?_
              refine jc_seq ?_
              refine jc_block ?_
              refine jc_seq ?_
              refine jc_region ?_
              refine jl_op ?_ (nb rfl)
              refine ow_indexAddrMapE rfl rfl (by omega) rfl rfl (nb rfl) ?_
              refine jl_op ?_ (nb rfl)
              refine ow_loadPlace rfl rfl ?_
              refine jl_op ?_ (nb rfl)
              refine ow_assign rfl ?_
              refine jl_nil ?_
              refine jq_then ?_
              refine jc_seq ?_
              refine jc_seq ?_
              refine jc_region ?_
              refine jl_op ?_ (nb rfl)
              refine ow_move rfl ?_
              refine jl_op ?_ (nb rfl)
              refine ow_move rfl ?_
              refine jl_op ?_ (nb rfl)
              refine ow_len rfl (fun hlen => ?_)
              refine jl_op ?_ (nb rfl)
              refine ow_geq rfl rfl ?_
              refine jl_nil ?_
              refine jq_then ?_
              refine jc_condd rfl (fun hout => ?_) (fun hnout => ?_)
              · have e := eout (List.any_eq_true.2 ⟨points[k], List.getElem_mem hlt', List.any_eq_true.2 ⟨points[k][j], List.getElem_mem hj', decide_eq_true (by omega)⟩⟩)
                refine jc_seq ?_
                refine jc_region ?_
                refine jl_op ?_ (nb rfl)
                refine ow_assign rfl ?_
                refine jl_op ?_ (nb rfl)
                refine ow_assign rfl ?_
                refine jl_nil ?_
                refine jq_then ?_
                refine jc_ret ?_
                refine jq_then_ret ?_
                refine jq_block_ret ?_
                refine jq_then_ret ?_
                refine jq_then_ret ?_
                refine jq_block_ret ?_
                refine jq_then_ret ?_
                refine jq_block_ret ?_
                refine jq_then_ret ?_
                refine jq_then_ret ?_
                refine jq_block_ret ?_
                refine jq_then_ret ?_
                refine jq_sle 4 rfl (SLe.cell CLe.nil) ?_
                refine jq_ret2 rfl rfl rfl [] rfl (fun K h => by rw [e] at h; exact h)
              · have hix : points[k][j].toNat < to.length := by omega
                have htl := (t2 to[points[k][j].toNat] (List.getElem_mem hix)).1
                have estep : joinL to (points[k].take (j + 1)) = joinL to (points[k].take j) ++ to[points[k][j].toNat] := by
                  rw [List.take_succ_eq_append_getElem hj', joinL_append]
                  simp only [joinL, List.append_nil]
                  rw [List.getD_eq_getElem?_getD, List.getElem?_eq_getElem hix, Option.getD_some]
                generalize joinL to (points[k].take j) = O at hjj estep ⊢
                refine jc_skip ?_
                refine jq_then ?_
                refine jc_region ?_
                refine jl_op ?_ (nb rfl)
                refine ow_move rfl ?_
                refine jl_op ?_ (nb rfl)
                refine ow_move rfl ?_
                refine jl_op ?_ (nb rfl)
                refine ow_move rfl ?_
                refine jl_op ?_ (nb rfl)
                refine ow_indexAddrMapI rfl rfl (by omega) (by omega) rfl rfl (nb rfl) ?_
                refine jl_op ?_ (nb rfl)
                refine ow_loadPlace rfl rfl ?_
                refine jl_op (ow_appendM 0 rfl rfl rfl rfl rfl rfl rfl (fun _ => rfl) (by show (_ + _) * 8 ≤ _; first | omega | (simp only [List.length_append]; omega)) (by first | omega | (simp only [List.length_append]; omega)) (fun X2 hX2 => ?_)) (nb rfl)
                refine jl_op ?_ (nb rfl)
                refine ow_assign rfl ?_
                refine jl_nil ?_
                refine jq_block ?_
                refine jq_then ?_
                refine jc_region ?_
                refine jl_op ?_ (nb rfl)
                refine ow_add64 rfl rfl (by omega) ?_
                refine jl_op ?_ (nb rfl)
                refine ow_move rfl ?_
                refine jl_nil ?_
                refine jq_againS (i := (j, X)) (j + 1, X2) ⟨by dsimp only; omega, hX2, ?_⟩ (by dsimp only; omega) ?_ ?_
                · dsimp only
                  rw [List.take_succ_eq_append_getElem hj', List.any_append, hnoj]
                  simp only [List.any_cons, List.any_nil, Bool.or_false, Bool.false_or]
                  exact decide_eq_false (by omega)
                · dsimp only
                  rw [estep]
                  refine sub_step 0 rfl ?_
                  refine sub_step 0 rfl ?_
                  exact sub_end
                · (repeat (first | exact True.intro | refine ⟨rfl, ?_⟩))
            · obtain rfl : j = points[k].length := by omega
              rw [List.take_length] at hnoj ⊢
              have hno2 : (points.take (k + 1)).any (fun l => l.any (outI to)) = false := by
                rw [List.take_succ_eq_append_getElem hlt', List.any_append, hno]
                simp only [List.any_cons, List.any_nil, Bool.or_false, Bool.false_or]
                exact hnoj
              have eJ : ((joinL to points[k]).map Irow).length = (joinL to points[k]).length := List.length_map _
              cases hlg : (points.take k).any (longJ to) with
              | true =>
                rw [hlg, Bool.true_or] at eany'
                refine jc_exit ?_
                refine jq_then_exit ?_
                refine jq_then_exit ?_
                refine jq_block_exit ?_
                refine jq_then ?_
                refine jc_seq ?_
                refine jc_region ?_
                refine jl_op ?_ (nb rfl)
                refine ow_move rfl ?_
                refine jl_op ?_ (nb rfl)
                refine ow_move rfl ?_
                refine jl_guardN rfl (by first | assumption | exact decide_eq_true rfl | exact decide_eq_true (by first | assumption | omega) | exact decide_eq_false (by first | assumption | omega) | with_reducible rfl | exact (rfl : false = !true) | exact (rfl : true = !false)) (nb rfl) ?_
                refine jl_guardN rfl (by first | assumption | exact decide_eq_true rfl | exact decide_eq_true (by first | assumption | omega) | exact decide_eq_false (by first | assumption | omega) | with_reducible rfl | exact (rfl : false = !true) | exact (rfl : true = !false)) (nb rfl) ?_
                refine jl_guardN rfl (by first | assumption | exact decide_eq_true rfl | exact decide_eq_true (by first | assumption | omega) | exact decide_eq_false (by first | assumption | omega) | with_reducible rfl | exact (rfl : false = !true) | exact (rfl : true = !false)) (nb rfl) ?_
                refine jl_op ?_ (nb rfl)
                refine ow_pickT rfl (by first | assumption | exact decide_eq_true rfl | exact decide_eq_true (by first | assumption | omega) | exact decide_eq_false (by first | assumption | omega) | with_reducible rfl | exact (rfl : false = !true) | exact (rfl : true = !false)) rfl ?_
                refine jl_op ?_ (nb rfl)
                refine ow_assign rfl ?_
                refine jl_nil ?_
                refine jq_then ?_
                refine jc_freeze 10 0 rfl rfl (by rw [hc]; simp [hb]) ?_
                refine jc_region ?_
                refine jl_op ?_ (nb rfl)
                refine ow_move rfl ?_
                refine jl_op ?_ (nb rfl)
                refine ow_move rfl ?_
                refine jl_op ?_ (nb rfl)
                refine ow_buildSlice rfl rfl (nb rfl) rfl rfl (nb rfl) ?_
                refine jl_op (ow_append1 0 ((joinL to points[k])) rfl rfl rfl rfl rfl rfl rfl (fun _ => rfl) (by show (_ + _) * 24 ≤ _; first | omega | (simp only [List.length_append]; omega)) (by first | omega | (simp only [List.length_append]; omega)) (fun V2 hV2 => ?_)) (nb rfl)
                refine jl_op ?_ (nb rfl)
                refine ow_assign rfl ?_
                refine jl_nil ?_
                refine jq_block ?_
                refine jq_then ?_
                refine jc_region ?_
                refine jl_op ?_ (nb rfl)
                refine ow_add64 rfl rfl (by omega) ?_
                refine jl_op ?_ (nb rfl)
                refine ow_move rfl ?_
                refine jl_nil ?_
                refine jq_againS (i := (k, V)) (k + 1, V2) ⟨by dsimp only; omega, hV2, hno2⟩ (by dsimp only; omega) ?_ ?_
                · dsimp only
                  rw [esl']
                  refine sub_step 0 rfl ?_
                  exact sub_end
                · dsimp only
                  rw [eany']
                  (repeat (first | exact True.intro | refine ⟨rfl, ?_⟩))
              | false =>
                rw [hlg, Bool.false_or, show longJ to points[k] = decide ((256 : Int) < (((joinL to points[k]).map Irow).length : Int)) from decide_eq_decide.2 (by omega)] at eany'
                refine jc_exit ?_
                refine jq_then_exit ?_
                refine jq_then_exit ?_
                refine jq_block_exit ?_
                refine jq_then ?_
                refine jc_seq ?_
                refine jc_region ?_
                refine jl_op ?_ (nb rfl)
                refine ow_move rfl ?_
                refine jl_op ?_ (nb rfl)
                refine ow_move rfl ?_
                refine jl_guardY rfl (by first | assumption | exact decide_eq_true rfl | exact decide_eq_true (by first | assumption | omega) | exact decide_eq_false (by first | assumption | omega) | with_reducible rfl | exact (rfl : false = !true) | exact (rfl : true = !false)) (nb rfl) ?_
                refine ow_move rfl ?_
                refine jl_guardY rfl (by first | assumption | exact decide_eq_true rfl | exact decide_eq_true (by first | assumption | omega) | exact decide_eq_false (by first | assumption | omega) | with_reducible rfl | exact (rfl : false = !true) | exact (rfl : true = !false)) (nb rfl) ?_
                refine ow_lenown 0 rfl rfl (fun hlen => ?_)
                refine jl_guardY rfl (by first | assumption | exact decide_eq_true rfl | exact decide_eq_true (by first | assumption | omega) | exact decide_eq_false (by first | assumption | omega) | with_reducible rfl | exact (rfl : false = !true) | exact (rfl : true = !false)) (nb rfl) ?_
                refine ow_gtr rfl rfl ?_
                refine jl_op ?_ (nb rfl)
                refine ow_pickF rfl (by first | assumption | exact decide_eq_true rfl | exact decide_eq_true (by first | assumption | omega) | exact decide_eq_false (by first | assumption | omega) | with_reducible rfl | exact (rfl : false = !true) | exact (rfl : true = !false)) rfl ?_
                refine jl_op ?_ (nb rfl)
                refine ow_assign rfl ?_
                refine jl_nil ?_
                refine jq_then ?_
                refine jc_freeze 10 0 rfl rfl (by rw [hc]; simp [hb]) ?_
                refine jc_region ?_
                refine jl_op ?_ (nb rfl)
                refine ow_move rfl ?_
                refine jl_op ?_ (nb rfl)
                refine ow_move rfl ?_
                refine jl_op ?_ (nb rfl)
                refine ow_buildSlice rfl rfl (nb rfl) rfl rfl (nb rfl) ?_
                refine jl_op (ow_append1 0 ((joinL to points[k])) rfl rfl rfl rfl rfl rfl rfl (fun _ => rfl) (by show (_ + _) * 24 ≤ _; first | omega | (simp only [List.length_append]; omega)) (by first | omega | (simp only [List.length_append]; omega)) (fun V2 hV2 => ?_)) (nb rfl)
                refine jl_op ?_ (nb rfl)
                refine ow_assign rfl ?_
                refine jl_nil ?_
                refine jq_block ?_
                refine jq_then ?_
                refine jc_region ?_
                refine jl_op ?_ (nb rfl)
                refine ow_add64 rfl rfl (by omega) ?_
                refine jl_op ?_ (nb rfl)
                refine ow_move rfl ?_
                refine jl_nil ?_
                refine jq_againS (i := (k, V)) (k + 1, V2) ⟨by dsimp only; omega, hV2, hno2⟩ (by dsimp only; omega) ?_ ?_
                · dsimp only
                  rw [esl']
                  refine sub_step 0 rfl ?_
                  exact sub_end
                · dsimp only
                  rw [eany']
                  (repeat (first | exact True.intro | refine ⟨rfl, ?_⟩))
        · obtain rfl : k = points.length := by omega
          rw [List.take_length] at hno ⊢
          refine jc_freeze 7 0 rfl rfl (by rw [hc]; simp [hb]) ?_
          refine jc_exit ?_
          refine jq_then_exit ?_
          refine jq_then_exit ?_
          refine jq_block_exit ?_
          refine jq_then ?_
          refine jc_seq ?_
          refine jc_seq ?_
          refine jc_region ?_
          refine jl_op ?_ (nb rfl)
          refine ow_move rfl ?_
          refine jl_nil ?_
          refine jq_then ?_
          refine jc_cond rfl (fun hlong => ?_) (fun hlong => ?_)
          · have e : pointsF points to = ([], 4) := by unfold pointsF; rw [h1, h2, if_neg (by decide), hno, if_neg (by decide), if_pos hlong]
            refine jc_seq ?_
            refine jc_region ?_
            refine jl_op ?_ (nb rfl)
            refine ow_assign rfl ?_
            refine jl_op ?_ (nb rfl)
            refine ow_assign rfl ?_
            refine jl_nil ?_
            refine jq_then ?_
            refine jc_ret ?_
            refine jq_then_ret ?_
            refine jq_sle 4 rfl (SLe.cell CLe.nil) ?_
            refine jq_ret2 rfl rfl rfl [] rfl (fun K h => by rw [e] at h; exact h)
          · have e : pointsF points to = (points.map (joinL to), 0) := by unfold pointsF; rw [h1, h2, if_neg (by decide), hno, if_neg (by decide), hlong, if_neg (by decide)]
            refine jc_skip ?_
            refine jq_then ?_
            refine jc_seq ?_
            refine jc_region ?_
            refine jl_op ?_ (nb rfl)
            refine ow_move rfl ?_
            refine jl_op ?_ (nb rfl)
            refine ow_assign rfl ?_
            refine jl_op ?_ (nb rfl)
            refine ow_assign rfl ?_
            refine jl_nil ?_
            refine jq_then ?_
            refine jc_ret ?_
            refine jq_ret2 rfl rfl rfl [] rfl (fun K h => by rw [e] at h; exact h)

/-! To map twice -/
def cnt (i : Int) : List Int → Int
  | [] => 0
  | n :: r => (if n = i then 1 else 0) + cnt i r
theorem cof_row (i c : Int) (x : List Int) : cof (x.map (fun n => (n, c))) i = c * cnt i x := by
  induction x with
  | nil => simp [cof, cnt]
  | cons n x ih =>
    simp only [List.map_cons, cof, cnt, ih, Int.mul_add]
    split <;> omega
theorem cof_mapT (to : List (List Int)) (i : Int) (l : List Tm) : cof (mapT to l) i = lin (fun n => cnt i (to.getD n.toNat [])) l := by
  induction l with
  | nil => rfl
  | cons t l ih => simp only [mapT, cof_append, lin, ih, cof_row, toAt]
theorem mapT_row (to : List (List Int)) (c : Int) (x : List Int) : mapT to (x.map (fun n => (n, c))) = (joinL to x).map (fun n => (n, c)) := by
  induction x with
  | nil => rfl
  | cons n x ih => simp only [List.map_cons, mapT, joinL, ih, List.map_append, toAt]
theorem mapT_twice (to again : List (List Int)) : ∀ {l : List Tm}, (∀ t ∈ l, 0 ≤ t.1 ∧ t.1 < (to.length : Int)) → mapT again (mapT to l) = mapT (to.map (joinL again)) l
  | [], _ => rfl
  | t :: l, h => by
    have ht := h t (by simp)
    have hx : t.1.toNat < to.length := by omega
    simp only [mapT, mapT_append, mapT_row]
    rw [mapT_twice to again (fun u hu => h u (by simp [hu]))]
    congr 2
    unfold toAt
    rw [List.getD_eq_getElem?_getD, List.getD_eq_getElem?_getD, List.getElem?_map, List.getElem?_eq_getElem hx]
    rfl
end Go.Proofs.Ytjkkkjikhjfdnaa
