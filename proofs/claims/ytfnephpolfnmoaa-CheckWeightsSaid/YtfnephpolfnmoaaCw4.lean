import Derived.Test.YtfnephpolfnmoaaCw3
namespace Go.Proofs.Ytfnephpolfnmoaa
open Go.Vc
attribute [local irreducible] JL JC JQ OpWp Con ConN

abbrev Irow (n : Int) : List C := [.val (.int .i64 n)]

def labSelf (s : Sm) : List Int := if s.kind = 3 ∨ s.kind = 4 then [s.label] else []
def labOne : Nat → Sm → List Int
  | 0, s => labSelf s
  | f + 1, s => labSelf s ++ s.thn.flatMap (labOne f) ++ s.els.flatMap (labOne f)

theorem wanted_c (n : Int) : Con Try.prog 17 [In .i64 n] [] (fun K => K (Bl (decide (n = 3 ∨ n = 4))) []) := by
  by_cases h3 : n = 3
  · refine con_intro Try.func17 rfl rfl (Nat.le_of_ble_eq_true rfl) (fun c hc => ?_)
    refine jc_seq ?_
    refine jc_region ?_
    refine jl_op ?_ (nb rfl)
    refine ow_assign rfl ?_
    refine jl_nil ?_
    refine jq_then ?_
    refine jc_seq ?_
    refine jc_region ?_
    refine jl_op ?_ (nb rfl)
    refine ow_move rfl ?_
    refine jl_op ?_ (nb rfl)
    refine ow_eql rfl rfl ?_
    refine jl_op ?_ (nb rfl)
    refine ow_move rfl ?_
    refine jl_guardN rfl (by first | assumption | exact decide_eq_true (by first | assumption | omega) | exact decide_eq_false (by first | assumption | omega) | with_reducible rfl) (nb rfl) ?_
    refine jl_guardN rfl (by first | assumption | exact decide_eq_true (by first | assumption | omega) | exact decide_eq_false (by first | assumption | omega) | with_reducible rfl) (nb rfl) ?_
    refine jl_op ?_ (nb rfl)
    refine ow_pickT rfl (by first | assumption | exact decide_eq_true (by first | assumption | omega) | exact decide_eq_false (by first | assumption | omega) | with_reducible rfl) rfl ?_
    refine jl_op ?_ (nb rfl)
    refine ow_assign rfl ?_
    refine jl_nil ?_
    refine jq_then ?_
    refine jc_ret ?_
    refine jq_ret1 rfl rfl [] rfl (fun K h => by simpa [h3] using h)
  · refine con_intro Try.func17 rfl rfl (Nat.le_of_ble_eq_true rfl) (fun c hc => ?_)
    refine jc_seq ?_
    refine jc_region ?_
    refine jl_op ?_ (nb rfl)
    refine ow_assign rfl ?_
    refine jl_nil ?_
    refine jq_then ?_
    refine jc_seq ?_
    refine jc_region ?_
    refine jl_op ?_ (nb rfl)
    refine ow_move rfl ?_
    refine jl_op ?_ (nb rfl)
    refine ow_eql rfl rfl ?_
    refine jl_op ?_ (nb rfl)
    refine ow_move rfl ?_
    refine jl_guardY rfl (by first | assumption | exact decide_eq_true (by first | assumption | omega) | exact decide_eq_false (by first | assumption | omega) | with_reducible rfl) (nb rfl) ?_
    refine ow_move rfl ?_
    refine jl_guardY rfl (by first | assumption | exact decide_eq_true (by first | assumption | omega) | exact decide_eq_false (by first | assumption | omega) | with_reducible rfl) (nb rfl) ?_
    refine ow_eql rfl rfl ?_
    refine jl_op ?_ (nb rfl)
    refine ow_pickF rfl (by first | assumption | exact decide_eq_true (by first | assumption | omega) | exact decide_eq_false (by first | assumption | omega) | with_reducible rfl) rfl ?_
    refine jl_op ?_ (nb rfl)
    refine ow_assign rfl ?_
    refine jl_nil ?_
    refine jq_then ?_
    refine jc_ret ?_
    refine jq_ret1 rfl rfl [] rfl (fun K h => by simpa [h3] using h)

theorem flat_take {f : Sm → List Int} {l : List Sm} {k : Nat} (h : k < l.length) : (l.take (k + 1)).flatMap f = (l.take k).flatMap f ++ f l[k] := by
  rw [List.take_succ_eq_append_getElem h, List.flatMap_append]; simp
theorem flat_le {f : Sm → List Int} {l : List Sm} {k : Nat} (h : k < l.length) : ((l.take k).flatMap f).length + (f l[k]).length ≤ (l.flatMap f).length := by
  have h1 : l = l.take k ++ l[k] :: l.drop (k + 1) := by rw [List.getElem_cons_drop, List.take_append_drop]
  have h2 : (l.flatMap f).length = ((l.take k ++ l[k] :: l.drop (k + 1)).flatMap f).length := by rw [← h1]
  rw [h2]
  simp only [List.flatMap_append, List.flatMap_cons, List.length_append]
  omega

theorem labels_c : ∀ (f : Nat) (l : List Sm) (depth : Int), 0 ≤ depth → depth + f = 20 → (l.flatMap (labOne f)).length ≤ 1000000 →
    Con Try.prog 16 [.cell (.list (l.map Sm.row)), In .i64 depth, .cell (.val (.func (.func 17) #[] #[]))] [] (fun K => K (.cell (.list ((l.flatMap (labOne f)).map Irow))) []) := by
  intro f
  induction f with
  | zero =>
    intro l depth h0 h1 hlim
    refine con_intro Try.func16 rfl rfl (Nat.le_of_ble_eq_true rfl) (fun c hc => ?_)
    refine jc_seq ?_
    refine jc_region ?_
    refine jl_op ?_ (nb rfl)
    refine ow_assign rfl ?_
    refine jl_nil ?_
    refine jq_then ?_
    refine jc_seq ?_
    refine jc_region ?_
    refine jl_op ?_ (nb rfl)
    refine ow_assign rfl ?_
    refine jl_nil ?_
    refine jq_then ?_
    refine jc_seq ?_
    refine jc_seq ?_
    refine jc_region ?_
    refine jl_op ?_ (nb rfl)
    refine ow_move rfl ?_
    refine jl_op ?_ (nb rfl)
    refine ow_len rfl (fun hlen => ?_)
    refine jl_op ?_ (nb rfl)
    refine ow_move rfl ?_
    refine jl_nil ?_
    refine jq_then ?_
    refine jc_block ?_
    have hmax : l.length ≤ 9223372036854775807 := by simpa using hlen
    refine jc_ownNil 3 1 (by omega) ?_
    refine jc_loop (ι := Nat × Value) [1, 2, 10, 11] (fun i => i.1 ≤ l.length) (fun i => [(7, .cell (.val i.2)), (12, In .i64 (i.1 : Int))]) (fun i => [.own i.2 3 1 (((l.take i.1).flatMap (labOne 0)).map Irow)]) (fun i => l.length - i.1) (0, .slice none 0 0) [0] (Nat.zero_le _) rfl ?_ ?_
    · (repeat (first | exact True.intro | refine ⟨rfl, ?_⟩))
    · rintro ⟨k, v⟩ hk
      dsimp only at hk ⊢
      refine jc_seq ?_
      refine jc_region ?_
      refine jl_op ?_ (nb rfl)
      refine ow_lss rfl rfl ?_
      refine jl_nil ?_
      refine jq_then ?_
      refine jc_seq ?_
      refine jc_condd rfl (fun hlt => ?_) (fun hge => ?_)
      · simp only [List.length_map, Int.ofNat_lt] at hlt
        have hle := flat_le (f := labOne 0) hlt
        refine jc_skip ?_
        refine jq_then ?_
        refine jc_seq ?_
        refine jc_block ?_
        refine jc_seq ?_
        refine jc_region ?_
        refine jl_op ?_ (nb rfl)
        refine ow_indexAddrMapE rfl rfl (by omega) (Sm.row_eq _) rfl (nb rfl) ?_
        refine jl_op ?_ (nb rfl)
        refine ow_loadPlaceN rfl rfl rfl ?_
        refine jl_op ?_ (nb rfl)
        refine ow_alloc rfl rfl (fun bl => ?_)
        refine jl_op0 ?_
        refine ow_storeAll 0 rfl rfl rfl rfl rfl rfl ?_
        refine jl_nil ?_
        refine jq_then ?_
        refine jc_seq ?_
        refine jc_seq ?_
        refine jc_region ?_
        refine jl_op ?_ (nb rfl)
        refine ow_move rfl ?_
        refine jl_op ?_ (nb rfl)
        refine ow_fieldAddr rfl rfl rfl (nb rfl) ?_
        refine jl_op ?_ (nb rfl)
        refine ow_load 0 rfl rfl rfl rfl ?_
        refine jl_op (ow_callv0 rfl rfl (wanted_c _) ?_) (nb rfl)
        refine jl_nil ?_
        refine jq_then ?_
        refine jc_cut (ι := Value) [1, 2, 9, 10, 11, 12] (fun _ => True) (fun v => [(7, .cell (.val v))]) (fun v => [.own v 3 1 (((l.take k).flatMap (labOne 0) ++ labSelf l[k]).map Irow), .blk bl 45 l[k].row']) ?_ ?_
        · have hself : (labSelf l[k]).length ≤ (labOne 0 l[k]).length := Nat.le_refl _
          refine jc_condd rfl (fun hw => ?_) (fun hw => ?_)
          · have e1 : labSelf l[k] = [l[k].label] := by simp [labSelf, hw]
            rw [e1] at hself ⊢
            simp only [List.length_cons, List.length_nil] at hself
            refine jc_region ?_
            refine jl_op ?_ (nb rfl)
            refine ow_move rfl ?_
            refine jl_op ?_ (nb rfl)
            refine ow_fieldAddr rfl rfl rfl (nb rfl) ?_
            refine jl_op ?_ (nb rfl)
            refine ow_load 0 rfl rfl rfl rfl ?_
            refine jl_op ?_ (nb rfl)
            refine ow_buildSlice rfl rfl (nb rfl) rfl rfl (nb rfl) ?_
            refine jl_op (ow_append1 1 (l[k].label) rfl rfl rfl rfl rfl rfl rfl (fun _ => rfl) (by show (_ + _) * 8 ≤ _; first | omega | (simp only [List.length_append]; omega)) (by first | omega | (simp only [List.length_append]; omega)) (fun v1 hv1 => ?_)) (nb rfl)
            refine jl_op ?_ (nb rfl)
            refine ow_assign rfl ?_
            refine jl_nil ?_
            refine jq_cut v1 [0, 0] trivial rfl ?_
            (repeat (first | exact True.intro | refine ⟨rfl, ?_⟩))
          · have e1 : labSelf l[k] = [] := by simp [labSelf, hw]
            rw [e1, List.append_nil]
            refine jc_skip ?_
            refine jq_cut v [1, 0] trivial rfl ?_
            (repeat (first | exact True.intro | refine ⟨rfl, ?_⟩))
        · intro v1 _
          refine jc_seq ?_
          refine jc_region ?_
          refine jl_op ?_ (nb rfl)
          refine ow_move rfl ?_
          refine jl_op ?_ (nb rfl)
          refine ow_lss rfl rfl ?_
          refine jl_nil ?_
          refine jq_then ?_
          refine jc_condd rfl (fun hd => by omega) (fun hd => ?_)
          refine jc_skip ?_
          refine jq_block ?_
          refine jq_then ?_
          refine jc_region ?_
          refine jl_op ?_ (nb rfl)
          refine ow_add64 rfl rfl (by omega) ?_
          refine jl_op ?_ (nb rfl)
          refine ow_move rfl ?_
          refine jl_nil ?_
          refine jq_again (i := (k, v)) (k + 1, v1) [0] hlt (by dsimp only; omega) (own_eq (congrArg (List.map Irow) ?_)) ?_
          · rw [flat_take hlt]
            rfl
          · (repeat (first | exact True.intro | refine ⟨rfl, ?_⟩))
      · simp only [List.length_map, Int.ofNat_lt] at hge
        refine jc_exit ?_
        refine jq_then_exit ?_
        refine jq_then_exit ?_
        refine jq_block_exit ?_
        refine jq_then ?_
        refine jc_seq ?_
        refine jc_region ?_
        refine jl_op ?_ (nb rfl)
        refine ow_move rfl ?_
        refine jl_op ?_ (nb rfl)
        refine ow_assign rfl ?_
        refine jl_nil ?_
        refine jq_then ?_
        refine jc_ret ?_
        rw [List.take_of_length_le (Nat.le_of_not_lt hge)]
        refine jq_freeze 6 0 rfl rfl (by rw [hc]; simp [hb]) ?_
        refine jq_ret1 rfl rfl [] rfl (fun K h => h)
  | succ f ih =>
    intro l depth h0 h1 hlim
    refine con_intro Try.func16 rfl rfl (Nat.le_of_ble_eq_true rfl) (fun c hc => ?_)
    refine jc_seq ?_
    refine jc_region ?_
    refine jl_op ?_ (nb rfl)
    refine ow_assign rfl ?_
    refine jl_nil ?_
    refine jq_then ?_
    refine jc_seq ?_
    refine jc_region ?_
    refine jl_op ?_ (nb rfl)
    refine ow_assign rfl ?_
    refine jl_nil ?_
    refine jq_then ?_
    refine jc_seq ?_
    refine jc_seq ?_
    refine jc_region ?_
    refine jl_op ?_ (nb rfl)
    refine ow_move rfl ?_
    refine jl_op ?_ (nb rfl)
    refine ow_len rfl (fun hlen => ?_)
    refine jl_op ?_ (nb rfl)
    refine ow_move rfl ?_
    refine jl_nil ?_
    refine jq_then ?_
    refine jc_block ?_
    have hmax : l.length ≤ 9223372036854775807 := by simpa using hlen
    refine jc_ownNil 3 1 (by omega) ?_
    refine jc_loop (ι := Nat × Value) [1, 2, 10, 11] (fun i => i.1 ≤ l.length) (fun i => [(7, .cell (.val i.2)), (12, In .i64 (i.1 : Int))]) (fun i => [.own i.2 3 1 (((l.take i.1).flatMap (labOne (f + 1))).map Irow)]) (fun i => l.length - i.1) (0, .slice none 0 0) [0] (Nat.zero_le _) rfl ?_ ?_
    · (repeat (first | exact True.intro | refine ⟨rfl, ?_⟩))
    · rintro ⟨k, v⟩ hk
      dsimp only at hk ⊢
      refine jc_seq ?_
      refine jc_region ?_
      refine jl_op ?_ (nb rfl)
      refine ow_lss rfl rfl ?_
      refine jl_nil ?_
      refine jq_then ?_
      refine jc_seq ?_
      refine jc_condd rfl (fun hlt => ?_) (fun hge => ?_)
      · simp only [List.length_map, Int.ofNat_lt] at hlt
        have hle := flat_le (f := labOne (f + 1)) hlt
        refine jc_skip ?_
        refine jq_then ?_
        refine jc_seq ?_
        refine jc_block ?_
        refine jc_seq ?_
        refine jc_region ?_
        refine jl_op ?_ (nb rfl)
        refine ow_indexAddrMapE rfl rfl (by omega) (Sm.row_eq _) rfl (nb rfl) ?_
        refine jl_op ?_ (nb rfl)
        refine ow_loadPlaceN rfl rfl rfl ?_
        refine jl_op ?_ (nb rfl)
        refine ow_alloc rfl rfl (fun bl => ?_)
        refine jl_op0 ?_
        refine ow_storeAll 0 rfl rfl rfl rfl rfl rfl ?_
        refine jl_nil ?_
        refine jq_then ?_
        refine jc_seq ?_
        refine jc_seq ?_
        refine jc_region ?_
        refine jl_op ?_ (nb rfl)
        refine ow_move rfl ?_
        refine jl_op ?_ (nb rfl)
        refine ow_fieldAddr rfl rfl rfl (nb rfl) ?_
        refine jl_op ?_ (nb rfl)
        refine ow_load 0 rfl rfl rfl rfl ?_
        refine jl_op (ow_callv0 rfl rfl (wanted_c _) ?_) (nb rfl)
        refine jl_nil ?_
        refine jq_then ?_
        refine jc_cut (ι := Value) [1, 2, 9, 10, 11, 12] (fun _ => True) (fun v => [(7, .cell (.val v))]) (fun v => [.own v 3 1 (((l.take k).flatMap (labOne (f + 1)) ++ labSelf l[k]).map Irow), .blk bl 45 l[k].row']) ?_ ?_
        · have hself : (labSelf l[k]).length ≤ (labOne (f + 1) l[k]).length := by simp only [labOne, List.length_append]; omega
          refine jc_condd rfl (fun hw => ?_) (fun hw => ?_)
          · have e1 : labSelf l[k] = [l[k].label] := by simp [labSelf, hw]
            rw [e1] at hself ⊢
            simp only [List.length_cons, List.length_nil] at hself
            refine jc_region ?_
            refine jl_op ?_ (nb rfl)
            refine ow_move rfl ?_
            refine jl_op ?_ (nb rfl)
            refine ow_fieldAddr rfl rfl rfl (nb rfl) ?_
            refine jl_op ?_ (nb rfl)
            refine ow_load 0 rfl rfl rfl rfl ?_
            refine jl_op ?_ (nb rfl)
            refine ow_buildSlice rfl rfl (nb rfl) rfl rfl (nb rfl) ?_
            refine jl_op (ow_append1 1 (l[k].label) rfl rfl rfl rfl rfl rfl rfl (fun _ => rfl) (by show (_ + _) * 8 ≤ _; first | omega | (simp only [List.length_append]; omega)) (by first | omega | (simp only [List.length_append]; omega)) (fun v1 hv1 => ?_)) (nb rfl)
            refine jl_op ?_ (nb rfl)
            refine ow_assign rfl ?_
            refine jl_nil ?_
            refine jq_cut v1 [0, 0] trivial rfl ?_
            (repeat (first | exact True.intro | refine ⟨rfl, ?_⟩))
          · have e1 : labSelf l[k] = [] := by simp [labSelf, hw]
            rw [e1, List.append_nil]
            refine jc_skip ?_
            refine jq_cut v [1, 0] trivial rfl ?_
            (repeat (first | exact True.intro | refine ⟨rfl, ?_⟩))
        · intro v1 _
          have e2 : labOne (f + 1) l[k] = labSelf l[k] ++ l[k].thn.flatMap (labOne f) ++ l[k].els.flatMap (labOne f) := rfl
          have hl2 := congrArg List.length e2
          simp only [List.length_append] at hl2
          refine jc_seq ?_
          refine jc_region ?_
          refine jl_op ?_ (nb rfl)
          refine ow_move rfl ?_
          refine jl_op ?_ (nb rfl)
          refine ow_lss rfl rfl ?_
          refine jl_nil ?_
          refine jq_then ?_
          refine jc_condd rfl (fun hd => ?_) (fun hd => by omega)
          refine jc_seq ?_
          refine jc_region ?_
          refine jl_op ?_ (nb rfl)
          refine ow_move rfl ?_
          refine jl_op ?_ (nb rfl)
          refine ow_fieldAddr rfl rfl rfl (nb rfl) ?_
          refine jl_op ?_ (nb rfl)
          refine ow_load 1 rfl rfl rfl rfl ?_
          refine jl_op ?_ (nb rfl)
          refine ow_move rfl ?_
          refine jl_op ?_ (nb rfl)
          refine ow_add64 rfl rfl (by omega) ?_
          refine jl_op ?_ (nb rfl)
          refine ow_move rfl ?_
          refine jl_op ?_ (nb rfl)
          refine ow_call0 rfl (ih _ _ (by omega) (by omega) (by omega)) ?_
          refine jl_op (ow_appendM 0 rfl rfl rfl rfl rfl rfl rfl (fun _ => rfl) (by show (_ + _) * 8 ≤ _; first | omega | (simp only [List.length_append]; omega)) (by first | omega | (simp only [List.length_append]; omega)) (fun v2 hv2 => ?_)) (nb rfl)
          refine jl_op ?_ (nb rfl)
          refine ow_assign rfl ?_
          refine jl_nil ?_
          refine jq_then ?_
          refine jc_region ?_
          refine jl_op ?_ (nb rfl)
          refine ow_move rfl ?_
          refine jl_op ?_ (nb rfl)
          refine ow_fieldAddr rfl rfl rfl (nb rfl) ?_
          refine jl_op ?_ (nb rfl)
          refine ow_load 1 rfl rfl rfl rfl ?_
          refine jl_op ?_ (nb rfl)
          refine ow_move rfl ?_
          refine jl_op ?_ (nb rfl)
          refine ow_add64 rfl rfl (by omega) ?_
          refine jl_op ?_ (nb rfl)
          refine ow_move rfl ?_
          refine jl_op ?_ (nb rfl)
          refine ow_call0 rfl (ih _ _ (by omega) (by omega) (by omega)) ?_
          refine jl_op (ow_appendM 0 rfl rfl rfl rfl rfl rfl rfl (fun _ => rfl) (by show (_ + _) * 8 ≤ _; first | omega | (simp only [List.length_append]; omega)) (by first | omega | (simp only [List.length_append]; omega)) (fun v3 hv3 => ?_)) (nb rfl)
          refine jl_op ?_ (nb rfl)
          refine ow_assign rfl ?_
          refine jl_nil ?_
          refine jq_block ?_
          refine jq_then ?_
          refine jc_region ?_
          refine jl_op ?_ (nb rfl)
          refine ow_add64 rfl rfl (by omega) ?_
          refine jl_op ?_ (nb rfl)
          refine ow_move rfl ?_
          refine jl_nil ?_
          refine jq_again (i := (k, v)) (k + 1, v3) [0] hlt (by dsimp only; omega) (own_eq (congrArg (List.map Irow) ?_)) ?_
          · rw [flat_take hlt, e2]
            simp only [List.append_assoc]
          · (repeat (first | exact True.intro | refine ⟨rfl, ?_⟩))
      · simp only [List.length_map, Int.ofNat_lt] at hge
        refine jc_exit ?_
        refine jq_then_exit ?_
        refine jq_then_exit ?_
        refine jq_block_exit ?_
        refine jq_then ?_
        refine jc_seq ?_
        refine jc_region ?_
        refine jl_op ?_ (nb rfl)
        refine ow_move rfl ?_
        refine jl_op ?_ (nb rfl)
        refine ow_assign rfl ?_
        refine jl_nil ?_
        refine jq_then ?_
        refine jc_ret ?_
        rw [List.take_of_length_le (Nat.le_of_not_lt hge)]
        refine jq_freeze 6 0 rfl rfl (by rw [hc]; simp [hb]) ?_
        refine jq_ret1 rfl rfl [] rfl (fun K h => h)

def labelsOf (l : List Sm) : List Int := l.flatMap (labOne 19)
theorem Labels_c (l : List Sm) (h : (labelsOf l).length ≤ 1000000) : Con Try.prog 10 [.cell (.list (l.map Sm.row))] [] (fun K => K (.cell (.list ((labelsOf l).map Irow))) []) := by
  refine con_intro Try.func10 rfl rfl (Nat.le_of_ble_eq_true rfl) (fun c hc => ?_)
  refine jc_seq ?_
  refine jc_region ?_
  refine jl_op ?_ (nb rfl)
  refine ow_assign rfl ?_
  refine jl_nil ?_
  refine jq_then ?_
  refine jc_seq ?_
  refine jc_region ?_
  refine jl_op ?_ (nb rfl)
  refine ow_move rfl ?_
  refine jl_op ?_ (nb rfl)
  refine ow_call0 rfl (labels_c 19 _ _ (by omega) (by omega) h) ?_
  refine jl_op ?_ (nb rfl)
  refine ow_assign rfl ?_
  refine jl_nil ?_
  refine jq_then ?_
  refine jc_ret ?_
  refine jq_ret1 rfl rfl [] rfl (fun K h => h)

end Go.Proofs.Ytfnephpolfnmoaa
