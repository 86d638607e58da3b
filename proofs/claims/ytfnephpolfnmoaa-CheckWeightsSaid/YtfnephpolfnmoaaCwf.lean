import Derived.Test.YtfnephpolfnmoaaCwe
namespace Go.Proofs.Ytfnephpolfnmoaa
open Go.Vc
set_option maxHeartbeats 4000000
attribute [local irreducible] JL JC JQ OpWp Con ConN

abbrev Prow (ls : List (List Sm)) : List C := [.any, .any, .list (ls.map Trow)]

section
variable {L : List Int} {bd : Nat}

theorem programs_c (hL : InR L) (hLn : L.length ≤ 400) (T W N : Int) (hT : 0 ≤ T ∧ T ≤ 6) (hW : 0 ≤ W ∧ W ≤ 1000000) (hN : 0 ≤ N ∧ N ≤ 14) :
    Con Try.prog 14 [Ptr bd, In .i64 T, In .i64 W, In .i64 N] [Dk bd L] (fun K => ∀ ls : List (List Sm), (ls.length = T.toNat ∧ ∀ l ∈ ls, Good W l) → K (.row (Prow ls)) [Dk bd L]) := by
  refine con_intro Try.func14 rfl rfl (Nat.le_of_ble_eq_true rfl) (fun c hc => ?_)
  refine jc_seq ?_
  refine jc_region ?_
  refine jl_op (ow_alloc rfl rfl (fun b8 => ?_)) (nb rfl)
  refine jl_nil ?_
  refine jq_then ?_
  refine jc_seq ?_
  refine jc_region ?_
  refine jl_op (ow_alloc rfl rfl (fun b9 => ?_)) (nb rfl)
  refine jl_nil ?_
  refine jq_then ?_
  refine jc_seq ?_
  refine jc_seq ?_
  refine jc_region ?_
  refine jl_op ?_ (nb rfl)
  refine ow_move rfl ?_
  refine jl_op (ow_callP [2] rfl rfl (Nx_c _ hL hLn (by omega)) (fun k1 hk1 => ?_)) (nb rfl)
  refine jl_op ?_ (nb rfl)
  refine ow_assign rfl ?_
  refine jl_nil ?_
  refine jq_then ?_
  refine jc_ownNil 9 1 (by omega) ?_
  obtain ⟨n1, hn1⟩ : ∃ n : Nat, k1 = (n : Int) := ⟨k1.toNat, by omega⟩
  subst hn1
  refine jc_cut (ι := Value × List ByteArray) [] (fun i => c.Fresh i.1 ∧ i.2.length ≤ 3) (fun _ => [(0, Ptr bd), (1, In .i64 T), (2, In .i64 W), (3, In .i64 N), (8, Ptr b8), (9, Ptr b9)])
    (fun i => [.blk b9 38 [.val i.1, NilC, NilC], .own i.1 9 1 (i.2.map Srow), Dk bd L, .blk b8 38 [NilC, NilC, NilC]]) ?_ ?_
  · refine jc_block ?_
    refine jc_loopS (ι := Nat × Value × List ByteArray) [] (fun i => i.1 ≤ 3 ∧ c.Fresh i.2.1 ∧ i.2.2.length + i.1 ≤ 3) (fun i => (10, In .i64 (i.1 : Int)) :: [(0, Ptr bd), (1, In .i64 T), (2, In .i64 W), (3, In .i64 N), (8, Ptr b8), (9, Ptr b9)])
      (fun i => [.blk b9 38 [.val i.2.1, NilC, NilC], .own i.2.1 9 1 (i.2.2.map Srow), Dk bd L, .blk b8 38 [NilC, NilC, NilC]]) (fun i => i.1) (n1, .slice none 0 0, []) ⟨by dsimp only; omega, fresh_nil, by dsimp only; simp only [List.length_nil]; omega⟩ ?_ ?_ ?_
    · refine sub_step 2 rfl ?_
      refine sub_step 0 rfl ?_
      refine sub_step 0 rfl ?_
      refine sub_step 0 rfl ?_
      exact sub_end
    · (repeat (first | exact True.intro | refine ⟨rfl, ?_⟩))
    · rintro ⟨k, vR, lR⟩ ⟨hk, hfR, hlR⟩
      dsimp only at hk hfR hlR ⊢
      rcases k with _ | k
      · refine jc_seq ?_
        refine jc_seq ?_
        refine jc_region ?_
        refine jl_op ?_ (nb rfl)
        refine ow_move rfl ?_
        refine jl_op ?_ (nb rfl)
        refine ow_gtr rfl rfl ?_
        refine jl_nil ?_
        refine jq_then ?_
        refine jc_cond rfl (fun h => by cases h) (fun _ => ?_)
        refine jc_exit ?_
        refine jq_then_exit ?_
        refine jq_then_exit ?_
        refine jq_block_exit ?_
        refine jq_cutS (vR, lR) ⟨hfR, by dsimp only; omega⟩ ?_ ?_
        · refine sub_step 0 rfl ?_
          refine sub_step 0 rfl ?_
          refine sub_step 0 rfl ?_
          refine sub_step 0 rfl ?_
          exact sub_end
        · (repeat (first | exact True.intro | refine ⟨rfl, ?_⟩))
      · refine jc_seq ?_
        refine jc_seq ?_
        refine jc_region ?_
        refine jl_op ?_ (nb rfl)
        refine ow_move rfl ?_
        refine jl_op ?_ (nb rfl)
        refine ow_gtr rfl rfl ?_
        refine jl_nil ?_
        refine jq_then ?_
        refine jc_condd rfl (fun _ => ?_) (fun h => by omega)
        refine jc_skip ?_
        refine jq_then ?_
        refine jc_seq ?_
        refine jc_block ?_
        refine jc_anyB 8 none rfl (by kernel_rfl) (by kernel_rfl) ?_
        have hk3 : k = 0 ∨ k = 1 ∨ k = 2 := by omega
        rcases hk3 with rfl | rfl | rfl
        · refine any_op (fun c => ow_fieldAddr rfl rfl rfl (nb rfl) ⟨rfl, List.Perm.refl _⟩) ?_
          refine any_op (fun c => ow_load 0 rfl rfl rfl rfl ⟨rfl, List.Perm.refl _⟩) ?_
          refine any_op (fun c => ow_buildSlice rfl rfl (nb rfl) rfl rfl (nb rfl) ⟨rfl, List.Perm.refl _⟩) ?_
          refine any_op (fun c => ow_move rfl ⟨rfl, List.Perm.refl _⟩) ?_
          refine any_op (fun c => ow_rem rfl rfl (by omega) ⟨rfl, List.Perm.refl _⟩) ?_
          refine any_op (fun c => ow_indexAddr rfl rfl (by decide) rfl rfl (nb rfl) ⟨rfl, .refl _⟩) ?_
          refine any_op (fun c => ow_loadPlace rfl rfl ⟨rfl, List.Perm.refl _⟩) ?_
          refine any_op (fun c => ow_buildSlice rfl rfl (nb rfl) rfl rfl (nb rfl) ⟨rfl, List.Perm.refl _⟩) ?_
          refine any_nil ?_
          refine afin_none ?_
          (first | refine jl_op (ow_append1F 1 (⟨#[115]⟩) rfl rfl rfl rfl rfl rfl rfl (fun _ => rfl) (by show (_ + _) * 16 ≤ _; first | omega | (simp only [List.length_append]; omega)) (by first | omega | (simp only [List.length_append]; omega)) (fun vR1 hvR1 fvR1 => ?_)) (nb rfl) | refine jl_op (ow_append1F 2 (⟨#[115]⟩) rfl rfl rfl rfl rfl rfl rfl (fun _ => rfl) (by show (_ + _) * 16 ≤ _; first | omega | (simp only [List.length_append]; omega)) (by first | omega | (simp only [List.length_append]; omega)) (fun vR1 hvR1 fvR1 => ?_)) (nb rfl) | refine jl_op (ow_append1F 0 (⟨#[115]⟩) rfl rfl rfl rfl rfl rfl rfl (fun _ => rfl) (by show (_ + _) * 16 ≤ _; first | omega | (simp only [List.length_append]; omega)) (by first | omega | (simp only [List.length_append]; omega)) (fun vR1 hvR1 fvR1 => ?_)) (nb rfl))
          refine jl_op ?_ (nb rfl)
          refine ow_fieldAddr rfl rfl rfl (nb rfl) ?_
          refine jl_op0 ?_
          refine ow_store1 1 rfl rfl rfl rfl (nb rfl) ?_
          refine jl_nil ?_
          refine jq_block ?_
          refine jq_then ?_
          refine jc_region ?_
          refine jl_op ?_ (nb rfl)
          refine ow_move rfl ?_
          refine jl_op ?_ (nb rfl)
          refine ow_sub64 rfl rfl (by omega) ?_
          refine jl_op ?_ (nb rfl)
          refine ow_assign rfl ?_
          refine jl_nil ?_
          refine jq_againS (i := (0 + 1, vR, lR)) (0, vR1, lR ++ [⟨#[115]⟩]) ⟨by dsimp only; omega, fvR1 hfR, by simp only [List.length_append, List.length_cons, List.length_nil]; omega⟩ (by dsimp only; omega) ?_ ?_
          · refine sub_step 0 rfl ?_
            refine sub_step 0 rfl ?_
            refine sub_step 0 rfl ?_
            refine sub_step 0 rfl ?_
            exact sub_end
          · (repeat (first | exact True.intro | refine ⟨rfl, ?_⟩))
        · refine any_op (fun c => ow_fieldAddr rfl rfl rfl (nb rfl) ⟨rfl, List.Perm.refl _⟩) ?_
          refine any_op (fun c => ow_load 0 rfl rfl rfl rfl ⟨rfl, List.Perm.refl _⟩) ?_
          refine any_op (fun c => ow_buildSlice rfl rfl (nb rfl) rfl rfl (nb rfl) ⟨rfl, List.Perm.refl _⟩) ?_
          refine any_op (fun c => ow_move rfl ⟨rfl, List.Perm.refl _⟩) ?_
          refine any_op (fun c => ow_rem rfl rfl (by omega) ⟨rfl, List.Perm.refl _⟩) ?_
          refine any_op (fun c => ow_indexAddr rfl rfl (by decide) rfl rfl (nb rfl) ⟨rfl, .refl _⟩) ?_
          refine any_op (fun c => ow_loadPlace rfl rfl ⟨rfl, List.Perm.refl _⟩) ?_
          refine any_op (fun c => ow_buildSlice rfl rfl (nb rfl) rfl rfl (nb rfl) ⟨rfl, List.Perm.refl _⟩) ?_
          refine any_nil ?_
          refine afin_none ?_
          (first | refine jl_op (ow_append1F 1 (⟨#[114]⟩) rfl rfl rfl rfl rfl rfl rfl (fun _ => rfl) (by show (_ + _) * 16 ≤ _; first | omega | (simp only [List.length_append]; omega)) (by first | omega | (simp only [List.length_append]; omega)) (fun vR1 hvR1 fvR1 => ?_)) (nb rfl) | refine jl_op (ow_append1F 2 (⟨#[114]⟩) rfl rfl rfl rfl rfl rfl rfl (fun _ => rfl) (by show (_ + _) * 16 ≤ _; first | omega | (simp only [List.length_append]; omega)) (by first | omega | (simp only [List.length_append]; omega)) (fun vR1 hvR1 fvR1 => ?_)) (nb rfl) | refine jl_op (ow_append1F 0 (⟨#[114]⟩) rfl rfl rfl rfl rfl rfl rfl (fun _ => rfl) (by show (_ + _) * 16 ≤ _; first | omega | (simp only [List.length_append]; omega)) (by first | omega | (simp only [List.length_append]; omega)) (fun vR1 hvR1 fvR1 => ?_)) (nb rfl))
          refine jl_op ?_ (nb rfl)
          refine ow_fieldAddr rfl rfl rfl (nb rfl) ?_
          refine jl_op0 ?_
          refine ow_store1 1 rfl rfl rfl rfl (nb rfl) ?_
          refine jl_nil ?_
          refine jq_block ?_
          refine jq_then ?_
          refine jc_region ?_
          refine jl_op ?_ (nb rfl)
          refine ow_move rfl ?_
          refine jl_op ?_ (nb rfl)
          refine ow_sub64 rfl rfl (by omega) ?_
          refine jl_op ?_ (nb rfl)
          refine ow_assign rfl ?_
          refine jl_nil ?_
          refine jq_againS (i := (1 + 1, vR, lR)) (1, vR1, lR ++ [⟨#[114]⟩]) ⟨by dsimp only; omega, fvR1 hfR, by simp only [List.length_append, List.length_cons, List.length_nil]; omega⟩ (by dsimp only; omega) ?_ ?_
          · refine sub_step 0 rfl ?_
            refine sub_step 0 rfl ?_
            refine sub_step 0 rfl ?_
            refine sub_step 0 rfl ?_
            exact sub_end
          · (repeat (first | exact True.intro | refine ⟨rfl, ?_⟩))
        · refine any_op (fun c => ow_fieldAddr rfl rfl rfl (nb rfl) ⟨rfl, List.Perm.refl _⟩) ?_
          refine any_op (fun c => ow_load 0 rfl rfl rfl rfl ⟨rfl, List.Perm.refl _⟩) ?_
          refine any_op (fun c => ow_buildSlice rfl rfl (nb rfl) rfl rfl (nb rfl) ⟨rfl, List.Perm.refl _⟩) ?_
          refine any_op (fun c => ow_move rfl ⟨rfl, List.Perm.refl _⟩) ?_
          refine any_op (fun c => ow_rem rfl rfl (by omega) ⟨rfl, List.Perm.refl _⟩) ?_
          refine any_op (fun c => ow_indexAddr rfl rfl (by decide) rfl rfl (nb rfl) ⟨rfl, .refl _⟩) ?_
          refine any_op (fun c => ow_loadPlace rfl rfl ⟨rfl, List.Perm.refl _⟩) ?_
          refine any_op (fun c => ow_buildSlice rfl rfl (nb rfl) rfl rfl (nb rfl) ⟨rfl, List.Perm.refl _⟩) ?_
          refine any_nil ?_
          refine afin_none ?_
          (first | refine jl_op (ow_append1F 1 (⟨#[115]⟩) rfl rfl rfl rfl rfl rfl rfl (fun _ => rfl) (by show (_ + _) * 16 ≤ _; first | omega | (simp only [List.length_append]; omega)) (by first | omega | (simp only [List.length_append]; omega)) (fun vR1 hvR1 fvR1 => ?_)) (nb rfl) | refine jl_op (ow_append1F 2 (⟨#[115]⟩) rfl rfl rfl rfl rfl rfl rfl (fun _ => rfl) (by show (_ + _) * 16 ≤ _; first | omega | (simp only [List.length_append]; omega)) (by first | omega | (simp only [List.length_append]; omega)) (fun vR1 hvR1 fvR1 => ?_)) (nb rfl) | refine jl_op (ow_append1F 0 (⟨#[115]⟩) rfl rfl rfl rfl rfl rfl rfl (fun _ => rfl) (by show (_ + _) * 16 ≤ _; first | omega | (simp only [List.length_append]; omega)) (by first | omega | (simp only [List.length_append]; omega)) (fun vR1 hvR1 fvR1 => ?_)) (nb rfl))
          refine jl_op ?_ (nb rfl)
          refine ow_fieldAddr rfl rfl rfl (nb rfl) ?_
          refine jl_op0 ?_
          refine ow_store1 1 rfl rfl rfl rfl (nb rfl) ?_
          refine jl_nil ?_
          refine jq_block ?_
          refine jq_then ?_
          refine jc_region ?_
          refine jl_op ?_ (nb rfl)
          refine ow_move rfl ?_
          refine jl_op ?_ (nb rfl)
          refine ow_sub64 rfl rfl (by omega) ?_
          refine jl_op ?_ (nb rfl)
          refine ow_assign rfl ?_
          refine jl_nil ?_
          refine jq_againS (i := (2 + 1, vR, lR)) (2, vR1, lR ++ [⟨#[115]⟩]) ⟨by dsimp only; omega, fvR1 hfR, by simp only [List.length_append, List.length_cons, List.length_nil]; omega⟩ (by dsimp only; omega) ?_ ?_
          · refine sub_step 0 rfl ?_
            refine sub_step 0 rfl ?_
            refine sub_step 0 rfl ?_
            refine sub_step 0 rfl ?_
            exact sub_end
          · (repeat (first | exact True.intro | refine ⟨rfl, ?_⟩))
  rintro ⟨vR, lR⟩ ⟨hfR, hlR⟩
  dsimp only at hfR hlR ⊢
  refine jc_freezeB 1 0 0 rfl rfl hfR ?_
  refine jc_seq ?_
  refine jc_cut (ι := List Shd) [] (fun Sh => Sh.length ≤ 1) (fun _ => [(0, Ptr bd), (1, In .i64 T), (2, In .i64 W), (3, In .i64 N), (8, Ptr b8), (9, Ptr b9)]) (fun Sh => [.blk b9 38 [.any, .list (Sh.map Shrow), NilC], Dk bd L, .blk b8 38 [NilC, NilC, NilC]]) ?_ ?_
  · refine jc_seq ?_
    refine jc_cut (ι := Bool) [] (fun b => b = true → 0 < lR.length) (fun b => (36, Bl b) :: [(0, Ptr bd), (1, In .i64 T), (2, In .i64 W), (3, In .i64 N), (8, Ptr b8), (9, Ptr b9)]) (fun _ => [.blk b9 38 [.list (lR.map Srow), NilC, NilC], Dk bd L, .blk b8 38 [NilC, NilC, NilC]]) ?_ ?_
    · by_cases hl : (0 : Int) < ((lR.map Srow).length : Int)
      · refine jc_region ?_
        refine jl_op ?_ (nb rfl)
        refine ow_fieldAddr rfl rfl rfl (nb rfl) ?_
        refine jl_op ?_ (nb rfl)
        refine ow_load 0 rfl rfl rfl rfl ?_
        refine jl_op ?_ (nb rfl)
        refine ow_len rfl (fun hlen => ?_)
        refine jl_op ?_ (nb rfl)
        refine ow_gtr rfl rfl ?_
        refine jl_op ?_ (nb rfl)
        refine ow_move rfl ?_
        refine jl_guardY rfl (by first | assumption | exact decide_eq_true (by first | assumption | omega) | exact decide_eq_false (by first | assumption | omega) | with_reducible rfl) (nb rfl) ?_
        refine ow_move rfl ?_
        refine jl_guardY rfl (by (first | assumption | exact decide_eq_true (by first | assumption | omega) | exact decide_eq_false (by first | assumption | omega) | with_reducible rfl)) (nb rfl) (ow_callP [1] rfl rfl (Nx_c _ hL hLn (by omega)) (fun k9 hk9 => ?_))
        refine jl_guardY rfl (by first | assumption | exact decide_eq_true (by first | assumption | omega) | exact decide_eq_false (by first | assumption | omega) | with_reducible rfl) (nb rfl) ?_
        refine ow_eql rfl rfl ?_
        refine jl_op ?_ (nb rfl)
        refine ow_pickT rfl (by first | assumption | exact decide_eq_true (by first | assumption | omega) | exact decide_eq_false (by first | assumption | omega) | with_reducible rfl) rfl ?_
        refine jl_nil ?_
        refine jq_cutS (decide (k9 = 1)) (fun _ => by simp at hl; omega) ?_ ?_
        · refine sub_step 1 rfl ?_
          refine sub_step 0 rfl ?_
          refine sub_step 0 rfl ?_
          exact sub_end
        · (repeat (first | exact True.intro | refine ⟨rfl, ?_⟩))
      · refine jc_region ?_
        refine jl_op ?_ (nb rfl)
        refine ow_fieldAddr rfl rfl rfl (nb rfl) ?_
        refine jl_op ?_ (nb rfl)
        refine ow_load 0 rfl rfl rfl rfl ?_
        refine jl_op ?_ (nb rfl)
        refine ow_len rfl (fun hlen => ?_)
        refine jl_op ?_ (nb rfl)
        refine ow_gtr rfl rfl ?_
        refine jl_op ?_ (nb rfl)
        refine ow_move rfl ?_
        refine jl_guardN rfl (by first | assumption | exact decide_eq_true (by first | assumption | omega) | exact decide_eq_false (by first | assumption | omega) | with_reducible rfl) (nb rfl) ?_
        refine jl_guardN rfl (by first | assumption | exact decide_eq_true (by first | assumption | omega) | exact decide_eq_false (by first | assumption | omega) | with_reducible rfl) (nb rfl) ?_
        refine jl_guardN rfl (by first | assumption | exact decide_eq_true (by first | assumption | omega) | exact decide_eq_false (by first | assumption | omega) | with_reducible rfl) (nb rfl) ?_
        refine jl_op ?_ (nb rfl)
        refine ow_pickF rfl (by first | assumption | exact decide_eq_true (by first | assumption | omega) | exact decide_eq_false (by first | assumption | omega) | with_reducible rfl) rfl ?_
        refine jl_nil ?_
        refine jq_cutS false (by simp) ?_ ?_
        · refine sub_step 0 rfl ?_
          refine sub_step 0 rfl ?_
          refine sub_step 0 rfl ?_
          exact sub_end
        · (repeat (first | exact True.intro | refine ⟨rfl, ?_⟩))
    intro b hb
    refine jc_cond rfl (fun hbt => ?_) (fun hbt => ?_)
    · have hl0 := hb hbt
      refine jc_ownNil 63 3 (by omega) ?_
      skip
      refine jc_anyB 13 none rfl (by kernel_rfl) (by kernel_rfl) ?_
      refine any_op (fun c => ow_fieldAddr rfl rfl rfl (nb rfl) ⟨rfl, List.Perm.refl _⟩) ?_
      refine any_op (fun c => ow_load 1 rfl rfl rfl rfl ⟨rfl, List.Perm.refl _⟩) ?_
      refine any_op (fun c => ow_move rfl ⟨rfl, List.Perm.refl _⟩) ?_
      refine any_op (fun c => ow_callA [2] rfl rfl (Next_c L _ _ hL hLn (by omega))) ?_
      refine any_op (fun c => ow_exarg 40 rfl (fun i => ow_convU64 rfl rfl rfl (by have := i.2; omega) ⟨rfl, .refl _⟩)) ?_
      refine any_op (fun c => ow_exarg 41 rfl (fun i : {i : Int // 0 ≤ i ∧ (i < 4 ∨ i = 0)} => ow_shl64 (n := i.1) rfl rfl (by have := i.2; omega) (by have := i.2; have := pow_bd i.1 (by omega); omega) ⟨rfl, .refl _⟩)) ?_
      refine any_op (fun c => ow_exarg 42 rfl (fun i => ow_build rfl rfl rfl rfl rfl ⟨rfl, .refl _⟩)) ?_
      refine any_op (fun c => ow_fieldAddr rfl rfl rfl (nb rfl) ⟨rfl, List.Perm.refl _⟩) ?_
      refine any_op (fun c => ow_load 1 rfl rfl rfl rfl ⟨rfl, List.Perm.refl _⟩) ?_
      refine any_op (fun c => ow_indexAddrMapE (k := 0) rfl rfl hl0 rfl rfl (nb rfl) ⟨rfl, .refl _⟩) ?_
      refine any_op (fun c => ow_loadPlace rfl rfl ⟨rfl, List.Perm.refl _⟩) ?_
      refine any_op (fun c => ow_exarg 43 rfl (fun i => ow_build rfl rfl rfl rfl rfl ⟨rfl, .refl _⟩)) ?_
      refine any_op (fun c => ow_exarg 48 rfl (fun i => ow_buildSlice rfl rfl (nb rfl) rfl rfl (nb rfl) ⟨rfl, .refl _⟩)) ?_
      refine any_nil (afin_none ?_)
      refine jl_slot 49 rfl (fun n => ?_)
      refine jl_op (ow_append1F (f := Shrow) (l1 := []) 0 (⟨#[98, 117, 102]⟩, 1 * 2 ^ n.1.toNat, lR[0]) rfl rfl rfl rfl rfl rfl rfl (fun _ => rfl) (by show (0 + 1) * 40 ≤ _; omega) (by simp) (fun vS hvS fvS => ?_)) (nb rfl)
      refine jl_freezeF 50 0 rfl rfl (fvS fresh_nil) ?_
      refine jl_op ?_ (nb rfl)
      refine ow_fieldAddr rfl rfl rfl (nb rfl) ?_
      refine jl_op0 ?_
      refine ow_store1 0 rfl rfl rfl rfl (nb rfl) ?_
      refine jl_nil ?_
      (first | refine jq_row 0 [.any, .list ([((⟨#[98, 117, 102]⟩ : ByteArray), (1 : Int) * 2 ^ n.1.toNat, lR[0])].map Shrow), NilC] rfl (.cons (.any _) (.refl _)) ?_ | refine jq_row 1 [.any, .list ([((⟨#[98, 117, 102]⟩ : ByteArray), (1 : Int) * 2 ^ n.1.toNat, lR[0])].map Shrow), NilC] rfl (.cons (.any _) (.refl _)) ?_)
      refine jq_cutS [((⟨#[98, 117, 102]⟩ : ByteArray), (1 : Int) * 2 ^ n.1.toNat, lR[0])] (by simp) ?_ ?_
      · refine sub_step 0 rfl ?_
        refine sub_step 0 rfl ?_
        refine sub_step 0 rfl ?_
        exact sub_end
      · (repeat (first | exact True.intro | refine ⟨rfl, ?_⟩))
    · refine jc_skip ?_
      (first | refine jq_row 0 [.any, .list (([] : List Shd).map Shrow), NilC] rfl (.cons (.any _) (.cons .nil (.refl _))) ?_ | refine jq_row 1 [.any, .list (([] : List Shd).map Shrow), NilC] rfl (.cons (.any _) (.cons .nil (.refl _))) ?_)
      refine jq_cutS ([] : List Shd) (by simp) ?_ ?_
      · refine sub_step 0 rfl ?_
        refine sub_step 0 rfl ?_
        refine sub_step 0 rfl ?_
        exact sub_end
      · (repeat (first | exact True.intro | refine ⟨rfl, ?_⟩))
  intro Sh hSh
  have tk := fun nm => con_toEx (task_c (Sh := Sh) (bd := bd) hL hLn (by omega) nm W N hW hN)
  refine jc_ownNil 34 11 (by omega) ?_
  refine jc_seq ?_
  refine jc_seq ?_
  refine jc_region ?_
  refine jl_op ?_ (nb rfl)
  refine ow_assign rfl ?_
  refine jl_nil ?_
  refine jq_then ?_
  refine jc_cut (ι := Value × List (List Sm)) [] (fun i => c.Fresh i.1 ∧ i.2.length = T.toNat ∧ ∀ l ∈ i.2, Good W l) (fun _ => [(0, Ptr bd), (1, In .i64 T), (2, In .i64 W), (3, In .i64 N), (8, Ptr b8), (9, Ptr b9)])
    (fun i => [.blk b9 38 [.any, .list (Sh.map Shrow), .val i.1], .own i.1 34 11 (i.2.map Trow), Dk bd L, .blk b8 38 [NilC, NilC, NilC]]) ?_ ?_
  · refine jc_block ?_
    refine jc_loopS (ι := Nat × Value × List (List Sm)) [] (fun i => i.1 ≤ T.toNat ∧ c.Fresh i.2.1 ∧ i.2.2.length = i.1 ∧ ∀ l ∈ i.2.2, Good W l) (fun i => (11, In .i64 (i.1 : Int)) :: [(0, Ptr bd), (1, In .i64 T), (2, In .i64 W), (3, In .i64 N), (8, Ptr b8), (9, Ptr b9)])
      (fun i => [.blk b9 38 [.any, .list (Sh.map Shrow), .val i.2.1], .own i.2.1 34 11 (i.2.2.map Trow), Dk bd L, .blk b8 38 [NilC, NilC, NilC]]) (fun i => T.toNat - i.1) (0, .slice none 0 0, []) ⟨Nat.zero_le _, fresh_nil, rfl, by simp⟩ ?_ ?_ ?_
    · refine sub_step 1 rfl ?_
      refine sub_step 0 rfl ?_
      refine sub_step 0 rfl ?_
      refine sub_step 0 rfl ?_
      exact sub_end
    · (repeat (first | exact True.intro | refine ⟨rfl, ?_⟩))
    · rintro ⟨k, vT, ls⟩ ⟨hk, hfT, hls, hg⟩
      dsimp only at hk hfT hls hg ⊢
      refine jc_seq ?_
      refine jc_seq ?_
      refine jc_region ?_
      refine jl_op ?_ (nb rfl)
      refine ow_move rfl ?_
      refine jl_op ?_ (nb rfl)
      refine ow_move rfl ?_
      refine jl_op ?_ (nb rfl)
      refine ow_lss rfl rfl ?_
      refine jl_nil ?_
      refine jq_then ?_
      refine jc_condd rfl (fun hlt => ?_) (fun hge => ?_)
      · refine jc_skip ?_
        refine jq_then ?_
        refine jc_seq ?_
        refine jc_block ?_
        refine jc_anyB 15 none rfl (by kernel_rfl) (by kernel_rfl) ?_
        refine any_op (fun c => ow_fieldAddr rfl rfl rfl (nb rfl) ⟨rfl, List.Perm.refl _⟩) ?_
        refine any_op (fun c => ow_load 0 rfl rfl rfl rfl ⟨rfl, List.Perm.refl _⟩) ?_
        refine any_op (fun c => ow_move rfl ⟨rfl, List.Perm.refl _⟩) ?_
        refine any_op (fun c => ow_move rfl ⟨rfl, List.Perm.refl _⟩) ?_
        refine any_op (fun c => ow_add64 rfl rfl (by omega) ⟨rfl, List.Perm.refl _⟩) ?_
        refine any_op (fun c => ow_convU8 rfl rfl rfl (by omega) ⟨rfl, .refl _⟩) ?_
        refine any_op (fun c => ow_buildSlice rfl rfl (nb rfl) rfl rfl (nb rfl) ⟨rfl, List.Perm.refl _⟩) ?_
        refine any_op (fun c => ow_bytesToString (l := [97 + (k : Int)]) rfl rfl rfl ⟨rfl, .refl _⟩) ?_
        refine any_op (fun c => ow_strcat rfl rfl (by show 1 + 1 ≤ 9223372036854775807; omega) ⟨rfl, .refl _⟩) ?_
        refine any_op (fun c => ow_fieldAddr rfl rfl rfl (nb rfl) ⟨rfl, List.Perm.refl _⟩) ?_
        refine any_op (fun c => ow_load 0 rfl rfl rfl rfl ⟨rfl, List.Perm.refl _⟩) ?_
        refine any_op (fun c => ow_move rfl ⟨rfl, List.Perm.refl _⟩) ?_
        refine any_op (fun c => ow_move rfl ⟨rfl, List.Perm.refl _⟩) ?_
        refine any_op (fun c => ow_callA [2] rfl rfl (tk _)) ?_
        refine any_op (fun c => ow_exarg 70 rfl (fun i => ow_buildSlice rfl rfl (nb rfl) rfl rfl (nb rfl) ⟨rfl, .refl _⟩)) ?_
        refine any_nil (afin_none ?_)
        refine jl_slot 71 rfl (fun l => ?_)
        (first | refine jl_op (ow_append1F 1 (l.1) rfl rfl rfl rfl rfl rfl rfl (fun _ => rfl) (by show (_ + _) * 192 ≤ _; first | omega | (simp only [List.length_append]; omega)) (by first | omega | (simp only [List.length_append]; omega)) (fun vT1 hvT1 fvT1 => ?_)) (nb rfl) | refine jl_op (ow_append1F 2 (l.1) rfl rfl rfl rfl rfl rfl rfl (fun _ => rfl) (by show (_ + _) * 192 ≤ _; first | omega | (simp only [List.length_append]; omega)) (by first | omega | (simp only [List.length_append]; omega)) (fun vT1 hvT1 fvT1 => ?_)) (nb rfl))
        refine jl_op ?_ (nb rfl)
        refine ow_fieldAddr rfl rfl rfl (nb rfl) ?_
        refine jl_op0 ?_
        refine ow_store1 1 rfl rfl rfl rfl (nb rfl) ?_
        refine jl_nil ?_
        refine jq_block ?_
        refine jq_then ?_
        refine jc_region ?_
        refine jl_op ?_ (nb rfl)
        refine ow_move rfl ?_
        refine jl_op ?_ (nb rfl)
        refine ow_add64 rfl rfl (by omega) ?_
        refine jl_op ?_ (nb rfl)
        refine ow_assign rfl ?_
        refine jl_nil ?_
        refine jq_againS (i := (k, vT, ls)) (k + 1, vT1, ls ++ [l.1]) ⟨by dsimp only; omega, fvT1 hfT, by simp [hls], ?_⟩ (by dsimp only; omega) ?_ ?_
        · intro x hx
          rcases List.mem_append.1 hx with hx | hx
          · exact hg x hx
          · rw [List.mem_singleton.1 hx]
            exact l.2
        · refine sub_step 0 rfl ?_
          refine sub_step 0 rfl ?_
          refine sub_step 0 rfl ?_
          refine sub_step 0 rfl ?_
          exact sub_end
        · (repeat (first | exact True.intro | refine ⟨rfl, ?_⟩))
      · refine jc_exit ?_
        refine jq_then_exit ?_
        refine jq_then_exit ?_
        refine jq_block_exit ?_
        refine jq_cutS (vT, ls) ⟨hfT, by dsimp only; omega, hg⟩ ?_ ?_
        · refine sub_step 0 rfl ?_
          refine sub_step 0 rfl ?_
          refine sub_step 0 rfl ?_
          refine sub_step 0 rfl ?_
          exact sub_end
        · (repeat (first | exact True.intro | refine ⟨rfl, ?_⟩))
  rintro ⟨vT, ls⟩ ⟨hfT, hls, hg⟩
  dsimp only at hfT hls hg ⊢
  refine jc_freezeB 1 0 2 rfl rfl hfT ?_
  refine jc_row 0 (Prow ls) rfl (.cons (.any _) (.cons (.any _) (.refl _))) ?_
  refine jc_seq ?_
  refine jc_region ?_
  refine jl_op ?_ (nb rfl)
  refine ow_loadAll 0 rfl rfl rfl rfl ?_
  refine jl_op0 ?_
  refine ow_storeAll 2 rfl rfl rfl rfl rfl rfl ?_
  refine jl_nil ?_
  refine jq_then ?_
  refine jc_ret ?_
  (first | refine jq_retRowS rfl rfl rfl rfl 0 rfl (fun K h => h ls ⟨hls, hg⟩) ?_ | refine jq_retRowS rfl rfl rfl rfl 1 rfl (fun K h => h ls ⟨hls, hg⟩) ?_ | refine jq_retRowS rfl rfl rfl rfl 2 rfl (fun K h => h ls ⟨hls, hg⟩) ?_)
  refine sub_step 2 rfl ?_
  exact sub_end

theorem Program_c (hL : InR L) (hLn : L.length ≤ 400) (T : Int) :
    Con Try.prog 7 [Ptr bd, In .i64 T] [Dk bd L] (fun K => ∀ ls : List (List Sm), (ls.length = (max 1 (min T 6)).toNat ∧ ∀ l ∈ ls, Good 300 l) → K (.row (Prow ls)) [Dk bd L]) := by
  refine con_intro Try.func7 rfl rfl (Nat.le_of_ble_eq_true rfl) (fun c hc => ?_)
  refine jc_seq ?_
  refine jc_region ?_
  refine jl_op (ow_alloc rfl rfl (fun b4 => ?_)) (nb rfl)
  refine jl_nil ?_
  refine jq_then ?_
  refine jc_seq ?_
  refine jc_region ?_
  refine jl_op ?_ (nb rfl)
  refine ow_move rfl ?_
  refine jl_op ?_ (nb rfl)
  refine ow_move rfl ?_
  refine jl_op ?_ (nb rfl)
  refine ow_min2 rfl rfl ?_
  refine jl_op ?_ (nb rfl)
  refine ow_max2 rfl rfl ?_
  refine jl_op (ow_callP [1] rfl rfl (programs_c hL hLn _ _ _ (by omega) (by omega) (by omega)) (fun ls hls => ?_)) (nb rfl)
  refine jl_op0 ?_
  refine ow_storeAll 1 rfl rfl rfl rfl rfl rfl ?_
  refine jl_nil ?_
  refine jq_then ?_
  refine jc_ret ?_
  (first | refine jq_retRowS rfl rfl rfl rfl 0 rfl (fun K h => h ls hls) ?_ | refine jq_retRowS rfl rfl rfl rfl 1 rfl (fun K h => h ls hls) ?_)
  refine sub_step 1 rfl ?_
  exact sub_end
end
end Go.Proofs.Ytfnephpolfnmoaa
