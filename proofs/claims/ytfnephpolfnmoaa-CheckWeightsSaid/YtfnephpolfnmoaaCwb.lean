import Derived.Test.YtfnephpolfnmoaaCwa
namespace Go.Proofs.Ytfnephpolfnmoaa
open Go.Vc
set_option maxHeartbeats 4000000
attribute [local irreducible] JL JC JQ OpWp Con ConN

theorem sm_le' (k : Int) (nm : ByteArray) (I V : List Ex) (mx lb : Int) (T E : List Sm) {cI cV cT cE : C} (hI : CLe cI (.list (I.map Ex.row))) (hV : CLe cV (.list (V.map Ex.row))) (hT : CLe cT (.list (T.map Sm.row))) (hE : CLe cE (.list (E.map Sm.row))) :
    RowLe [.val (.int .i64 k), .val (.string nm), cI, cV, .val (.int .i64 mx), .val (.int .i64 lb), cT, cE] (Sm.row' ⟨k, nm, I, V, mx, lb, T, E⟩) := by
  rw [← Sm.row_eq]; exact sm_le k nm I V mx lb T E hI hV hT hE

section
variable {L : List Int} {bm bd : Nat} {V A : List ByteArray} {Sh : List Shd}

theorem stmt_step (gv : Gv L V A Sh) (d : Nat) (hd10 : d ≤ 10) (hblk : ∀ d', d = d' + 1 → BlockP L bm bd V A Sh d') (hloop : ∀ d', d = d' + 1 → LoopP L bm bd V A Sh d') : StmtP L bm bd V A Sh d := by
  intro m il LS x hm hil hil2 hLS hx
  obtain ⟨lv0, hs0, lab0, st0⟩ := m
  obtain ⟨⟨hlab0, hlab1⟩, hst0, hst1⟩ := hm
  dsimp only at hlab0 hlab1 hst0 hst1 ⊢
  refine con_intro Try.func27 rfl rfl (Nat.le_of_ble_eq_true rfl) (fun c hc => ?_)
  refine jc_seq ?_
  refine jc_region ?_
  refine jl_op ?_ (nb rfl)
  refine ow_assign rfl ?_
  refine jl_nil ?_
  refine jq_then ?_
  refine jc_seq ?_
  refine jc_region ?_
  refine jl_op ?_ (nb rfl)
  refine ow_move rfl ?_
  refine jl_op ?_ (nb rfl)
  refine ow_nilCheck rfl ?_
  refine jl_op ?_ (nb rfl)
  refine ow_fieldAddr rfl rfl rfl (nb rfl) ?_
  refine jl_op ?_ (nb rfl)
  refine ow_load 0 rfl rfl rfl rfl ?_
  refine jl_op (ow_callP [1] rfl rfl (Nx_c _ gv.hL gv.hLn (by omega)) (fun k0 hk0 => ?_)) (nb rfl)
  refine jl_op ?_ (nb rfl)
  refine ow_assign rfl ?_
  refine jl_nil ?_
  refine jq_then ?_
  refine jc_seq ?_
  refine jc_seq ?_
  refine jc_cut (ι := Bool) [0, 1, 4, 5] (fun b => b = false → 0 < x ∧ lab0 < 12) (fun b => [(23, Bl b)]) (fun _ => [Mk bm bd V lv0 A Sh hs0 lab0 st0 il, Dk bd L, .own lv0 9 1 (LS.map Srow)]) ?_ ?_
  · by_cases hx0 : x ≤ 0
    · refine jc_region ?_
      refine jl_op ?_ (nb rfl)
      refine ow_move rfl ?_
      refine jl_op ?_ (nb rfl)
      refine ow_leq rfl rfl ?_
      refine jl_op ?_ (nb rfl)
      refine ow_move rfl ?_
      refine jl_guardN rfl (by first | assumption | exact decide_eq_true (by first | assumption | omega) | exact decide_eq_false (by first | assumption | omega) | with_reducible rfl) (nb rfl) ?_
      refine jl_guardN rfl (by first | assumption | exact decide_eq_true (by first | assumption | omega) | exact decide_eq_false (by first | assumption | omega) | with_reducible rfl) (nb rfl) ?_
      refine jl_guardN rfl (by first | assumption | exact decide_eq_true (by first | assumption | omega) | exact decide_eq_false (by first | assumption | omega) | with_reducible rfl) (nb rfl) ?_
      refine jl_guardN rfl (by first | assumption | exact decide_eq_true (by first | assumption | omega) | exact decide_eq_false (by first | assumption | omega) | with_reducible rfl) (nb rfl) ?_
      refine jl_guardN rfl (by first | assumption | exact decide_eq_true (by first | assumption | omega) | exact decide_eq_false (by first | assumption | omega) | with_reducible rfl) (nb rfl) ?_
      refine jl_op ?_ (nb rfl)
      refine ow_pickT rfl (by first | assumption | exact decide_eq_true (by first | assumption | omega) | exact decide_eq_false (by first | assumption | omega) | with_reducible rfl) rfl ?_
      refine jl_nil ?_
      refine jq_cut true [1, 0, 0] (by simp) rfl ?_
      (repeat (first | exact True.intro | refine ⟨rfl, ?_⟩))
    · refine jc_region ?_
      refine jl_op ?_ (nb rfl)
      refine ow_move rfl ?_
      refine jl_op ?_ (nb rfl)
      refine ow_leq rfl rfl ?_
      refine jl_op ?_ (nb rfl)
      refine ow_move rfl ?_
      refine jl_guardY rfl (by first | assumption | exact decide_eq_true (by first | assumption | omega) | exact decide_eq_false (by first | assumption | omega) | with_reducible rfl) (nb rfl) ?_
      refine ow_move rfl ?_
      refine jl_guardY rfl (by first | assumption | exact decide_eq_true (by first | assumption | omega) | exact decide_eq_false (by first | assumption | omega) | with_reducible rfl) (nb rfl) ?_
      refine ow_nilCheck rfl ?_
      refine jl_guardY rfl (by first | assumption | exact decide_eq_true (by first | assumption | omega) | exact decide_eq_false (by first | assumption | omega) | with_reducible rfl) (nb rfl) ?_
      refine ow_fieldAddr rfl rfl rfl (nb rfl) ?_
      refine jl_guardY rfl (by first | assumption | exact decide_eq_true (by first | assumption | omega) | exact decide_eq_false (by first | assumption | omega) | with_reducible rfl) (nb rfl) ?_
      refine ow_load 1 rfl rfl rfl rfl ?_
      refine jl_guardY rfl (by first | assumption | exact decide_eq_true (by first | assumption | omega) | exact decide_eq_false (by first | assumption | omega) | with_reducible rfl) (nb rfl) ?_
      refine ow_geq rfl rfl ?_
      refine jl_op ?_ (nb rfl)
      refine ow_pickF rfl (by first | assumption | exact decide_eq_true (by first | assumption | omega) | exact decide_eq_false (by first | assumption | omega) | with_reducible rfl) rfl ?_
      refine jl_nil ?_
      refine jq_cut (decide (12 ≤ lab0)) [1, 0, 0] (by simp; omega) rfl ?_
      (repeat (first | exact True.intro | refine ⟨rfl, ?_⟩))
  intro b hb
  skip
  have ht : 0 ≤ k0.tmod 3 ∧ k0.tmod 3 ≤ 2 := by rw [Int.tmod_eq_emod_of_nonneg hk0.1]; omega
  refine jc_cut (ι := Int) [0, 1, 4] (fun k => 0 ≤ k ∧ k ≤ 8 ∧ (2 < k → 0 < x ∧ lab0 < 12)) (fun k => [(5, In .i64 k)]) (fun _ => [Mk bm bd V lv0 A Sh hs0 lab0 st0 il, Dk bd L, .own lv0 9 1 (LS.map Srow)]) ?_ ?_
  · refine jc_cond rfl (fun h => ?_) (fun h => ?_)
    · refine jc_region ?_
      refine jl_op ?_ (nb rfl)
      refine ow_move rfl ?_
      refine jl_op ?_ (nb rfl)
      refine ow_rem rfl rfl (by omega) ?_
      refine jl_op ?_ (nb rfl)
      refine ow_assign rfl ?_
      refine jl_nil ?_
      refine jq_cut (k0.tmod 3) [0, 0, 0] (by omega) rfl ?_
      (repeat (first | exact True.intro | refine ⟨rfl, ?_⟩))
    · refine jc_skip ?_
      refine jq_cut k0 [0, 0, 0] ⟨hk0.1, by omega, fun _ => hb h⟩ rfl ?_
      (repeat (first | exact True.intro | refine ⟨rfl, ?_⟩))
  intro k ⟨hk1, hk8, hkd⟩
  clear ht
  have fin1 : ∀ (s : Sm), Shal d s → ∀ (m : Ms), m.ok → ∀ K : S → List Ch → Prop, (∀ r : Ms × List Sm, (r.1.ok ∧ r.2.length ≤ 2 ∧ ∀ s ∈ r.2, Shal d s) → K (.cell (.list (r.2.map Sm.row))) [Mk bm bd V r.1.lv A Sh r.1.hs r.1.lab r.1.st il, Dk bd L, .own r.1.lv 9 1 (LS.map Srow)]) →
      K (.cell (.list [s.row])) [Mk bm bd V m.lv A Sh m.hs m.lab m.st il, Dk bd L, .own m.lv 9 1 (LS.map Srow)] :=
    fun s hs m hm K h => h (m, [s]) ⟨hm, by simp, by simpa using hs⟩
  have fin0 := fun s hs => fin1 s hs ⟨lv0, hs0, lab0, st0⟩ ⟨⟨hlab0, hlab1⟩, hst0, hst1⟩
  dsimp only at fin0
  refine jc_seq ?_
  refine jc_seq ?_
  refine jc_region ?_
  refine jl_op ?_ (nb rfl)
  refine ow_move rfl ?_
  refine jl_nil ?_
  refine jq_then ?_
  refine jc_cut (ι := Unit) [0, 1] (fun _ => True) (fun _ => []) (fun _ => [Mk bm bd V lv0 A Sh hs0 lab0 st0 il, Dk bd L, .own lv0 9 1 (LS.map Srow)]) ?_ ?_
  · refine jc_block ?_
    refine jc_seq ?_
    refine jc_region ?_
    refine jl_op ?_ (nb rfl)
    refine ow_eql rfl rfl ?_
    refine jl_op ?_ (nb rfl)
    refine ow_assign rfl ?_
    refine jl_nil ?_
    refine jq_then ?_
    refine jc_condd rfl (fun h1 => ?_) (fun h1 => ?_)
    · refine jc_seq ?_
      refine jc_region ?_
      refine jl_op ?_ (nb rfl)
      refine ow_move rfl ?_
      refine jl_op (ow_callP [0] rfl rfl (usable_c gv.hA gv.hSh) (fun l hl => ?_)) (nb rfl)
      refine jl_op ?_ (nb rfl)
      refine ow_assign rfl ?_
      refine jl_nil ?_
      refine jq_then ?_
      refine jc_seq ?_
      refine jc_region ?_
      refine jl_op ?_ (nb rfl)
      refine ow_move rfl ?_
      refine jl_op ?_ (nb rfl)
      refine ow_len rfl (fun hlen => ?_)
      refine jl_op ?_ (nb rfl)
      refine ow_gtr rfl rfl ?_
      refine jl_nil ?_
      refine jq_then ?_
      refine jc_condd rfl (fun hp => ?_) (fun hp => ?_)
      · simp only [List.length_map] at hp
        refine jc_seq ?_
        refine jc_region ?_
        refine jl_op ?_ (nb rfl)
        refine ow_move rfl ?_
        refine jl_op ?_ (nb rfl)
        refine ow_move rfl ?_
        refine jl_op (ow_callP [0, 0] rfl rfl (name_c gv.hL gv.hLn l (by omega) (by omega)) (fun s1 hs1 => ?_)) (nb rfl)
        refine jl_op ?_ (nb rfl)
        refine ow_move rfl ?_
        refine jl_op (ow_callP [0, 0] rfl rfl (expr_c gv.hL gv.hLn gv.hV0 gv.hV gv.hA gv.hSh 1 1 (by omega) (by omega) (by omega)) (fun e1 he1 => ?_)) (nb rfl)
        refine jl_op ?_ (nb rfl)
        refine ow_buildSlice rfl rfl (nb rfl) rfl rfl (nb rfl) ?_
        refine jl_op ?_ (nb rfl)
        refine ow_move rfl ?_
        refine jl_op (ow_callP [0, 0] rfl rfl (expr_c gv.hL gv.hLn gv.hV0 gv.hV gv.hA gv.hSh 2 2 (by omega) (by omega) (by omega)) (fun e2 he2 => ?_)) (nb rfl)
        refine jl_op ?_ (nb rfl)
        refine ow_buildSlice rfl rfl (nb rfl) rfl rfl (nb rfl) ?_
        refine jl_op ?_ (nb rfl)
        refine ow_build rfl rfl rfl rfl rfl ?_
        refine jl_op ?_ (nb rfl)
        refine ow_buildSlice rfl rfl (nb rfl) rfl rfl (nb rfl) ?_
        refine jl_op ?_ (nb rfl)
        refine ow_assign rfl ?_
        refine jl_nil ?_
        refine jq_then ?_
        refine jc_ret ?_
        refine jq_block_ret ?_
        refine jq_then_ret ?_
        refine jq_sle 4 rfl (SLe.cell (CLe.list (.cons (sm_le 2 s1 [e1] [e2] 0 0 [] [] (ex1_le e1) (ex1_le e2) .nil .nil) .nil))) ?_
        exact jq_ret1 rfl rfl [0, 0, 0] rfl (fin0 _ (shal_leaf (.inr rfl)))
      · refine jc_skip ?_
        refine jq_block ?_
        refine jq_cut () [0, 0, 0] trivial rfl ?_
        (repeat (first | exact True.intro | refine ⟨rfl, ?_⟩))
    · refine jc_seq ?_
      refine jc_cut (ι := Bool) [0, 1, 26] (fun b => b = decide (k = 3 ∨ k = 4 ∨ k = 5)) (fun b => [(45, Bl b)]) (fun _ => [Mk bm bd V lv0 A Sh hs0 lab0 st0 il, Dk bd L, .own lv0 9 1 (LS.map Srow)]) ?_ ?_
      · refine jc_seq ?_
        refine jc_region ?_
        refine jl_op ?_ (nb rfl)
        refine ow_eql rfl rfl ?_
        refine jl_op ?_ (nb rfl)
        refine ow_assign rfl ?_
        refine jl_nil ?_
        refine jq_then ?_
        refine jc_condd rfl (fun h3 => ?_) (fun h3 => ?_)
        · refine jc_skip ?_
          refine jq_cut (decide (k = 3)) [0, 0, 0] (by rw [decide_eq_decide]; omega) rfl ?_
          (repeat (first | exact True.intro | refine ⟨rfl, ?_⟩))
        · refine jc_seq ?_
          refine jc_region ?_
          refine jl_op ?_ (nb rfl)
          refine ow_eql rfl rfl ?_
          refine jl_op ?_ (nb rfl)
          refine ow_assign rfl ?_
          refine jl_nil ?_
          refine jq_then ?_
          refine jc_condd rfl (fun h4 => ?_) (fun h4 => ?_)
          · refine jc_skip ?_
            refine jq_cut (decide (k = 4)) [0, 0, 0] (by rw [decide_eq_decide]; omega) rfl ?_
            (repeat (first | exact True.intro | refine ⟨rfl, ?_⟩))
          · refine jc_region ?_
            refine jl_op ?_ (nb rfl)
            refine ow_eql rfl rfl ?_
            refine jl_op ?_ (nb rfl)
            refine ow_assign rfl ?_
            refine jl_nil ?_
            refine jq_cut (decide (k = 5)) [0, 0, 0] (by rw [decide_eq_decide]; omega) rfl ?_
            (repeat (first | exact True.intro | refine ⟨rfl, ?_⟩))
      intro b hb
      refine jc_cond rfl (fun hbt => ?_) (fun hbt => ?_)
      · have hk3 : k = 3 ∨ k = 4 ∨ k = 5 := by rw [hb] at hbt; exact of_decide_eq_true hbt
        obtain ⟨hx0, hl12⟩ := hkd (by omega)
        obtain ⟨d', rfl⟩ : ∃ d', d = d' + 1 := ⟨d - 1, by omega⟩
        have hblk := hblk d' rfl
        clear hloop
        refine jc_seq ?_
        refine jc_region ?_
        refine jl_op ?_ (nb rfl)
        refine ow_move rfl ?_
        refine jl_op ?_ (nb rfl)
        refine ow_nilCheck rfl ?_
        refine jl_op ?_ (nb rfl)
        refine ow_fieldAddr rfl rfl rfl (nb rfl) ?_
        refine jl_op ?_ (nb rfl)
        refine ow_load 0 rfl rfl rfl rfl ?_
        refine jl_op ?_ (nb rfl)
        refine ow_add64 rfl rfl (by omega) ?_
        refine jl_op ?_ (nb rfl)
        refine ow_nilCheck rfl ?_
        refine jl_op ?_ (nb rfl)
        refine ow_fieldAddr rfl rfl rfl (nb rfl) ?_
        refine jl_op0 ?_
        refine ow_store1 0 rfl rfl rfl rfl (nb rfl) ?_
        refine jl_nil ?_
        refine jq_then ?_
        refine jc_seq ?_
        refine jc_anyB 9 (some 8) rfl (by kernel_rfl) (by kernel_rfl) ?_
        refine any_op (fun c => ow_move rfl ⟨rfl, List.Perm.refl _⟩) ?_
        refine any_op (fun c => ow_nilCheck rfl ⟨rfl, List.Perm.refl _⟩) ?_
        refine any_op (fun c => ow_fieldAddr rfl rfl rfl (nb rfl) ⟨rfl, List.Perm.refl _⟩) ?_
        refine any_op (fun c => ow_load 0 rfl rfl rfl rfl ⟨rfl, List.Perm.refl _⟩) ?_
        refine any_op (fun c => ow_move rfl ⟨rfl, List.Perm.refl _⟩) ?_
        refine any_op (fun c => ow_callA [0, 0] rfl rfl (con_toEx (condition_c gv.hL gv.hLn gv.hV0 gv.hV gv.hA gv.hSh))) ?_
        refine any_op (fun c => ow_exarg 61 rfl (fun i => ow_buildSlice rfl rfl (nb rfl) rfl rfl (nb rfl) ⟨rfl, .refl _⟩)) ?_
        refine any_op (fun c => ow_exarg 62 rfl (fun i => ow_build rfl rfl rfl rfl rfl ⟨rfl, .refl _⟩)) ?_
        refine any_alloc ?_
        refine any_nil ?_
        refine afin_some rfl rfl rfl (fun bS => ?_)
        refine jl_slot 63 rfl (fun e1 => ?_)
        refine jl_op0 ?_
        refine ow_storeAll 0 rfl rfl rfl rfl rfl rfl ?_
        refine jl_nil ?_
        refine jq_then ?_
        refine jc_seq ?_
        refine jc_region ?_
        refine jl_op ?_ (nb rfl)
        refine ow_move rfl ?_
        refine jl_op ?_ (nb rfl)
        refine ow_move rfl ?_
        refine jl_op ?_ (nb rfl)
        refine ow_sub64 rfl rfl (by omega) ?_
        refine jl_op (ow_callNP [1, 1, 1] rfl rfl (hblk ⟨lv0, hs0, lab0 + 1, st0⟩ il LS (x - 1) 2 ⟨⟨by dsimp only; omega, by dsimp only; omega⟩, hst0, hst1⟩ hil hil2 hLS (by omega) (by omega) (by omega)) (fun r n hn hr => ?_)) (nb rfl)
        obtain ⟨⟨lv1, hs1, lab1, st1⟩, v1, l1⟩ := r
        obtain ⟨hok1, hf1, hl1, hsh1⟩ := hr
        dsimp only at hl1 hsh1 hf1 ⊢
        refine jl_freezeF 67 0 rfl rfl (hf1.mono hn) ?_
        refine jl_op ?_ (nb rfl)
        refine ow_fieldAddr rfl rfl rfl (nb rfl) ?_
        refine jl_op0 ?_
        refine ow_store1 3 rfl rfl rfl rfl (nb rfl) ?_
        refine jl_nil ?_
        refine jq_then ?_
        refine jc_seq ?_
        refine jc_cut (ι := Ms × List Sm) [0, 1, 7] (fun r => r.1.ok ∧ r.2.length ≤ 4 ∧ ∀ s ∈ r.2, Shal d' s) (fun _ => []) (fun r => [Mk bm bd V r.1.lv A Sh r.1.hs r.1.lab r.1.st il, Dk bd L, .own r.1.lv 9 1 (LS.map Srow), .blk bS 45 (Sm.row' ⟨3, ⟨#[]⟩, [], [e1.1], 0, lab0 + 1, l1, r.2⟩)]) ?_ ?_
        · refine jc_seq ?_
          refine jc_region ?_
          refine jl_op ?_ (nb rfl)
          refine ow_move rfl ?_
          refine jl_op ?_ (nb rfl)
          refine ow_nilCheck rfl ?_
          refine jl_op ?_ (nb rfl)
          refine ow_fieldAddr rfl rfl rfl (nb rfl) ?_
          refine jl_op ?_ (nb rfl)
          refine ow_load 1 rfl rfl rfl rfl ?_
          refine jl_op (ow_callP [2] rfl rfl (Nx_c _ gv.hL gv.hLn (by omega)) (fun k4 hk4 => ?_)) (nb rfl)
          refine jl_op ?_ (nb rfl)
          refine ow_eql rfl rfl ?_
          refine jl_nil ?_
          refine jq_then ?_
          refine jc_condd rfl (fun h2 => ?_) (fun h2 => ?_)
          · refine jc_region ?_
            refine jl_op ?_ (nb rfl)
            refine ow_move rfl ?_
            refine jl_op ?_ (nb rfl)
            refine ow_move rfl ?_
            refine jl_op ?_ (nb rfl)
            refine ow_sub64 rfl rfl (by omega) ?_
            refine jl_op (ow_callNP [2, 0, 1] rfl rfl (hblk ⟨lv1, hs1, lab1, st1⟩ il LS (x - 1) 2 hok1 hil hil2 hLS (by omega) (by omega) (by omega)) (fun r n2 hn2 hr => ?_)) (nb rfl)
            obtain ⟨⟨lv2, hs2, lab2, st2⟩, v2, l2⟩ := r
            obtain ⟨hok2, hf2, hl2, hsh2⟩ := hr
            dsimp only at hl2 hsh2 hf2 ⊢
            refine jl_freezeF 78 0 rfl rfl (hf2.mono hn2) ?_
            refine jl_op ?_ (nb rfl)
            refine ow_fieldAddr rfl rfl rfl (nb rfl) ?_
            refine jl_op0 ?_
            refine ow_store1 3 rfl rfl rfl rfl (nb rfl) ?_
            refine jl_nil ?_
            (first | refine jq_row 0 _ rfl (sm_le' 3 ⟨#[]⟩ [] [e1.1] 0 (lab0 + 1) l1 l2 .nil (ex1_le e1.1) (.refl _) (.refl _)) ?_ | refine jq_row 1 _ rfl (sm_le' 3 ⟨#[]⟩ [] [e1.1] 0 (lab0 + 1) l1 l2 .nil (ex1_le e1.1) (.refl _) (.refl _)) ?_ | refine jq_row 2 _ rfl (sm_le' 3 ⟨#[]⟩ [] [e1.1] 0 (lab0 + 1) l1 l2 .nil (ex1_le e1.1) (.refl _) (.refl _)) ?_ | refine jq_row 3 _ rfl (sm_le' 3 ⟨#[]⟩ [] [e1.1] 0 (lab0 + 1) l1 l2 .nil (ex1_le e1.1) (.refl _) (.refl _)) ?_)
            (first | refine jq_cut (⟨lv2, hs2, lab2, st2⟩, l2) [1, 1, 1, 0] ⟨hok2, by dsimp only; omega, hsh2⟩ rfl ?_ | refine jq_cut (⟨lv2, hs2, lab2, st2⟩, l2) [1, 2, 1, 0] ⟨hok2, by dsimp only; omega, hsh2⟩ rfl ?_ | refine jq_cut (⟨lv2, hs2, lab2, st2⟩, l2) [2, 1, 1, 0] ⟨hok2, by dsimp only; omega, hsh2⟩ rfl ?_ | refine jq_cut (⟨lv2, hs2, lab2, st2⟩, l2) [2, 2, 1, 0] ⟨hok2, by dsimp only; omega, hsh2⟩ rfl ?_ | refine jq_cut (⟨lv2, hs2, lab2, st2⟩, l2) [3, 1, 1, 0] ⟨hok2, by dsimp only; omega, hsh2⟩ rfl ?_ | refine jq_cut (⟨lv2, hs2, lab2, st2⟩, l2) [3, 2, 1, 0] ⟨hok2, by dsimp only; omega, hsh2⟩ rfl ?_)
            (repeat (first | exact True.intro | refine ⟨rfl, ?_⟩))
          · refine jc_skip ?_
            (first | refine jq_row 0 _ rfl (sm_le' 3 ⟨#[]⟩ [] [e1.1] 0 (lab0 + 1) l1 [] .nil (ex1_le e1.1) (.refl _) .nil) ?_ | refine jq_row 1 _ rfl (sm_le' 3 ⟨#[]⟩ [] [e1.1] 0 (lab0 + 1) l1 [] .nil (ex1_le e1.1) (.refl _) .nil) ?_ | refine jq_row 2 _ rfl (sm_le' 3 ⟨#[]⟩ [] [e1.1] 0 (lab0 + 1) l1 [] .nil (ex1_le e1.1) (.refl _) .nil) ?_ | refine jq_row 3 _ rfl (sm_le' 3 ⟨#[]⟩ [] [e1.1] 0 (lab0 + 1) l1 [] .nil (ex1_le e1.1) (.refl _) .nil) ?_)
            (first | refine jq_cut (⟨lv1, hs1, lab1, st1⟩, []) [1, 1, 1, 0] ⟨hok1, by simp, by simp⟩ rfl ?_ | refine jq_cut (⟨lv1, hs1, lab1, st1⟩, []) [1, 2, 1, 0] ⟨hok1, by simp, by simp⟩ rfl ?_ | refine jq_cut (⟨lv1, hs1, lab1, st1⟩, []) [2, 1, 1, 0] ⟨hok1, by simp, by simp⟩ rfl ?_ | refine jq_cut (⟨lv1, hs1, lab1, st1⟩, []) [2, 2, 1, 0] ⟨hok1, by simp, by simp⟩ rfl ?_ | refine jq_cut (⟨lv1, hs1, lab1, st1⟩, []) [3, 1, 1, 0] ⟨hok1, by simp, by simp⟩ rfl ?_ | refine jq_cut (⟨lv1, hs1, lab1, st1⟩, []) [3, 2, 1, 0] ⟨hok1, by simp, by simp⟩ rfl ?_)
            (repeat (first | exact True.intro | refine ⟨rfl, ?_⟩))
        · rintro ⟨⟨lv2, hs2, lab2, st2⟩, l2⟩ ⟨hok2, hl2, hsh2⟩
          dsimp only at hl2 hsh2 ⊢
          refine jc_seq ?_
          refine jc_region ?_
          refine jl_op ?_ (nb rfl)
          refine ow_loadAll 3 rfl rfl rfl rfl ?_
          refine jl_op ?_ (nb rfl)
          refine ow_buildSlice rfl rfl (nb rfl) rfl rfl (nb rfl) ?_
          refine jl_op ?_ (nb rfl)
          refine ow_assign rfl ?_
          refine jl_nil ?_
          refine jq_then ?_
          refine jc_ret ?_
          refine jq_block_ret ?_
          refine jq_then_ret ?_
          refine jq_sle 4 rfl (SLe.cell (CLe.list (.cons (sm_le 3 ⟨#[]⟩ [] [e1.1] 0 (lab0 + 1) l1 l2 (.refl _) (.refl _) (.refl _) (.refl _)) .nil))) ?_
          exact jq_ret1 rfl rfl [0, 0, 0] rfl (fin1 _ (shal_in (.inl rfl) (fun h => absurd rfl h) (by omega) (by omega) hsh1 hsh2) ⟨lv2, hs2, lab2, st2⟩ hok2)
      · refine jc_seq ?_
        refine jc_cut (ι := Bool) [0, 1, 26] (fun b => b = decide (k = 6 ∨ k = 7)) (fun b => [(82, Bl b)]) (fun _ => [Mk bm bd V lv0 A Sh hs0 lab0 st0 il, Dk bd L, .own lv0 9 1 (LS.map Srow)]) ?_ ?_
        · refine jc_seq ?_
          refine jc_region ?_
          refine jl_op ?_ (nb rfl)
          refine ow_eql rfl rfl ?_
          refine jl_op ?_ (nb rfl)
          refine ow_assign rfl ?_
          refine jl_nil ?_
          refine jq_then ?_
          refine jc_condd rfl (fun h6 => ?_) (fun h6 => ?_)
          · refine jc_skip ?_
            refine jq_cut (decide (k = 6)) [0, 0, 0] (by rw [decide_eq_decide]; omega) rfl ?_
            (repeat (first | exact True.intro | refine ⟨rfl, ?_⟩))
          · refine jc_region ?_
            refine jl_op ?_ (nb rfl)
            refine ow_eql rfl rfl ?_
            refine jl_op ?_ (nb rfl)
            refine ow_assign rfl ?_
            refine jl_nil ?_
            refine jq_cut (decide (k = 7)) [0, 0, 0] (by rw [decide_eq_decide]; omega) rfl ?_
            (repeat (first | exact True.intro | refine ⟨rfl, ?_⟩))
        intro b hb
        refine jc_cond rfl (fun hbt => ?_) (fun hbt => ?_)
        · have hk6 : k = 6 ∨ k = 7 := by rw [hb] at hbt; exact of_decide_eq_true hbt
          obtain ⟨hx0, hl12⟩ := hkd (by omega)
          obtain ⟨d', rfl⟩ : ∃ d', d = d' + 1 := ⟨d - 1, by omega⟩
          have hloop := hloop d' rfl
          clear hblk
          refine jc_seq ?_
          refine jc_region ?_
          refine jl_op ?_ (nb rfl)
          refine ow_move rfl ?_
          refine jl_op ?_ (nb rfl)
          refine ow_nilCheck rfl ?_
          refine jl_op ?_ (nb rfl)
          refine ow_fieldAddr rfl rfl rfl (nb rfl) ?_
          refine jl_op ?_ (nb rfl)
          refine ow_load 0 rfl rfl rfl rfl ?_
          refine jl_op ?_ (nb rfl)
          refine ow_lss rfl rfl ?_
          refine jl_nil ?_
          refine jq_then ?_
          refine jc_condd rfl (fun hil1 => ?_) (fun hil1 => ?_)
          · refine jc_seq ?_
            refine jc_region ?_
            refine jl_op ?_ (nb rfl)
            refine ow_move rfl ?_
            refine jl_op ?_ (nb rfl)
            refine ow_move rfl ?_
            refine jl_op (ow_callP [0, 0, 0] rfl rfl (hloop ⟨lv0, hs0, lab0, st0⟩ il LS x ⟨⟨hlab0, hlab1⟩, hst0, hst1⟩ (by dsimp only; omega) hil (by omega) hLS hx) (fun r hr => ?_)) (nb rfl)
            obtain ⟨m1, l1⟩ := r
            dsimp only at hr ⊢
            refine jl_op ?_ (nb rfl)
            refine ow_assign rfl ?_
            refine jl_nil ?_
            refine jq_then ?_
            refine jc_ret ?_
            refine jq_block_ret ?_
            refine jq_then_ret ?_
            exact jq_ret1 rfl rfl [0, 0, 0] rfl (fun K h => h (m1, l1) hr)
          · refine jc_skip ?_
            refine jq_block ?_
            refine jq_cut () [0, 0, 0] trivial rfl ?_
            (repeat (first | exact True.intro | refine ⟨rfl, ?_⟩))
        · refine jc_seq ?_
          refine jc_region ?_
          refine jl_op ?_ (nb rfl)
          refine ow_eql rfl rfl ?_
          refine jl_op ?_ (nb rfl)
          refine ow_assign rfl ?_
          refine jl_nil ?_
          refine jq_then ?_
          refine jc_condd rfl (fun h8 => ?_) (fun h8 => ?_)
          · obtain ⟨hx0, hl12⟩ := hkd (by omega)
            obtain ⟨d', rfl⟩ : ∃ d', d = d' + 1 := ⟨d - 1, by omega⟩
            have hblk := hblk d' rfl
            clear hloop
            refine jc_seq ?_
            refine jc_cut (ι := Bool) [0, 1] (fun b => b = true → 0 < Sh.length) (fun b => [(107, Bl b)]) (fun _ => [Mk bm bd V lv0 A Sh hs0 lab0 st0 il, Dk bd L, .own lv0 9 1 (LS.map Srow)]) ?_ ?_
            · by_cases hh : hs0 = ⟨#[]⟩
              · refine jc_region ?_
                refine jl_op ?_ (nb rfl)
                refine ow_move rfl ?_
                refine jl_op ?_ (nb rfl)
                refine ow_nilCheck rfl ?_
                refine jl_op ?_ (nb rfl)
                refine ow_fieldAddr rfl rfl rfl (nb rfl) ?_
                refine jl_op ?_ (nb rfl)
                refine ow_load 0 rfl rfl rfl rfl ?_
                refine jl_op ?_ (nb rfl)
                refine ow_streql rfl rfl ?_
                refine jl_op ?_ (nb rfl)
                refine ow_move rfl ?_
                refine jl_guardY rfl (by first | assumption | exact decide_eq_true (by first | assumption | omega) | exact decide_eq_false (by first | assumption | omega) | with_reducible rfl) (nb rfl) ?_
                refine ow_move rfl ?_
                refine jl_guardY rfl (by first | assumption | exact decide_eq_true (by first | assumption | omega) | exact decide_eq_false (by first | assumption | omega) | with_reducible rfl) (nb rfl) ?_
                refine ow_nilCheck rfl ?_
                refine jl_guardY rfl (by first | assumption | exact decide_eq_true (by first | assumption | omega) | exact decide_eq_false (by first | assumption | omega) | with_reducible rfl) (nb rfl) ?_
                refine ow_fieldAddr rfl rfl rfl (nb rfl) ?_
                refine jl_guardY rfl (by first | assumption | exact decide_eq_true (by first | assumption | omega) | exact decide_eq_false (by first | assumption | omega) | with_reducible rfl) (nb rfl) ?_
                refine ow_load 0 rfl rfl rfl rfl ?_
                refine jl_guardY rfl (by first | assumption | exact decide_eq_true (by first | assumption | omega) | exact decide_eq_false (by first | assumption | omega) | with_reducible rfl) (nb rfl) ?_
                refine ow_len rfl (fun hlen => ?_)
                refine jl_guardY rfl (by first | assumption | exact decide_eq_true (by first | assumption | omega) | exact decide_eq_false (by first | assumption | omega) | with_reducible rfl) (nb rfl) ?_
                refine ow_gtr rfl rfl ?_
                refine jl_op ?_ (nb rfl)
                refine ow_pickT rfl (by first | assumption | exact decide_eq_true (by first | assumption | omega) | exact decide_eq_false (by first | assumption | omega) | with_reducible rfl) rfl ?_
                refine jl_nil ?_
                refine jq_cut (decide (0 < ((Sh.map Shrow).length : Int))) [0, 0, 0] (by simp) rfl ?_
                (repeat (first | exact True.intro | refine ⟨rfl, ?_⟩))
              · refine jc_region ?_
                refine jl_op ?_ (nb rfl)
                refine ow_move rfl ?_
                refine jl_op ?_ (nb rfl)
                refine ow_nilCheck rfl ?_
                refine jl_op ?_ (nb rfl)
                refine ow_fieldAddr rfl rfl rfl (nb rfl) ?_
                refine jl_op ?_ (nb rfl)
                refine ow_load 0 rfl rfl rfl rfl ?_
                refine jl_op ?_ (nb rfl)
                refine ow_streql rfl rfl ?_
                refine jl_op ?_ (nb rfl)
                refine ow_move rfl ?_
                refine jl_guardN rfl (by first | assumption | exact decide_eq_true (by first | assumption | omega) | exact decide_eq_false (by first | assumption | omega) | with_reducible rfl) (nb rfl) ?_
                refine jl_guardN rfl (by first | assumption | exact decide_eq_true (by first | assumption | omega) | exact decide_eq_false (by first | assumption | omega) | with_reducible rfl) (nb rfl) ?_
                refine jl_guardN rfl (by first | assumption | exact decide_eq_true (by first | assumption | omega) | exact decide_eq_false (by first | assumption | omega) | with_reducible rfl) (nb rfl) ?_
                refine jl_guardN rfl (by first | assumption | exact decide_eq_true (by first | assumption | omega) | exact decide_eq_false (by first | assumption | omega) | with_reducible rfl) (nb rfl) ?_
                refine jl_guardN rfl (by first | assumption | exact decide_eq_true (by first | assumption | omega) | exact decide_eq_false (by first | assumption | omega) | with_reducible rfl) (nb rfl) ?_
                refine jl_guardN rfl (by first | assumption | exact decide_eq_true (by first | assumption | omega) | exact decide_eq_false (by first | assumption | omega) | with_reducible rfl) (nb rfl) ?_
                refine jl_op ?_ (nb rfl)
                refine ow_pickF rfl (by first | assumption | exact decide_eq_true (by first | assumption | omega) | exact decide_eq_false (by first | assumption | omega) | with_reducible rfl) rfl ?_
                refine jl_nil ?_
                refine jq_cut false [0, 0, 0] (by simp) rfl ?_
                (repeat (first | exact True.intro | refine ⟨rfl, ?_⟩))
            intro b2 hb2
            refine jc_cond rfl (fun hbt => ?_) (fun hbt => ?_)
            · have hSh0 := hb2 hbt
              have hShm := gv.hSh
              have eSh : (Sh.map Shrow).length = Sh.length := List.length_map _
              refine jc_seq ?_
              refine jc_anyB 18 none rfl (by kernel_rfl) (by kernel_rfl) ?_
              refine any_op (fun c => ow_move rfl ⟨rfl, List.Perm.refl _⟩) ?_
              refine any_op (fun c => ow_move rfl ⟨rfl, List.Perm.refl _⟩) ?_
              refine any_op (fun c => ow_nilCheck rfl ⟨rfl, List.Perm.refl _⟩) ?_
              refine any_op (fun c => ow_fieldAddr rfl rfl rfl (nb rfl) ⟨rfl, List.Perm.refl _⟩) ?_
              refine any_op (fun c => ow_load 0 rfl rfl rfl rfl ⟨rfl, List.Perm.refl _⟩) ?_
              refine any_op (fun c => ow_move rfl ⟨rfl, List.Perm.refl _⟩) ?_
              refine any_op (fun c => ow_nilCheck rfl ⟨rfl, List.Perm.refl _⟩) ?_
              refine any_op (fun c => ow_fieldAddr rfl rfl rfl (nb rfl) ⟨rfl, List.Perm.refl _⟩) ?_
              refine any_op (fun c => ow_load 0 rfl rfl rfl rfl ⟨rfl, List.Perm.refl _⟩) ?_
              refine any_op (fun c => ow_move rfl ⟨rfl, List.Perm.refl _⟩) ?_
              refine any_op (fun c => ow_nilCheck rfl ⟨rfl, List.Perm.refl _⟩) ?_
              refine any_op (fun c => ow_fieldAddr rfl rfl rfl (nb rfl) ⟨rfl, List.Perm.refl _⟩) ?_
              refine any_op (fun c => ow_load 0 rfl rfl rfl rfl ⟨rfl, List.Perm.refl _⟩) ?_
              refine any_op (fun c => ow_len rfl (fun hlen => ⟨rfl, List.Perm.refl _⟩)) ?_
              refine any_op (fun c => ow_callA [1] rfl rfl (Next_c L _ _ gv.hL gv.hLn (by omega))) ?_
              refine any_op (fun c => ow_exarg 122 rfl (fun i => ow_indexAddrMapI rfl rfl (by have := i.2; omega) (by have := i.2; omega) rfl rfl (nb rfl) ⟨rfl, .refl _⟩)) ?_
              refine any_op (fun c => ow_exarg 123 rfl (fun i => ow_fieldAddrPlace rfl rfl rfl (nb rfl) rfl (nb rfl) ⟨rfl, .refl _⟩)) ?_
              refine any_op (fun c => ow_exarg 124 rfl (fun i => ow_loadPlace rfl rfl ⟨rfl, .refl _⟩)) ?_
              refine any_nil (afin_none ?_)
              refine jl_slot 125 rfl (fun i => ?_)
              refine jl_op ?_ (nb rfl)
              refine ow_nilCheck rfl ?_
              refine jl_op ?_ (nb rfl)
              refine ow_fieldAddr rfl rfl rfl (nb rfl) ?_
              refine jl_op0 ?_
              refine ow_store1 0 rfl rfl rfl rfl (nb rfl) ?_
              refine jl_nil ?_
              refine jq_then ?_
              refine jc_seq ?_
              refine jc_region ?_
              refine jl_op ?_ (nb rfl)
              refine ow_move rfl ?_
              refine jl_op ?_ (nb rfl)
              refine ow_nilCheck rfl ?_
              refine jl_op ?_ (nb rfl)
              refine ow_fieldAddr rfl rfl rfl (nb rfl) ?_
              refine jl_op ?_ (nb rfl)
              refine ow_load 0 rfl rfl rfl rfl ?_
              refine jl_op ?_ (nb rfl)
              refine ow_assign rfl ?_
              refine jl_nil ?_
              refine jq_then ?_
              refine jc_seq ?_
              refine jc_region ?_
              refine jl_op ?_ (nb rfl)
              refine ow_move rfl ?_
              refine jl_op ?_ (nb rfl)
              refine ow_move rfl ?_
              refine jl_op ?_ (nb rfl)
              refine ow_move rfl ?_
              refine jl_op ?_ (nb rfl)
              refine ow_sub64 rfl rfl (by omega) ?_
              refine jl_op (ow_callNP [0, 0, 0] rfl rfl (hblk ⟨lv0, Sh[i.1.toNat].2.2, lab0, st0⟩ il LS (x - 1) 2 ⟨⟨hlab0, hlab1⟩, hst0, hst1⟩ hil hil2 hLS (by omega) (by omega) (by omega)) (fun r n hn hr => ?_)) (nb rfl)
              obtain ⟨⟨lv1, hs1, lab1, st1⟩, v1, l1⟩ := r
              obtain ⟨hok1, hf1, hl1, hsh1⟩ := hr
              dsimp only at hl1 hsh1 hf1 ⊢
              refine jl_freezeF 136 0 rfl rfl (hf1.mono hn) ?_
              refine jl_op ?_ (nb rfl)
              refine ow_build rfl rfl rfl rfl rfl ?_
              refine jl_op ?_ (nb rfl)
              refine ow_alloc rfl rfl (fun bl => ?_)
              refine jl_op0 ?_
              refine ow_storeAll 0 rfl rfl rfl rfl rfl rfl ?_
              refine jl_nil ?_
              refine jq_then ?_
              refine jc_seq ?_
              refine jc_region ?_
              refine jl_op ?_ (nb rfl)
              refine ow_move rfl ?_
              refine jl_op ?_ (nb rfl)
              refine ow_nilCheck rfl ?_
              refine jl_op ?_ (nb rfl)
              refine ow_fieldAddr rfl rfl rfl (nb rfl) ?_
              refine jl_op0 ?_
              refine ow_store1 1 rfl rfl rfl rfl (nb rfl) ?_
              refine jl_nil ?_
              refine jq_then ?_
              refine jc_seq ?_
              refine jc_region ?_
              refine jl_op ?_ (nb rfl)
              refine ow_loadAll 1 rfl rfl rfl rfl ?_
              refine jl_op ?_ (nb rfl)
              refine ow_buildSlice rfl rfl (nb rfl) rfl rfl (nb rfl) ?_
              refine jl_op ?_ (nb rfl)
              refine ow_assign rfl ?_
              refine jl_nil ?_
              refine jq_then ?_
              refine jc_ret ?_
              refine jq_block_ret ?_
              refine jq_then_ret ?_
              refine jq_sle 4 rfl (SLe.cell (CLe.list (.cons (sm_le 5 Sh[i.1.toNat].2.2 [] [] 0 0 l1 [] .nil .nil (.refl _) .nil) .nil))) ?_
              first | exact jq_ret1 rfl rfl [0, 1, 1] rfl (fin1 _ (shal_in (.inr (.inr rfl)) (fun _ => rfl) (by omega) (Nat.zero_le _) hsh1 (by simp)) ⟨lv1, ⟨#[]⟩, lab1, st1⟩ hok1) | exact jq_ret1 rfl rfl [0, 2, 1] rfl (fin1 _ (shal_in (.inr (.inr rfl)) (fun _ => rfl) (by omega) (Nat.zero_le _) hsh1 (by simp)) ⟨lv1, ⟨#[]⟩, lab1, st1⟩ hok1) | exact jq_ret1 rfl rfl [0, 0, 0] rfl (fin1 _ (shal_in (.inr (.inr rfl)) (fun _ => rfl) (by omega) (Nat.zero_le _) hsh1 (by simp)) ⟨lv1, ⟨#[]⟩, lab1, st1⟩ hok1) | exact jq_ret1 rfl rfl [0, 0, 1] rfl (fin1 _ (shal_in (.inr (.inr rfl)) (fun _ => rfl) (by omega) (Nat.zero_le _) hsh1 (by simp)) ⟨lv1, ⟨#[]⟩, lab1, st1⟩ hok1) | exact jq_ret1 rfl rfl [0, 1, 0] rfl (fin1 _ (shal_in (.inr (.inr rfl)) (fun _ => rfl) (by omega) (Nat.zero_le _) hsh1 (by simp)) ⟨lv1, ⟨#[]⟩, lab1, st1⟩ hok1) | exact jq_ret1 rfl rfl [0, 2, 2] rfl (fin1 _ (shal_in (.inr (.inr rfl)) (fun _ => rfl) (by omega) (Nat.zero_le _) hsh1 (by simp)) ⟨lv1, ⟨#[]⟩, lab1, st1⟩ hok1) | exact jq_ret1 rfl rfl [0, 2, 0] rfl (fin1 _ (shal_in (.inr (.inr rfl)) (fun _ => rfl) (by omega) (Nat.zero_le _) hsh1 (by simp)) ⟨lv1, ⟨#[]⟩, lab1, st1⟩ hok1)
            · refine jc_skip ?_
              refine jq_block ?_
              refine jq_cut () [0, 0, 0] trivial rfl ?_
              (repeat (first | exact True.intro | refine ⟨rfl, ?_⟩))
          · refine jc_skip ?_
            refine jq_block ?_
            refine jq_cut () [0, 0, 0] trivial rfl ?_
            (repeat (first | exact True.intro | refine ⟨rfl, ?_⟩))
  · intro _ _
    refine jc_seq ?_
    refine jc_region ?_
    refine jl_op ?_ (nb rfl)
    refine ow_move rfl ?_
    refine jl_op (ow_callP [0, 0, 0] rfl rfl (target_c gv.hL gv.hLn gv.hV0 gv.hV (by omega)) (fun s1 hs1 => ?_)) (nb rfl)
    refine jl_op ?_ (nb rfl)
    refine ow_move rfl ?_
    refine jl_op (ow_callP [0, 0] rfl rfl (expr_c gv.hL gv.hLn gv.hV0 gv.hV gv.hA gv.hSh 2 2 (by omega) (by omega) (by omega)) (fun e1 he1 => ?_)) (nb rfl)
    refine jl_op ?_ (nb rfl)
    refine ow_buildSlice rfl rfl (nb rfl) rfl rfl (nb rfl) ?_
    refine jl_op ?_ (nb rfl)
    refine ow_build rfl rfl rfl rfl rfl ?_
    refine jl_op ?_ (nb rfl)
    refine ow_buildSlice rfl rfl (nb rfl) rfl rfl (nb rfl) ?_
    refine jl_op ?_ (nb rfl)
    refine ow_assign rfl ?_
    refine jl_nil ?_
    refine jq_then ?_
    refine jc_ret ?_
    refine jq_sle 4 rfl (SLe.cell (CLe.list (.cons (sm_le 1 s1 [] [e1] 0 0 [] [] .nil (ex1_le e1) .nil .nil) .nil))) ?_
    exact jq_ret1 rfl rfl [0, 0, 0] rfl (fin0 _ (shal_leaf (.inl rfl)))
end
end Go.Proofs.Ytfnephpolfnmoaa
