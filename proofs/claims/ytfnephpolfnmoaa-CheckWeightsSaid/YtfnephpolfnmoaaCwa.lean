import Derived.Test.YtfnephpolfnmoaaCw9
namespace Go.Proofs.Ytfnephpolfnmoaa
open Go.Vc
set_option maxHeartbeats 4000000
attribute [local irreducible] JL JC JQ OpWp Con ConN

def LoopP (L : List Int) (bm bd : Nat) (V A : List ByteArray) (Sh : List Shd) (d : Nat) : Prop :=
  ∀ (m : Ms) (il : Int) (LS : List ByteArray) (x : Int), m.ok → m.lab ≤ 11 → 0 ≤ il → il ≤ 1 → LS.length ≤ il → x = (d + 1 : Nat) →
    Con Try.prog 35 [Ptr bm, In .i64 x] [Mk bm bd V m.lv A Sh m.hs m.lab m.st il, Dk bd L, .own m.lv 9 1 (LS.map Srow)]
      (fun K => ∀ r : Ms × List Sm, (r.1.ok ∧ r.2.length ≤ 2 ∧ ∀ s ∈ r.2, Shal (d + 1) s) → K (.cell (.list (r.2.map Sm.row))) [Mk bm bd V r.1.lv A Sh r.1.hs r.1.lab r.1.st il, Dk bd L, .own r.1.lv 9 1 (LS.map Srow)])

theorem sm_le (k : Int) (nm : ByteArray) (I V : List Ex) (mx lb : Int) (T E : List Sm) {cI cV cT cE : C} (hI : CLe cI (.list (I.map Ex.row))) (hV : CLe cV (.list (V.map Ex.row))) (hT : CLe cT (.list (T.map Sm.row))) (hE : CLe cE (.list (E.map Sm.row))) :
    RowLe [.val (.int .i64 k), .val (.string nm), cI, cV, .val (.int .i64 mx), .val (.int .i64 lb), cT, cE] (Sm.row ⟨k, nm, I, V, mx, lb, T, E⟩) := by
  rw [Sm.row_eq]
  exact .cons (.refl _) (.cons (.refl _) (.cons hI (.cons hV (.cons (.refl _) (.cons (.refl _) (.cons hT (.cons hE .nil)))))))
theorem ex1_le (e : Ex) : CLe (.list [e.row']) (.list ([e].map Ex.row)) := CLe.eq (by simp [Ex.row_eq])
theorem shal_in {d : Nat} {k : Int} {nm : ByteArray} {I V : List Ex} {mx lb : Int} {T E : List Sm} (hk : k = 3 ∨ k = 4 ∨ k = 5) (hE : k ≠ 3 → E = []) (hT5 : T.length ≤ 5) (hE5 : E.length ≤ 5) (h1 : ∀ t ∈ T, Shal d t) (h2 : ∀ t ∈ E, Shal d t) : Shal (d + 1) ⟨k, nm, I, V, mx, lb, T, E⟩ :=
  .inr ⟨hk, hE, hT5, hE5, h1, h2⟩
theorem shal_leaf {d : Nat} {k : Int} {nm : ByteArray} {I V : List Ex} {mx lb : Int} (hk : k = 1 ∨ k = 2) : Shal d ⟨k, nm, I, V, mx, lb, [], []⟩ := Shal.leaf ⟨hk, rfl, rfl⟩

section
variable {L : List Int} {bm bd : Nat} {V A : List ByteArray} {Sh : List Shd}

theorem loop_step (gv : Gv L V A Sh) (d : Nat) (hd10 : d ≤ 10) (hblk : BlockP L bm bd V A Sh d) : LoopP L bm bd V A Sh d := by
  intro m il LS x hm hm11 hil hil2 hLS hx
  obtain ⟨lv0, hs0, lab0, st0⟩ := m
  obtain ⟨⟨hlab0, hlab1⟩, hst0, hst1⟩ := hm
  dsimp only at hlab0 hlab1 hst0 hst1 hm11 ⊢
  refine con_intro Try.func35 rfl rfl (Nat.le_of_ble_eq_true rfl) (fun c hc => ?_)
  refine jc_seq ?_
  refine jc_region ?_
  refine jl_op ?_ (nb rfl)
  refine ow_assign rfl ?_
  refine jl_nil ?_
  refine jq_then ?_
  refine jc_seq ?_
  refine jc_region ?_
  refine jl_op ?_ (nb rfl)
  refine ow_move rfl ?_
  refine jl_op ?_ (nb rfl)
  refine ow_nilCheck rfl ?_
  refine jl_op ?_ (nb rfl)
  refine ow_fieldAddr rfl rfl rfl (nb rfl) ?_
  refine jl_op ?_ (nb rfl)
  refine ow_load 0 rfl rfl rfl rfl ?_
  refine jl_op ?_ (nb rfl)
  refine ow_add64 rfl rfl (by omega) ?_
  refine jl_op ?_ (nb rfl)
  refine ow_nilCheck rfl ?_
  refine jl_op ?_ (nb rfl)
  refine ow_fieldAddr rfl rfl rfl (nb rfl) ?_
  refine jl_op0 ?_
  refine ow_store1 0 rfl rfl rfl rfl (nb rfl) ?_
  refine jl_nil ?_
  refine jq_then ?_
  refine jc_seq ?_
  refine jc_region ?_
  refine jl_op ?_ (nb rfl)
  refine ow_move rfl ?_
  refine jl_op ?_ (nb rfl)
  refine ow_nilCheck rfl ?_
  refine jl_op ?_ (nb rfl)
  refine ow_fieldAddr rfl rfl rfl (nb rfl) ?_
  refine jl_op ?_ (nb rfl)
  refine ow_load 0 rfl rfl rfl rfl ?_
  refine jl_op ?_ (nb rfl)
  refine ow_add64 rfl rfl (by omega) ?_
  refine jl_op ?_ (nb rfl)
  refine ow_nilCheck rfl ?_
  refine jl_op ?_ (nb rfl)
  refine ow_fieldAddr rfl rfl rfl (nb rfl) ?_
  refine jl_op0 ?_
  refine ow_store1 0 rfl rfl rfl rfl (nb rfl) ?_
  refine jl_nil ?_
  refine jq_then ?_
  refine jc_seq ?_
  refine jc_anyB 11 (some 10) rfl (by kernel_rfl) (by kernel_rfl) ?_
  refine any_op (fun c => ow_move rfl ⟨rfl, List.Perm.refl _⟩) ?_
  refine any_op (fun c => ow_nilCheck rfl ⟨rfl, List.Perm.refl _⟩) ?_
  refine any_op (fun c => ow_fieldAddr rfl rfl rfl (nb rfl) ⟨rfl, List.Perm.refl _⟩) ?_
  refine any_op (fun c => ow_load 0 rfl rfl rfl rfl ⟨rfl, List.Perm.refl _⟩) ?_
  refine any_op (fun c => ow_move rfl ⟨rfl, List.Perm.refl _⟩) ?_
  refine any_op (fun c => ow_nilCheck rfl ⟨rfl, List.Perm.refl _⟩) ?_
  refine any_op (fun c => ow_fieldAddr rfl rfl rfl (nb rfl) ⟨rfl, List.Perm.refl _⟩) ?_
  refine any_op (fun c => ow_load 0 rfl rfl rfl rfl ⟨rfl, List.Perm.refl _⟩) ?_
  refine any_op (fun c => ow_callA [1] rfl rfl (Next_c L _ _ gv.hL gv.hLn (by omega))) ?_
  refine any_op (fun c => ow_exarg 31 rfl (fun i => ow_build rfl rfl rfl rfl rfl ⟨rfl, .refl _⟩)) ?_
  refine any_alloc ?_
  refine any_nil ?_
  refine afin_some rfl rfl rfl (fun bS => ?_)
  refine jl_slot 32 rfl (fun mx => ?_)
  refine jl_op0 ?_
  refine ow_storeAll 0 rfl rfl rfl rfl rfl rfl ?_
  refine jl_nil ?_
  refine jq_then ?_
  refine jc_seq ?_
  refine jc_seq ?_
  refine jc_region ?_
  refine jl_op ?_ (nb rfl)
  refine ow_move rfl ?_
  refine jl_op ?_ (nb rfl)
  refine ow_nilCheck rfl ?_
  refine jl_op ?_ (nb rfl)
  refine ow_fieldAddr rfl rfl rfl (nb rfl) ?_
  refine jl_op ?_ (nb rfl)
  refine ow_load 1 rfl rfl rfl rfl ?_
  refine jl_op (ow_callP [2] rfl rfl (Nx_c _ gv.hL gv.hLn (by omega)) (fun k0 hk0 => ?_)) (nb rfl)
  refine jl_op ?_ (nb rfl)
  refine ow_eql rfl rfl ?_
  refine jl_nil ?_
  refine jq_then ?_
  refine jc_condd rfl (fun h3 => ?_) (fun h3 => ?_)
  · refine jc_seq ?_
    refine jc_region ?_
    refine jl_op ?_ (nb rfl)
    refine ow_move rfl ?_
    refine jl_op (ow_callP [2, 0] rfl rfl (condition_c gv.hL gv.hLn gv.hV0 gv.hV gv.hA gv.hSh) (fun e1 he1 => ?_)) (nb rfl)
    refine jl_op ?_ (nb rfl)
    refine ow_buildSlice rfl rfl (nb rfl) rfl rfl (nb rfl) ?_
    refine jl_op ?_ (nb rfl)
    refine ow_fieldAddr rfl rfl rfl (nb rfl) ?_
    refine jl_op0 ?_
    refine ow_store1 2 rfl rfl rfl rfl (nb rfl) ?_
    refine jl_nil ?_
    refine jq_then ?_
    refine jc_seq ?_
    refine jc_region ?_
    refine jl_op ?_ (nb rfl)
    refine ow_move rfl ?_
    refine jl_op ?_ (nb rfl)
    refine ow_move rfl ?_
    refine jl_op ?_ (nb rfl)
    refine ow_sub64 rfl rfl (by omega) ?_
    refine jl_op (ow_callNP [1, 1, 1] rfl rfl (hblk ⟨lv0, hs0, lab0 + 1, st0⟩ (il + 1) LS (x - 1) 2 ⟨⟨by dsimp only; omega, by dsimp only; omega⟩, hst0, hst1⟩ (by omega) (by omega) (by omega) (by omega) (by omega) (by omega)) (fun r n hn hr => ?_)) (nb rfl)
    obtain ⟨⟨lv2, hs2, lab2, st2⟩, v2, l2⟩ := r
    obtain ⟨hok2, hf2, hl2, hsh2⟩ := hr
    dsimp only at hl2 hsh2 ⊢
    refine jl_freezeF 46 0 rfl rfl (hf2.mono hn) ?_
    refine jl_op ?_ (nb rfl)
    refine ow_fieldAddr rfl rfl rfl (nb rfl) ?_
    refine jl_op0 ?_
    refine ow_store1 3 rfl rfl rfl rfl (nb rfl) ?_
    refine jl_nil ?_
    refine jq_then ?_
    refine jc_seq ?_
    refine jc_region ?_
    refine jl_op ?_ (nb rfl)
    refine ow_move rfl ?_
    refine jl_op ?_ (nb rfl)
    refine ow_nilCheck rfl ?_
    refine jl_op ?_ (nb rfl)
    refine ow_fieldAddr rfl rfl rfl (nb rfl) ?_
    refine jl_op ?_ (nb rfl)
    refine ow_load 1 rfl rfl rfl rfl ?_
    refine jl_op ?_ (nb rfl)
    refine ow_sub64 rfl rfl (by omega) ?_
    refine jl_op ?_ (nb rfl)
    refine ow_nilCheck rfl ?_
    refine jl_op ?_ (nb rfl)
    refine ow_fieldAddr rfl rfl rfl (nb rfl) ?_
    refine jl_op0 ?_
    refine ow_store1 1 rfl rfl rfl rfl (nb rfl) ?_
    refine jl_nil ?_
    refine jq_then ?_
    refine jc_seq ?_
    refine jc_region ?_
    refine jl_op ?_ (nb rfl)
    refine ow_loadAll 1 rfl rfl rfl rfl ?_
    refine jl_op ?_ (nb rfl)
    refine ow_buildSlice rfl rfl (nb rfl) rfl rfl (nb rfl) ?_
    refine jl_op ?_ (nb rfl)
    refine ow_assign rfl ?_
    refine jl_nil ?_
    refine jq_then ?_
    refine jc_ret ?_
    refine jq_then_ret ?_
    refine jq_sle 4 rfl (SLe.cell (CLe.list (.cons (sm_le 4 ⟨#[]⟩ [] [e1] mx.1 (lab0 + 1) l2 [] .nil (ex1_le e1) (.refl _) .nil) .nil))) ?_
    have fin : ∀ K : S → List Ch → Prop, (∀ r : Ms × List Sm, (r.1.ok ∧ r.2.length ≤ 2 ∧ ∀ s ∈ r.2, Shal (d + 1) s) → K (.cell (.list (r.2.map Sm.row))) [Mk bm bd V r.1.lv A Sh r.1.hs r.1.lab r.1.st il, Dk bd L, .own r.1.lv 9 1 (LS.map Srow)]) →
        K (.cell (.list [Sm.row ⟨4, ⟨#[]⟩, [], [e1], mx.1, lab0 + 1, l2, []⟩])) [Mk bm bd V lv2 A Sh hs2 lab2 st2 (il + 1 - 1), Dk bd L, .own lv2 9 1 (LS.map Srow)] := by
      intro K h
      rw [show il + 1 - 1 = il by omega]
      exact h (⟨lv2, hs2, lab2, st2⟩, [⟨4, ⟨#[]⟩, [], [e1], mx.1, lab0 + 1, l2, []⟩]) ⟨hok2, by simp, by simpa using shal_in (.inr (.inl rfl)) (fun _ => rfl) (by omega) (Nat.zero_le _) hsh2 (by simp)⟩
    exact jq_ret1 rfl rfl [0, 1, 1] rfl fin
  · refine jc_skip ?_
    refine jq_then ?_
    refine jc_seq ?_
    refine jc_region ?_
    refine jl_op ?_ (nb rfl)
    refine ow_move rfl ?_
    refine jl_op (ow_callP [2, 0, 1] rfl rfl (target_c gv.hL gv.hLn gv.hV0 gv.hV (by omega)) (fun tg htg => ?_)) (nb rfl)
    refine jl_op ?_ (nb rfl)
    refine ow_assign rfl ?_
    refine jl_nil ?_
    refine jq_then ?_
    refine jc_seq ?_
    refine jc_region ?_
    refine jl_op ?_ (nb rfl)
    refine ow_move rfl ?_
    refine jl_op ?_ (nb rfl)
    refine ow_nilCheck rfl ?_
    refine jl_op ?_ (nb rfl)
    refine ow_fieldAddr rfl rfl rfl (nb rfl) ?_
    refine jl_op ?_ (nb rfl)
    refine ow_load 0 rfl rfl rfl rfl ?_
    refine jl_op (ow_callP [1] rfl rfl (Nx_c _ gv.hL gv.hLn (by omega)) (fun sp hsp => ?_)) (nb rfl)
    refine jl_op ?_ (nb rfl)
    refine ow_add64 rfl rfl (by omega) ?_
    refine jl_op ?_ (nb rfl)
    refine ow_assign rfl ?_
    refine jl_nil ?_
    refine jq_then ?_
    refine jc_seq ?_
    refine jc_region ?_
    refine jl_op ?_ (nb rfl)
    refine ow_move rfl ?_
    refine jl_op ?_ (nb rfl)
    refine ow_nilCheck rfl ?_
    refine jl_op ?_ (nb rfl)
    refine ow_fieldAddr rfl rfl rfl (nb rfl) ?_
    refine jl_op ?_ (nb rfl)
    refine ow_load 1 rfl rfl rfl rfl ?_
    refine jl_op (ow_callP [0] rfl rfl (Nx_c _ gv.hL gv.hLn (by omega)) (fun tp htp => ?_)) (nb rfl)
    refine jl_op ?_ (nb rfl)
    refine ow_call0 rfl (Num_c _) ?_
    refine jl_op ?_ (nb rfl)
    refine ow_alloc rfl rfl (fun bl => ?_)
    refine jl_op0 ?_
    refine ow_storeAll 0 rfl rfl rfl rfl rfl rfl ?_
    refine jl_nil ?_
    refine jq_then ?_
    refine jc_seq ?_
    refine jc_seq ?_
    refine jc_region ?_
    refine jl_op ?_ (nb rfl)
    refine ow_move rfl ?_
    refine jl_op ?_ (nb rfl)
    refine ow_nilCheck rfl ?_
    refine jl_op ?_ (nb rfl)
    refine ow_fieldAddr rfl rfl rfl (nb rfl) ?_
    refine jl_op ?_ (nb rfl)
    refine ow_load 2 rfl rfl rfl rfl ?_
    refine jl_op (ow_callP [1] rfl rfl (Nx_c _ gv.hL gv.hLn (by omega)) (fun k4 hk4 => ?_)) (nb rfl)
    refine jl_op ?_ (nb rfl)
    refine ow_eql rfl rfl ?_
    refine jl_nil ?_
    refine jq_then ?_
    refine jc_cut (ι := Ex) [0, 1, 5, 6, 7, 8] (fun _ => True) (fun _ => []) (fun e => [Mk bm bd V lv0 A Sh hs0 (lab0 + 1) st0 (il + 1), Dk bd L, .own lv0 9 1 (LS.map Srow), .blk bS 45 [.val (.int .i64 4), .val (.string ⟨#[]⟩), .val (.slice none 0 0), .val (.slice none 0 0), .val (.int .i64 mx.1), .val (.int .i64 (lab0 + 1)), .val (.slice none 0 0), .val (.slice none 0 0)], .blk bl 42 (Ex.row' e)]) ?_ ?_
    · refine jc_condd rfl (fun h2 => ?_) (fun h2 => ?_)
      · refine jc_region ?_
        refine jl_op ?_ (nb rfl)
        refine ow_move rfl ?_
        refine jl_op ?_ (nb rfl)
        refine ow_move rfl ?_
        refine jl_op ?_ (nb rfl)
        refine ow_nilCheck rfl ?_
        refine jl_op ?_ (nb rfl)
        refine ow_fieldAddr rfl rfl rfl (nb rfl) ?_
        refine jl_op ?_ (nb rfl)
        refine ow_load 2 rfl rfl rfl rfl ?_
        refine jl_op (ow_callP [2, 0] rfl rfl (name_c gv.hL gv.hLn V gv.hV0 (by have := gv.hV; omega)) (fun nm hnm => ?_)) (nb rfl)
        refine jl_op ?_ (nb rfl)
        refine ow_call0 rfl (Name_c _) ?_
        refine jl_op0 ?_
        refine ow_storeAll 2 rfl rfl rfl rfl rfl rfl ?_
        refine jl_nil ?_
        refine jq_cut (⟨2, 0, nm, 0, []⟩) [1, 1, 1, 1, 0] trivial rfl ?_
        (repeat (first | exact True.intro | refine ⟨rfl, ?_⟩))
      · refine jc_skip ?_
        refine jq_cut (⟨1, tp, ⟨#[]⟩, 0, []⟩) [2, 0, 1, 1, 0] trivial rfl ?_
        (repeat (first | exact True.intro | refine ⟨rfl, ?_⟩))
    · intro e8 _
      refine jc_seq ?_
      refine jc_region ?_
      refine jl_op ?_ (nb rfl)
      refine ow_move rfl ?_
      refine jl_op ?_ (nb rfl)
      refine ow_move rfl ?_
      refine jl_op ?_ (nb rfl)
      refine ow_nilCheck rfl ?_
      refine jl_op ?_ (nb rfl)
      refine ow_fieldAddr rfl rfl rfl (nb rfl) ?_
      refine jl_op ?_ (nb rfl)
      refine ow_load 0 rfl rfl rfl rfl ?_
      refine jl_op ?_ (nb rfl)
      refine ow_move rfl ?_
      refine jl_op ?_ (nb rfl)
      refine ow_buildSlice rfl rfl (nb rfl) rfl rfl (nb rfl) ?_
      refine jl_op (ow_append1F 2 (tg) rfl rfl rfl rfl rfl rfl rfl (fun _ => rfl) (by show (_ + _) * 16 ≤ _; first | omega | (simp only [List.length_append]; omega)) (by first | omega | (simp only [List.length_append]; omega)) (fun lv1 hlv1 flv1 => ?_)) (nb rfl)
      refine jl_op ?_ (nb rfl)
      refine ow_nilCheck rfl ?_
      refine jl_op ?_ (nb rfl)
      refine ow_fieldAddr rfl rfl rfl (nb rfl) ?_
      refine jl_op0 ?_
      refine ow_store1 1 rfl rfl rfl rfl (nb rfl) ?_
      refine jl_nil ?_
      refine jq_then ?_
      refine jc_seq ?_
      refine jc_anyB 12 none rfl (by kernel_rfl) (by kernel_rfl) ?_
      refine any_op (fun c => ow_move rfl ⟨rfl, List.Perm.refl _⟩) ?_
      refine any_op (fun c => ow_nilCheck rfl ⟨rfl, List.Perm.refl _⟩) ?_
      refine any_op (fun c => ow_fieldAddr rfl rfl rfl (nb rfl) ⟨rfl, List.Perm.refl _⟩) ?_
      refine any_op (fun c => ow_load 0 rfl rfl rfl rfl ⟨rfl, List.Perm.refl _⟩) ?_
      refine any_op (fun c => ow_callA [2] rfl rfl (Next_c L _ _ gv.hL gv.hLn (by omega))) ?_
      refine any_op (fun c => ow_exarg 98 rfl (fun i => ow_add64 rfl rfl (by have := i.2; omega) ⟨rfl, .refl _⟩)) ?_
      refine any_op (fun c => ow_move rfl ⟨rfl, List.Perm.refl _⟩) ?_
      refine any_op (fun c => ow_call0 rfl (Name_c _) ⟨rfl, List.Perm.refl _⟩) ?_
      refine any_op (fun c => ow_loadAll 4 rfl rfl rfl rfl ⟨rfl, List.Perm.refl _⟩) ?_
      refine any_op (fun c => ow_exarg 99 rfl (fun i => ow_call0 rfl (Bin_c _ _ _) ⟨rfl, .refl _⟩)) ?_
      refine any_op (fun c => ow_exarg 103 rfl (fun i => ow_buildSlice rfl rfl (nb rfl) rfl rfl (nb rfl) ⟨rfl, .refl _⟩)) ?_
      refine any_op (fun c => ow_fieldAddr rfl rfl rfl (nb rfl) ⟨rfl, List.Perm.refl _⟩) ?_
      refine any_nil ?_
      refine afin_none ?_
      refine jl_slot 104 rfl (fun op => ?_)
      refine jl_op0 ?_
      refine ow_store1 3 rfl rfl rfl rfl (nb rfl) ?_
      refine jl_nil ?_
      refine jq_then ?_
      refine jc_seq ?_
      refine jc_region ?_
      refine jl_op ?_ (nb rfl)
      refine ow_move rfl ?_
      refine jl_op ?_ (nb rfl)
      refine ow_move rfl ?_
      refine jl_op ?_ (nb rfl)
      refine ow_sub64 rfl rfl (by omega) ?_
      have con := hblk ⟨lv1, hs0, lab0 + 1, st0⟩ (il + 1) (LS ++ [tg]) (x - 1) 2 ⟨⟨by dsimp only; omega, by dsimp only; omega⟩, hst0, hst1⟩ (by omega) (by omega) (by simp only [List.length_append, List.length_cons, List.length_nil]; omega) (by omega) (by omega) (by omega)
      dsimp only at con
      refine jl_op (ow_callNP [1, 2, 1] rfl rfl (con) (fun r n hn hr => ?_)) (nb rfl)
      obtain ⟨⟨lv2, hs2, lab2, st2⟩, v2, l2⟩ := r
      obtain ⟨hok2, hf2, hl2, hsh2⟩ := hr
      dsimp only at hl2 hsh2 hf2 ⊢
      refine jl_op ?_ (nb rfl)
      refine ow_move rfl ?_
      refine jl_op ?_ (nb rfl)
      refine ow_move rfl ?_
      refine jl_op ?_ (nb rfl)
      refine ow_call0 rfl (Name_c _) ?_
      refine jl_op ?_ (nb rfl)
      refine ow_move rfl ?_
      refine jl_op ?_ (nb rfl)
      refine ow_call0 rfl (Num_c _) ?_
      refine jl_op ?_ (nb rfl)
      refine ow_call0 rfl (Bin_c _ _ _) ?_
      refine jl_op ?_ (nb rfl)
      refine ow_buildSlice rfl rfl (nb rfl) rfl rfl (nb rfl) ?_
      refine jl_op ?_ (nb rfl)
      refine ow_build rfl rfl rfl rfl rfl ?_
      refine jl_op ?_ (nb rfl)
      refine ow_buildSlice rfl rfl (nb rfl) rfl rfl (nb rfl) ?_
      refine jl_sle 118 rfl (SLe.cell (CLe.list (.cons (sm_le 1 tg [] [⟨4, 0, ⟨#[]⟩, 1, [⟨2, 0, tg, 0, []⟩, ⟨1, 1 + sp, ⟨#[]⟩, 0, []⟩]⟩] 0 0 [] [] .nil (ex1_le _) .nil .nil) .nil))) ?_
      refine jl_op (ow_append1F 0 (⟨1, tg, [], [⟨4, 0, ⟨#[]⟩, 1, [⟨2, 0, tg, 0, []⟩, ⟨1, 1 + sp, ⟨#[]⟩, 0, []⟩]⟩], 0, 0, [], []⟩) rfl rfl rfl rfl rfl rfl rfl (fun a => by rw [Sm.row_eq]; rfl) (by show (_ + _) * 136 ≤ _; first | omega | (simp only [List.length_append]; omega)) (by first | omega | (simp only [List.length_append]; omega)) (fun v3 hv3 fv3 => ?_)) (nb rfl)
      refine jl_freezeF 119 0 rfl rfl (fv3 (hf2.mono hn)) ?_
      refine jl_op ?_ (nb rfl)
      refine ow_fieldAddr rfl rfl rfl (nb rfl) ?_
      refine jl_op0 ?_
      refine ow_store1 3 rfl rfl rfl rfl (nb rfl) ?_
      refine jl_nil ?_
      refine jq_then ?_
      refine jc_seq ?_
      have eL : (List.map Srow (LS ++ [tg])).length = LS.length + 1 := by simp
      refine jc_anyB 12 none rfl (by kernel_rfl) (by kernel_rfl) ?_
      refine any_op (fun c => ow_move rfl ⟨rfl, List.Perm.refl _⟩) ?_
      refine any_op (fun c => ow_move rfl ⟨rfl, List.Perm.refl _⟩) ?_
      refine any_op (fun c => ow_nilCheck rfl ⟨rfl, List.Perm.refl _⟩) ?_
      refine any_op (fun c => ow_fieldAddr rfl rfl rfl (nb rfl) ⟨rfl, List.Perm.refl _⟩) ?_
      refine any_op (fun c => ow_load 1 rfl rfl rfl rfl ⟨rfl, List.Perm.refl _⟩) ?_
      refine any_op (fun c => ow_move rfl ⟨rfl, List.Perm.refl _⟩) ?_
      refine any_op (fun c => ow_nilCheck rfl ⟨rfl, List.Perm.refl _⟩) ?_
      refine any_op (fun c => ow_fieldAddr rfl rfl rfl (nb rfl) ⟨rfl, List.Perm.refl _⟩) ?_
      refine any_op (fun c => ow_load 1 rfl rfl rfl rfl ⟨rfl, List.Perm.refl _⟩) ?_
      refine any_op (fun c => ow_lenown 3 rfl rfl (fun hlen => ⟨rfl, List.Perm.refl _⟩)) ?_
      refine any_op (fun c => ow_sub64 rfl rfl (by omega) ⟨rfl, List.Perm.refl _⟩) ?_
      (first | refine any_op (fun c => ow_trim 3 rfl rfl rfl (by omega) (by omega) ⟨rfl, .refl _⟩) ?_ | refine any_op (fun c => ow_trim 2 rfl rfl rfl (by omega) (by omega) ⟨rfl, .refl _⟩) ?_ | refine any_op (fun c => ow_trim 4 rfl rfl rfl (by omega) (by omega) ⟨rfl, .refl _⟩) ?_)
      refine any_nil ?_
      try refine afin_none ?_
      rw [show ((((List.map Srow (LS ++ [tg])).length : Nat) : Int) - 1).toNat = LS.length by omega]
      (first | refine jl_trim 3 LS.length rfl (by omega) ?_ | refine jl_trim 2 LS.length rfl (by omega) ?_ | refine jl_trim 4 LS.length rfl (by omega) ?_)
      rw [show (List.map Srow (LS ++ [tg])).take LS.length = List.map Srow LS by rw [List.map_append, List.take_left' (by simp)]]
      generalize trimV lv2 LS.length = lv3
      refine jl_op ?_ (nb rfl)
      refine ow_nilCheck rfl ?_
      refine jl_op ?_ (nb rfl)
      refine ow_fieldAddr rfl rfl rfl (nb rfl) ?_
      refine jl_op0 ?_
      refine ow_store1 2 rfl rfl rfl rfl (nb rfl) ?_
      refine jl_nil ?_
      refine jq_then ?_
      refine jc_seq ?_
      refine jc_region ?_
      refine jl_op ?_ (nb rfl)
      refine ow_move rfl ?_
      refine jl_op ?_ (nb rfl)
      refine ow_nilCheck rfl ?_
      refine jl_op ?_ (nb rfl)
      refine ow_fieldAddr rfl rfl rfl (nb rfl) ?_
      refine jl_op ?_ (nb rfl)
      refine ow_load 0 rfl rfl rfl rfl ?_
      refine jl_op ?_ (nb rfl)
      refine ow_sub64 rfl rfl (by omega) ?_
      refine jl_op ?_ (nb rfl)
      refine ow_nilCheck rfl ?_
      refine jl_op ?_ (nb rfl)
      refine ow_fieldAddr rfl rfl rfl (nb rfl) ?_
      refine jl_op0 ?_
      refine ow_store1 0 rfl rfl rfl rfl (nb rfl) ?_
      refine jl_nil ?_
      refine jq_then ?_
      refine jc_seq ?_
      refine jc_any rfl rfl (by kernel_rfl) (by kernel_rfl) ?_
      refine any_op (fun c => ow_move rfl ⟨rfl, List.Perm.refl _⟩) ?_
      refine any_op (fun c => ow_move rfl ⟨rfl, List.Perm.refl _⟩) ?_
      refine any_op (fun c => ow_nilCheck rfl ⟨rfl, List.Perm.refl _⟩) ?_
      refine any_op (fun c => ow_fieldAddr rfl rfl rfl (nb rfl) ⟨rfl, List.Perm.refl _⟩) ?_
      refine any_op (fun c => ow_load 0 rfl rfl rfl rfl ⟨rfl, List.Perm.refl _⟩) ?_
      refine any_op (fun c => ow_callA [3] rfl rfl (Next_c L _ _ gv.hL gv.hLn (by omega))) ?_
      refine any_op (fun c => ow_exarg 147 rfl (fun i => ow_call0 rfl (Num_c _) ⟨rfl, .refl _⟩)) ?_
      refine any_op (fun c => ow_exarg 148 rfl (fun i => ow_buildSlice rfl rfl (nb rfl) rfl rfl (nb rfl) ⟨rfl, .refl _⟩)) ?_
      refine any_op (fun c => ow_exarg 149 rfl (fun i => ow_build rfl rfl rfl rfl rfl ⟨rfl, .refl _⟩)) ?_
      refine any_op (fun c => ow_loadAll 2 rfl rfl rfl rfl ⟨rfl, List.Perm.refl _⟩) ?_
      refine any_op (fun c => ow_exarg 150 rfl (fun i => ow_buildSlice rfl rfl (nb rfl) rfl rfl (nb rfl) ⟨rfl, .refl _⟩)) ?_
      refine any_op (fun c => ow_assign rfl ⟨rfl, List.Perm.refl _⟩) ?_
      refine any_nil ?_
      refine jq_then ?_
      refine jc_ret ?_
      refine jq_slot 4 rfl (fun i => ?_)
      refine jq_sle 4 rfl (SLe.cell (CLe.list (.cons (sm_le 1 tg [] [⟨1, i.1, ⟨#[]⟩, 0, []⟩] 0 0 [] [] .nil (ex1_le _) .nil .nil) (.cons (sm_le 4 ⟨#[]⟩ [] [⟨4, 0, ⟨#[]⟩, 11 + op.1, [⟨2, 0, tg, 0, []⟩, e8]⟩] mx.1 (lab0 + 1) (l2 ++ [⟨1, tg, [], [⟨4, 0, ⟨#[]⟩, 1, [⟨2, 0, tg, 0, []⟩, ⟨1, 1 + sp, ⟨#[]⟩, 0, []⟩]⟩], 0, 0, [], []⟩]) [] .nil (ex1_le _) (.refl _) .nil) .nil)))) ?_
      have fin : ∀ K : S → List Ch → Prop, (∀ r : Ms × List Sm, (r.1.ok ∧ r.2.length ≤ 2 ∧ ∀ s ∈ r.2, Shal (d + 1) s) → K (.cell (.list (r.2.map Sm.row))) [Mk bm bd V r.1.lv A Sh r.1.hs r.1.lab r.1.st il, Dk bd L, .own r.1.lv 9 1 (LS.map Srow)]) →
          K (.cell (.list [Sm.row ⟨1, tg, [], [⟨1, i.1, ⟨#[]⟩, 0, []⟩], 0, 0, [], []⟩, Sm.row ⟨4, ⟨#[]⟩, [], [⟨4, 0, ⟨#[]⟩, 11 + op.1, [⟨2, 0, tg, 0, []⟩, e8]⟩], mx.1, lab0 + 1, l2 ++ [⟨1, tg, [], [⟨4, 0, ⟨#[]⟩, 1, [⟨2, 0, tg, 0, []⟩, ⟨1, 1 + sp, ⟨#[]⟩, 0, []⟩]⟩], 0, 0, [], []⟩], []⟩])) [Mk bm bd V lv3 A Sh hs2 lab2 st2 (il + 1 - 1), Dk bd L, .own lv3 9 1 (LS.map Srow)] := by
        intro K h
        rw [show il + 1 - 1 = il by omega]
        refine h (⟨lv3, hs2, lab2, st2⟩, [⟨1, tg, [], [⟨1, i.1, ⟨#[]⟩, 0, []⟩], 0, 0, [], []⟩, ⟨4, ⟨#[]⟩, [], [⟨4, 0, ⟨#[]⟩, 11 + op.1, [⟨2, 0, tg, 0, []⟩, e8]⟩], mx.1, lab0 + 1, l2 ++ [⟨1, tg, [], [⟨4, 0, ⟨#[]⟩, 1, [⟨2, 0, tg, 0, []⟩, ⟨1, 1 + sp, ⟨#[]⟩, 0, []⟩]⟩], 0, 0, [], []⟩], []⟩]) ⟨hok2, by simp, ?_⟩
        intro s hs
        rcases List.mem_cons.1 hs with rfl | hs
        · exact shal_leaf (.inl rfl)
        rcases List.mem_cons.1 hs with rfl | hs
        · refine shal_in (.inr (.inl rfl)) (fun _ => rfl) (by simp only [List.length_append, List.length_cons, List.length_nil]; omega) (Nat.zero_le _) ?_ (by simp)
          intro t ht
          rcases List.mem_append.1 ht with ht | ht
          · exact hsh2 t ht
          · rw [List.mem_singleton.1 ht]
            exact shal_leaf (.inl rfl)
        · cases hs
      first | exact jq_ret1 rfl rfl [0, 1, 0] rfl fin | exact jq_ret1 rfl rfl [0, 2, 0] rfl fin | exact jq_ret1 rfl rfl [0, 3, 0] rfl fin | exact jq_ret1 rfl rfl [0, 4, 0] rfl fin
end
end Go.Proofs.Ytfnephpolfnmoaa
