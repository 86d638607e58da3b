import Derived.Test.YtlniadfidfmckaaGreatDoorMp3
import Derived.Test.YtlniadfidfmckaaGreatDoorProg
import Derived.Shelf.Strings.OnBuilder
import Derived.Shelf.Strings.Repeat
section
namespace Go.Proofs.YtlniadfidfmckaaGreatDoor
open Go.Vc
set_option maxHeartbeats 4000000
attribute [local irreducible] JL JC JQ OpWp Con ConN
theorem StG.inn {V A : List ByteArray} {Sh : List Shd} {d : Nat} {il : Int} {hs : ByteArray} {lab lab' : Int} {l : List Sm} (h : IfG V (usableF A Sh hs) (StG V A Sh d il hs) lab lab' l ∨ LpG V (usableF A Sh hs) il (StG V A Sh d (il + 1) hs) lab lab' l ∨ LkG Sh hs (StG V A Sh d il) lab lab' l) : StG V A Sh (d + 1) il hs lab lab' l := .inr h
attribute [local irreducible] StG

section
variable {L : List Int} {bm bd : Nat} {V A : List ByteArray} {Sh : List Shd}

theorem stmt_step (gv : Gv L V A Sh) (d : Nat) (hd10 : d ≤ 10) (hblk : ∀ d', d = d' + 1 → BlockP L bm bd V A Sh d') (hloop : ∀ d', d = d' + 1 → LoopP L bm bd V A Sh d') : StmtP L bm bd V A Sh d := by
  intro m hs0 il LS x hm hil hil2 hLS hx
  obtain ⟨lv0, lab0, st0⟩ := m
  obtain ⟨⟨hlab0, hlab1⟩, hst0, hst1⟩ := hm
  dsimp only at hlab0 hlab1 hst0 hst1 ⊢
  refine con_intro Tryz.func100 rfl rfl (Nat.le_of_ble_eq_true rfl) (fun c hc => R_ (E_ r_ (T_ (R_ (M_ r_ (N_ r_ (F_ r_ (L_ 0 r_ (o_ r_ (bt_ [1] rfl rfl (Nx_c _ gv.hL gv.hLn g_) (fun k0 hk0 => E_ r_ (T_ (am_ (am_ (jc_cut (ι := Bool) [0, 1, 4, 5] (fun b => b = false → 0 < x ∧ lab0 < 12) (fun b => [(23, Bl b)]) (fun _ => [Mk bm bd V lv0 A Sh hs0 lab0 st0 il, Dk bd L, .own lv0 9 1 (LS.map Wrow)]) ?_ ?_)))))))))))))))
  · by_cases hx0 : x ≤ 0
    · refine an_ (M_ r_ (o_ r_ (cu_ r_ r_ (M_ r_ (ai_ r_ u_ b_ (ai_ r_ u_ b_ (ai_ r_ u_ b_ (ai_ r_ u_ b_ (ai_ r_ u_ b_ (o_ r_ (bp_ r_ u_ r_ (ak_ (jq_cut true [1, 0, 0] (by simp) rfl ?_)))))))))))))
      (repeat (first | exact True.intro | refine ⟨rfl, ?_⟩))
    · refine an_ (M_ r_ (o_ r_ (cu_ r_ r_ (M_ r_ (ah_ r_ w_ b_ (bd_ r_ (ah_ r_ w_ b_ (bh_ r_ (ah_ r_ w_ b_ (bf_ r_ r_ r_ b_ (ah_ r_ w_ b_ (bg_ 1 r_ r_ r_ r_ (ah_ r_ w_ b_ (cn_ r_ r_ (o_ r_ (bv_ r_ w_ r_ (ak_ (jq_cut (decide (12 ≤ lab0)) [1, 0, 0] (by simp; omega) rfl ?_))))))))))))))))))
      (repeat (first | exact True.intro | refine ⟨rfl, ?_⟩))
  intro b hb
  skip
  have ht : 0 ≤ k0 % 3 ∧ k0 % 3 ≤ 2 := by omega
  refine jc_cut (ι := Int) [0, 1, 4] (fun k => 0 ≤ k ∧ k ≤ 8 ∧ (2 < k → 0 < x ∧ lab0 < 12)) (fun k => [(5, In .i64 k)]) (fun _ => [Mk bm bd V lv0 A Sh hs0 lab0 st0 il, Dk bd L, .own lv0 9 1 (LS.map Wrow)]) ?_ ?_
  · refine jc_cond rfl (fun h => ?_) (fun h => ?_)
    · refine an_ (M_ r_ (o_ r_ (ow_rem64 r_ r_ g_ g_ (E_ r_ (ak_ (jq_cut (k0 % 3) [0, 0, 0] g_ rfl ?_))))))
      (repeat (first | exact True.intro | refine ⟨rfl, ?_⟩))
    · refine as_ (jq_cut k0 [0, 0, 0] ⟨hk0.1, by omega, fun _ => hb h⟩ rfl ?_)
      (repeat (first | exact True.intro | refine ⟨rfl, ?_⟩))
  intro k ⟨hk1, hk8, hkd⟩
  clear ht
  have fin1 : ∀ (s : Sm) (m : Ms), m.ok → StG V A Sh d il hs0 lab0 m.lab [s] → ∀ K : S → List Ch → Prop, (∀ r : Ms × List Sm, (r.1.ok ∧ r.2.length ≤ 2 ∧ StG V A Sh d il hs0 lab0 r.1.lab r.2) → K (.cell (.list (r.2.map Sm.row))) [Mk bm bd V r.1.lv A Sh hs0 r.1.lab r.1.st il, Dk bd L, .own r.1.lv 9 1 (LS.map Wrow)]) →
      K (.cell (.list [s.row])) [Mk bm bd V m.lv A Sh hs0 m.lab m.st il, Dk bd L, .own m.lv 9 1 (LS.map Wrow)] :=
    fun s m hm hs K h => h (m, [s]) ⟨hm, by simp, hs⟩
  have fin0 : ∀ (s : Sm), LeafG V (usableF A Sh hs0) lab0 lab0 [s] → ∀ K : S → List Ch → Prop, (∀ r : Ms × List Sm, (r.1.ok ∧ r.2.length ≤ 2 ∧ StG V A Sh d il hs0 lab0 r.1.lab r.2) → K (.cell (.list (r.2.map Sm.row))) [Mk bm bd V r.1.lv A Sh hs0 r.1.lab r.1.st il, Dk bd L, .own r.1.lv 9 1 (LS.map Wrow)]) →
      K (.cell (.list [s.row])) [Mk bm bd V lv0 A Sh hs0 lab0 st0 il, Dk bd L, .own lv0 9 1 (LS.map Wrow)] :=
    fun s hs => fin1 s ⟨lv0, lab0, st0⟩ ⟨⟨hlab0, hlab1⟩, hst0, hst1⟩ (.leaf hs)
  have hU := usable_len A Sh hs0
  have hUA := gv.hA
  have hUS := gv.hSh
  refine am_ (R_ (M_ r_ (T_ (jc_cut (ι := Unit) [0, 1] (fun _ => True) (fun _ => []) (fun _ => [Mk bm bd V lv0 A Sh hs0 lab0 st0 il, Dk bd L, .own lv0 9 1 (LS.map Wrow)]) ?_ ?_))))
  · refine au_ (R_ (o_ r_ (bn_ r_ r_ (E_ r_ (T_ (jc_condd rfl (fun h1 => ?_) (fun h1 => ?_)))))))
    · refine R_ (M_ r_ (o_ r_ (bi_ [0] r_ r_ (gusable_c gv.hA gv.hSh) (E_ r_ (T_ (R_ (M_ r_ (o_ r_ (br_ r_ (fun hlen => o_ r_ (bz_ r_ r_ (T_ (jc_condd rfl (fun hp => ?_) (fun hp => ?_))))))))))))))
      · simp only [List.length_map] at hp
        refine R_ (M_ r_ (M_ r_ (o_ r_ (bt_ [0, 0] rfl rfl (gname_c gv.hL gv.hLn (usableF A Sh hs0) g_ g_) (fun s1 hs1 => M_ r_ (o_ r_ (bt_ [0, 0] rfl rfl (gexpr_c gv.hL gv.hLn gv.hV0 gv.hV gv.hA gv.hSh 1 1 g_ g_ g_) (fun e1 he1 => o_ r_ (bq_ r_ r_ b_ r_ r_ b_ (M_ r_ (o_ r_ (bt_ [0, 0] rfl rfl (gexpr_c gv.hL gv.hLn gv.hV0 gv.hV gv.hA gv.hSh 2 2 g_ g_ g_) (fun e2 he2 => o_ r_ (bq_ r_ r_ b_ r_ r_ b_ ?_))))))))))))))
        exact o_ r_ (bu_ r_ r_ r_ r_ r_ (o_ r_ (bq_ r_ r_ b_ r_ r_ b_ (E_ r_ (T_ (ar_ (az_ (aw_ (jq_sle 4 rfl (SLe.cell (CLe.list (.cons (sm_le 2 s1 [e1] [e2] 0 0 [] [] (ex1_le e1) (ex1_le e2) .nil .nil) .nil))) (jq_ret1 rfl rfl [0, 0, 0] rfl (fin0 _ ⟨rfl, .inr ⟨s1, e1, e2, hs1, he1, he2, rfl⟩⟩)))))))))))
      · refine as_ (ay_ (jq_cut () [0, 0, 0] trivial rfl ?_))
        (repeat (first | exact True.intro | refine ⟨rfl, ?_⟩))
    · refine am_ (jc_cut (ι := Bool) [0, 1, 26] (fun b => b = decide (k = 3 ∨ k = 4 ∨ k = 5)) (fun b => [(45, Bl b)]) (fun _ => [Mk bm bd V lv0 A Sh hs0 lab0 st0 il, Dk bd L, .own lv0 9 1 (LS.map Wrow)]) ?_ ?_)
      · refine R_ (o_ r_ (bn_ r_ r_ (E_ r_ (T_ (jc_condd rfl (fun h3 => ?_) (fun h3 => ?_))))))
        · refine as_ (jq_cut (decide (k = 3)) [0, 0, 0] (by rw [decide_eq_decide]; omega) rfl ?_)
          (repeat (first | exact True.intro | refine ⟨rfl, ?_⟩))
        · refine R_ (o_ r_ (bn_ r_ r_ (E_ r_ (T_ (jc_condd rfl (fun h4 => ?_) (fun h4 => ?_))))))
          · refine as_ (jq_cut (decide (k = 4)) [0, 0, 0] (by rw [decide_eq_decide]; omega) rfl ?_)
            (repeat (first | exact True.intro | refine ⟨rfl, ?_⟩))
          · refine an_ (o_ r_ (bn_ r_ r_ (E_ r_ (ak_ (jq_cut (decide (k = 5)) [0, 0, 0] (by rw [decide_eq_decide]; omega) rfl ?_)))))
            (repeat (first | exact True.intro | refine ⟨rfl, ?_⟩))
      intro b hb
      refine jc_cond rfl (fun hbt => ?_) (fun hbt => ?_)
      · have hk3 : k = 3 ∨ k = 4 ∨ k = 5 := by rw [hb] at hbt; exact of_decide_eq_true hbt
        obtain ⟨hx0, hl12⟩ := hkd (by omega)
        obtain ⟨d', rfl⟩ : ∃ d', d = d' + 1 := ⟨d - 1, by omega⟩
        have hblk := hblk d' rfl
        clear hloop
        refine R_ (M_ r_ (N_ r_ (F_ r_ (L_ 0 r_ (o_ r_ (bj_ r_ r_ g_ (N_ r_ (F_ r_ (W_ 0 r_ (T_ (am_ (jc_anyB 9 (some 8) rfl k_ k_ (yM_ r_ (yN_ r_ (yF_ r_ (yL_ 0 r_ ?_))))))))))))))))
        refine yM_ r_ (aa_ (fun c => ow_callA [0, 0] r_ r_ (con_toEx (gcondition_c gv.hL gv.hLn gv.hV0 gv.hV gv.hA gv.hSh))) (aa_ (fun c => ow_exarg 61 rfl (fun i => bq_ rfl rfl b_ rfl rfl b_ ⟨rfl, .refl _⟩)) (aa_ (fun c => ow_exarg 62 rfl (fun i => bu_ rfl rfl rfl rfl rfl ⟨rfl, .refl _⟩)) (af_ (ae_ (afin_some rfl rfl rfl (fun bS => jl_slot 63 rfl (fun e1 => S_ 0 r_ (T_ (R_ (M_ r_ (M_ r_ (o_ r_ (cg_ r_ r_ g_ ?_))))))))))))))
        refine o_ r_ (ow_callNP [1, 1, 1] rfl rfl (hblk ⟨lv0, lab0 + 1, st0⟩ hs0 il LS (x - 1) 2 ⟨⟨by dsimp only; omega, by dsimp only; omega⟩, hst0, hst1⟩ hil hil2 hLS g_ g_ g_) (fun r n hn hr => ?_))
        obtain ⟨⟨lv1, lab1, st1⟩, v1, l1⟩ := r
        obtain ⟨hok1, hf1, hl1, hsh1⟩ := hr
        dsimp only at hok1 hl1 hsh1 hf1 ⊢
        refine jl_freezeF 67 0 rfl rfl (hf1.mono hn) (F_ r_ (W_ 3 r_ (T_ (am_ (jc_cut (ι := Ms × List Sm) [0, 1, 7] (fun r => r.1.ok ∧ r.2.length ≤ 4 ∧ (r.2 = [] ∧ r.1.lab = lab1 ∨ BlG (StG V A Sh d' il hs0) 2 lab1 r.1.lab r.2)) (fun _ => []) (fun r => [Mk bm bd V r.1.lv A Sh hs0 r.1.lab r.1.st il, Dk bd L, .own r.1.lv 9 1 (LS.map Wrow), .blk bS 51 (Sm.row' (.mk 3 ⟨#[]⟩ [] [e1.1] 0 (lab0 + 1) l1 r.2))]) ?_ ?_)))))
        · refine R_ (M_ r_ (N_ r_ (F_ r_ (L_ 1 r_ (o_ r_ (bt_ [2] rfl rfl (Nx_c _ gv.hL gv.hLn g_) (fun k4 hk4 => o_ r_ (bn_ r_ r_ (T_ (jc_condd rfl (fun h2 => ?_) (fun h2 => ?_)))))))))))
          · refine an_ (M_ r_ (M_ r_ (o_ r_ (cg_ r_ r_ g_ (o_ r_ (ow_callNP [2, 0, 1] rfl rfl (hblk ⟨lv1, lab1, st1⟩ hs0 il LS (x - 1) 2 hok1 hil hil2 hLS g_ g_ g_) (fun r n2 hn2 hr => ?_)))))))
            obtain ⟨⟨lv2, lab2, st2⟩, v2, l2⟩ := r
            obtain ⟨hok2, hf2, hl2, hsh2⟩ := hr
            dsimp only at hok2 hl2 hsh2 hf2 ⊢
            refine jl_freezeF 78 0 rfl rfl (hf2.mono hn2) (F_ r_ (W_ 3 r_ (ak_ ?_)))
            (first | refine jq_row 0 _ rfl (sm_le' 3 ⟨#[]⟩ [] [e1.1] 0 (lab0 + 1) l1 l2 .nil (ex1_le e1.1) (.refl _) (.refl _)) ?_ | refine jq_row 1 _ rfl (sm_le' 3 ⟨#[]⟩ [] [e1.1] 0 (lab0 + 1) l1 l2 .nil (ex1_le e1.1) (.refl _) (.refl _)) ?_ | refine jq_row 2 _ rfl (sm_le' 3 ⟨#[]⟩ [] [e1.1] 0 (lab0 + 1) l1 l2 .nil (ex1_le e1.1) (.refl _) (.refl _)) ?_ | refine jq_row 3 _ rfl (sm_le' 3 ⟨#[]⟩ [] [e1.1] 0 (lab0 + 1) l1 l2 .nil (ex1_le e1.1) (.refl _) (.refl _)) ?_)
            (first | refine jq_cut (⟨lv2, lab2, st2⟩, l2) [1, 1, 1, 0] ⟨hok2, by dsimp only; omega, .inr hsh2⟩ rfl ?_ | refine jq_cut (⟨lv2, lab2, st2⟩, l2) [1, 2, 1, 0] ⟨hok2, by dsimp only; omega, .inr hsh2⟩ rfl ?_ | refine jq_cut (⟨lv2, lab2, st2⟩, l2) [2, 1, 1, 0] ⟨hok2, by dsimp only; omega, .inr hsh2⟩ rfl ?_ | refine jq_cut (⟨lv2, lab2, st2⟩, l2) [2, 2, 1, 0] ⟨hok2, by dsimp only; omega, .inr hsh2⟩ rfl ?_ | refine jq_cut (⟨lv2, lab2, st2⟩, l2) [3, 1, 1, 0] ⟨hok2, by dsimp only; omega, .inr hsh2⟩ rfl ?_ | refine jq_cut (⟨lv2, lab2, st2⟩, l2) [3, 2, 1, 0] ⟨hok2, by dsimp only; omega, .inr hsh2⟩ rfl ?_)
            (repeat (first | exact True.intro | refine ⟨rfl, ?_⟩))
          · refine as_ ?_
            (first | refine jq_row 0 _ rfl (sm_le' 3 ⟨#[]⟩ [] [e1.1] 0 (lab0 + 1) l1 [] .nil (ex1_le e1.1) (.refl _) .nil) ?_ | refine jq_row 1 _ rfl (sm_le' 3 ⟨#[]⟩ [] [e1.1] 0 (lab0 + 1) l1 [] .nil (ex1_le e1.1) (.refl _) .nil) ?_ | refine jq_row 2 _ rfl (sm_le' 3 ⟨#[]⟩ [] [e1.1] 0 (lab0 + 1) l1 [] .nil (ex1_le e1.1) (.refl _) .nil) ?_ | refine jq_row 3 _ rfl (sm_le' 3 ⟨#[]⟩ [] [e1.1] 0 (lab0 + 1) l1 [] .nil (ex1_le e1.1) (.refl _) .nil) ?_)
            (first | refine jq_cut (⟨lv1, lab1, st1⟩, []) [1, 1, 1, 0] ⟨hok1, by simp, .inl ⟨rfl, rfl⟩⟩ rfl ?_ | refine jq_cut (⟨lv1, lab1, st1⟩, []) [1, 2, 1, 0] ⟨hok1, by simp, .inl ⟨rfl, rfl⟩⟩ rfl ?_ | refine jq_cut (⟨lv1, lab1, st1⟩, []) [2, 1, 1, 0] ⟨hok1, by simp, .inl ⟨rfl, rfl⟩⟩ rfl ?_ | refine jq_cut (⟨lv1, lab1, st1⟩, []) [2, 2, 1, 0] ⟨hok1, by simp, .inl ⟨rfl, rfl⟩⟩ rfl ?_ | refine jq_cut (⟨lv1, lab1, st1⟩, []) [3, 1, 1, 0] ⟨hok1, by simp, .inl ⟨rfl, rfl⟩⟩ rfl ?_ | refine jq_cut (⟨lv1, lab1, st1⟩, []) [3, 2, 1, 0] ⟨hok1, by simp, .inl ⟨rfl, rfl⟩⟩ rfl ?_)
            (repeat (first | exact True.intro | refine ⟨rfl, ?_⟩))
        · rintro ⟨⟨lv2, lab2, st2⟩, l2⟩ ⟨hok2, hl2, hsh2⟩
          dsimp only at hok2 hl2 hsh2 ⊢
          exact R_ (A_ 3 r_ (o_ r_ (bq_ r_ r_ b_ r_ r_ b_ (E_ r_ (T_ (ar_ (az_ (aw_ (jq_sle 4 rfl (SLe.cell (CLe.list (.cons (sm_le 3 ⟨#[]⟩ [] [e1.1] 0 (lab0 + 1) l1 l2 (.refl _) (.refl _) (.refl _) (.refl _)) .nil))) (jq_ret1 rfl rfl [0, 0, 0] rfl (fin1 _ ⟨lv2, lab2, st2⟩ hok2 (.inn (.inl ⟨hl12, e1.1, l1, l2, lab1, e1.2, hsh1, hsh2, rfl⟩)))))))))))))
      · refine am_ (jc_cut (ι := Bool) [0, 1, 26] (fun b => b = decide (k = 6 ∨ k = 7)) (fun b => [(82, Bl b)]) (fun _ => [Mk bm bd V lv0 A Sh hs0 lab0 st0 il, Dk bd L, .own lv0 9 1 (LS.map Wrow)]) ?_ ?_)
        · refine R_ (o_ r_ (bn_ r_ r_ (E_ r_ (T_ (jc_condd rfl (fun h6 => ?_) (fun h6 => ?_))))))
          · refine as_ (jq_cut (decide (k = 6)) [0, 0, 0] (by rw [decide_eq_decide]; omega) rfl ?_)
            (repeat (first | exact True.intro | refine ⟨rfl, ?_⟩))
          · refine an_ (o_ r_ (bn_ r_ r_ (E_ r_ (ak_ (jq_cut (decide (k = 7)) [0, 0, 0] (by rw [decide_eq_decide]; omega) rfl ?_)))))
            (repeat (first | exact True.intro | refine ⟨rfl, ?_⟩))
        intro b hb
        refine jc_cond rfl (fun hbt => ?_) (fun hbt => ?_)
        · have hk6 : k = 6 ∨ k = 7 := by rw [hb] at hbt; exact of_decide_eq_true hbt
          obtain ⟨hx0, hl12⟩ := hkd (by omega)
          obtain ⟨d', rfl⟩ : ∃ d', d = d' + 1 := ⟨d - 1, by omega⟩
          have hloop := hloop d' rfl
          clear hblk
          refine R_ (M_ r_ (N_ r_ (F_ r_ (L_ 0 r_ (o_ r_ (bw_ r_ r_ (T_ (jc_condd rfl (fun hil1 => ?_) (fun hil1 => ?_)))))))))
          · refine R_ (M_ r_ (M_ r_ (o_ r_ (bt_ [0, 0, 0] rfl rfl (hloop ⟨lv0, lab0, st0⟩ hs0 il LS x ⟨⟨hlab0, hlab1⟩, hst0, hst1⟩ (by dsimp only; omega) hil g_ hLS hx) (fun r hr => ?_)))))
            obtain ⟨m1, l1⟩ := r
            dsimp only at hr ⊢
            exact E_ r_ (T_ (ar_ (az_ (aw_ (jq_ret1 rfl rfl [0, 0, 0] rfl (fun K h => h (m1, l1) ⟨hr.1, hr.2.1, .inn (.inr (.inl hr.2.2))⟩))))))
          · refine as_ (ay_ (jq_cut () [0, 0, 0] trivial rfl ?_))
            (repeat (first | exact True.intro | refine ⟨rfl, ?_⟩))
        · refine R_ (o_ r_ (bn_ r_ r_ (E_ r_ (T_ (jc_condd rfl (fun h8 => ?_) (fun h8 => ?_))))))
          · obtain ⟨hx0, hl12⟩ := hkd (by omega)
            obtain ⟨d', rfl⟩ : ∃ d', d = d' + 1 := ⟨d - 1, by omega⟩
            have hblk := hblk d' rfl
            clear hloop
            refine am_ (jc_cut (ι := Bool) [0, 1] (fun b => b = true → hs0 = ⟨#[]⟩ ∧ 0 < Sh.length) (fun b => [(107, Bl b)]) (fun _ => [Mk bm bd V lv0 A Sh hs0 lab0 st0 il, Dk bd L, .own lv0 9 1 (LS.map Wrow)]) ?_ ?_)
            · by_cases hh : hs0 = ⟨#[]⟩
              · refine an_ (M_ r_ (N_ r_ (F_ r_ (L_ 0 r_ (o_ r_ (cs_ r_ r_ (M_ r_ (ah_ r_ u_ b_ (bd_ r_ (ah_ r_ u_ b_ (bh_ r_ (ah_ r_ u_ b_ (bf_ r_ r_ r_ b_ (ah_ r_ u_ b_ (bg_ 0 r_ r_ r_ r_ (ah_ r_ u_ b_ (br_ r_ (fun hlen => ah_ r_ u_ b_ (bz_ r_ r_ (o_ r_ (bp_ r_ u_ r_ (ak_ (jq_cut (decide (0 < ((Sh.map ShRow).length : Int))) [0, 0, 0] (by simp [hh]) rfl ?_)))))))))))))))))))))))
                (repeat (first | exact True.intro | refine ⟨rfl, ?_⟩))
              · refine an_ (M_ r_ (N_ r_ (F_ r_ (L_ 0 r_ (o_ r_ (cs_ r_ r_ (M_ r_ (ai_ r_ w_ b_ (ai_ r_ w_ b_ (ai_ r_ w_ b_ (ai_ r_ w_ b_ (ai_ r_ w_ b_ (ai_ r_ w_ b_ (o_ r_ (bv_ r_ w_ r_ (ak_ (jq_cut false [0, 0, 0] (by simp) rfl ?_)))))))))))))))))
                (repeat (first | exact True.intro | refine ⟨rfl, ?_⟩))
            intro b2 hb2
            refine jc_cond rfl (fun hbt => ?_) (fun hbt => ?_)
            · obtain ⟨rfl, hSh0⟩ := hb2 hbt
              have hShm := gv.hSh
              have eSh : (Sh.map ShRow).length = Sh.length := List.length_map _
              refine am_ (jc_anyB 18 none rfl k_ k_ (yM_ r_ (yM_ r_ (yN_ r_ (yF_ r_ (yL_ 0 r_ (yM_ r_ (yN_ r_ (yF_ r_ (yL_ 0 r_ (yM_ r_ (yN_ r_ (yF_ r_ (yL_ 0 r_ (aa_ (fun c => br_ r_ (fun hlen => p_)) ?_)))))))))))))))
              refine aa_ (fun c => ow_callA [1] r_ r_ (gNext_c L _ _ gv.hL gv.hLn g_)) (aa_ (fun c => ow_exarg 122 rfl (fun i => cv_ rfl rfl (by have := i.2; omega) (by have := i.2; omega) rfl rfl b_ ⟨rfl, .refl _⟩)) (aa_ (fun c => ow_exarg 123 rfl (fun i => cf_ rfl rfl rfl b_ rfl b_ ⟨rfl, .refl _⟩)) (aa_ (fun c => ow_exarg 124 rfl (fun i => cb_ rfl rfl ⟨rfl, .refl _⟩)) (ae_ (afin_none (jl_slot 125 rfl (fun i => N_ r_ (F_ r_ ?_))))))))
              refine W_ 0 r_ (T_ (R_ (M_ r_ (N_ r_ (F_ r_ (L_ 0 r_ (E_ r_ (T_ (R_ (M_ r_ (M_ r_ (M_ r_ (o_ r_ (cg_ r_ r_ g_ (o_ r_ (ow_callNP [0, 0, 0] rfl rfl (hblk ⟨lv0, lab0, st0⟩ Sh[i.1.toNat].2.2 il LS (x - 1) 2 ⟨⟨hlab0, hlab1⟩, hst0, hst1⟩ hil hil2 hLS g_ g_ g_) (fun r n hn hr => ?_)))))))))))))))))
              obtain ⟨⟨lv1, lab1, st1⟩, v1, l1⟩ := r
              obtain ⟨hok1, hf1, hl1, hsh1⟩ := hr
              dsimp only at hok1 hl1 hsh1 hf1 ⊢
              refine jl_freezeF 136 0 rfl rfl (hf1.mono hn) (o_ r_ (bu_ r_ r_ r_ r_ r_ (o_ r_ (bl_ r_ r_ (fun bl => S_ 0 r_ (T_ (R_ (M_ r_ (N_ r_ (F_ r_ (W_ 1 r_ (T_ (R_ (A_ 1 r_ (o_ r_ (bq_ r_ r_ b_ r_ r_ b_ (E_ r_ (T_ ?_))))))))))))))))))
              refine ar_ (az_ (aw_ (jq_sle 4 rfl (SLe.cell (CLe.list (.cons (sm_le 5 Sh[i.1.toNat].2.2 [] [] 0 0 l1 [] .nil .nil (.refl _) .nil) .nil))) ?_)))
              first | exact jq_ret1 rfl rfl [0, 1, 1] rfl (fin1 _ ⟨lv1, lab1, st1⟩ hok1 (.inn (.inr (.inr ⟨rfl, _, List.getElem_mem (h := by have := i.2; omega), l1, hsh1, rfl⟩)))) | exact jq_ret1 rfl rfl [0, 2, 1] rfl (fin1 _ ⟨lv1, lab1, st1⟩ hok1 (.inn (.inr (.inr ⟨rfl, _, List.getElem_mem (h := by have := i.2; omega), l1, hsh1, rfl⟩)))) | exact jq_ret1 rfl rfl [0, 0, 0] rfl (fin1 _ ⟨lv1, lab1, st1⟩ hok1 (.inn (.inr (.inr ⟨rfl, _, List.getElem_mem (h := by have := i.2; omega), l1, hsh1, rfl⟩)))) | exact jq_ret1 rfl rfl [0, 0, 1] rfl (fin1 _ ⟨lv1, lab1, st1⟩ hok1 (.inn (.inr (.inr ⟨rfl, _, List.getElem_mem (h := by have := i.2; omega), l1, hsh1, rfl⟩)))) | exact jq_ret1 rfl rfl [0, 1, 0] rfl (fin1 _ ⟨lv1, lab1, st1⟩ hok1 (.inn (.inr (.inr ⟨rfl, _, List.getElem_mem (h := by have := i.2; omega), l1, hsh1, rfl⟩)))) | exact jq_ret1 rfl rfl [1, 0, 0] rfl (fin1 _ ⟨lv1, lab1, st1⟩ hok1 (.inn (.inr (.inr ⟨rfl, _, List.getElem_mem (h := by have := i.2; omega), l1, hsh1, rfl⟩)))) | exact jq_ret1 rfl rfl [1, 1, 0] rfl (fin1 _ ⟨lv1, lab1, st1⟩ hok1 (.inn (.inr (.inr ⟨rfl, _, List.getElem_mem (h := by have := i.2; omega), l1, hsh1, rfl⟩))))
            · refine as_ (ay_ (jq_cut () [0, 0, 0] trivial rfl ?_))
              (repeat (first | exact True.intro | refine ⟨rfl, ?_⟩))
          · refine as_ (ay_ (jq_cut () [0, 0, 0] trivial rfl ?_))
            (repeat (first | exact True.intro | refine ⟨rfl, ?_⟩))
  · intro _ _
    refine R_ (M_ r_ (o_ r_ (bt_ [0, 0, 0] rfl rfl (gtarget_c gv.hL gv.hLn gv.hV0 gv.hV g_) (fun s1 hs1 => M_ r_ (o_ r_ (bt_ [0, 0] rfl rfl (gexpr_c gv.hL gv.hLn gv.hV0 gv.hV gv.hA gv.hSh 2 2 g_ g_ g_) (fun e1 he1 => o_ r_ (bq_ r_ r_ b_ r_ r_ b_ (o_ r_ (bu_ r_ r_ r_ r_ r_ (o_ r_ (bq_ r_ r_ b_ r_ r_ b_ (E_ r_ (T_ (ar_ ?_)))))))))))))))
    exact jq_sle 4 rfl (SLe.cell (CLe.list (.cons (sm_le 1 s1 [] [e1] 0 0 [] [] .nil (ex1_le e1) .nil .nil) .nil))) (jq_ret1 rfl rfl [0, 0, 0] rfl (fin0 _ ⟨rfl, .inl ⟨s1, e1, hs1, he1, rfl⟩⟩))
end
end Go.Proofs.YtlniadfidfmckaaGreatDoor
end

section
namespace Go.Proofs.YtlniadfidfmckaaGreatDoor
open Go.Vc
set_option maxHeartbeats 4000000
attribute [local irreducible] JL JC JQ OpWp Con ConN

def lim (n : Int) : Int := min n 1099511627776
def wP : Nat → T → Int
  | 0, _ => 1099511627776
  | f + 1, e => e.args.foldl (fun n x => lim (n + wP f x)) 1
def wParts (e : T) (f : Nat) : Int := wP f e
def wPartsL (l : List T) (f : Nat) (n : Int) : Int := l.foldl (fun n e => lim (n + wParts e f)) n
theorem wParts_zero (e : T) : wParts e 0 = 1099511627776 := rfl
theorem wParts_succ (e : T) (f : Nat) : wParts e (f + 1) = wPartsL e.args f 1 := rfl
theorem lim_bd (n : Int) (h : 0 ≤ n) : 0 ≤ lim n ∧ lim n ≤ 1099511627776 := by unfold lim; omega
theorem wPartsL_bd (f : Nat) (hf : ∀ e, 0 ≤ wParts e f ∧ wParts e f ≤ 1099511627776) : ∀ (l : List T) (n : Int), 0 ≤ n ∧ n ≤ 1099511627776 → 0 ≤ wPartsL l f n ∧ wPartsL l f n ≤ 1099511627776
  | [], n, h => by simpa [wPartsL] using h
  | e :: r, n, h => wPartsL_bd f hf r _ (lim_bd _ (by have := hf e; omega))
theorem wParts_bd : ∀ (f : Nat) (e : T), 0 ≤ wParts e f ∧ wParts e f ≤ 1099511627776
  | 0, e => by rw [wParts_zero]; omega
  | f + 1, e => by rw [wParts_succ]; exact wPartsL_bd f (wParts_bd f) _ _ (by omega)
theorem wPartsL_snoc (f : Nat) (e : T) (l : List T) (n : Int) : wPartsL (l ++ [e]) f n = lim (wPartsL l f n + wParts e f) := by simp [wPartsL]
theorem wPartsL_take (f : Nat) (l : List T) (n : Int) (k : Nat) (h : k < l.length) : wPartsL (l.take (k + 1)) f n = lim (wPartsL (l.take k) f n + wParts l[k] f) := by
  rw [List.take_succ_eq_append_getElem h, wPartsL_snoc]
mutual
/-- The weight of a statement; of the depths, 'fuel' are left. -/
def wOne : Nat → Sm → Int
  | 0, _ => 1099511627776
  | f + 1, s =>
    if s.kind = 1 ∨ s.kind = 2 then lim (1 + wPartsL s.index 20 0 + wPartsL s.value 20 0)
    else if s.kind = 3 then lim (2 + wPartsL s.value 20 0 + wAll f s.thn 0 + wAll f s.els 0)
    else if s.kind = 4 then lim (2 + (Max.max 0 (min s.max 33) + 1) * lim (2 + wPartsL s.value 20 0 + wAll f s.thn 0))
    else if s.kind = 5 then lim (2 + wAll f s.thn 0)
    else 0
def wAll : Nat → List Sm → Int → Int
  | _, [], n => n
  | f, s :: r, n => wAll f r (lim (n + wOne f s))
end
theorem prod_bd (a b : Int) (h1 : 0 ≤ a) (h2 : a ≤ 34) (h3 : 0 ≤ b) (h4 : b ≤ 1099511627776) : 0 ≤ a * b ∧ a * b ≤ 37383395344384 := by
  refine ⟨Int.mul_nonneg h1 h3, ?_⟩
  have := Int.mul_le_mul h2 h4 h3 (by omega)
  omega

mutual
theorem wOne_bd : ∀ (f : Nat) (s : Sm), 0 ≤ wOne f s ∧ wOne f s ≤ 1099511627776
  | 0, s => by rw [wOne]; omega
  | f + 1, s => by
    have b1 := wPartsL_bd 20 (wParts_bd 20) s.index 0 (by omega)
    have b2 := wPartsL_bd 20 (wParts_bd 20) s.value 0 (by omega)
    have b3 := wAll_bd f s.thn 0 (by omega)
    have b4 := wAll_bd f s.els 0 (by omega)
    rw [wOne]
    split
    · exact lim_bd _ g_
    split
    · exact lim_bd _ g_
    split
    · have b5 := lim_bd (2 + wPartsL s.value 20 0 + wAll f s.thn 0) (by omega)
      have b7 := prod_bd (Max.max 0 (min s.max 33) + 1) _ (by omega) (by omega) b5.1 b5.2
      exact lim_bd _ g_
    split
    · exact lim_bd _ g_
    · omega
theorem wAll_bd : ∀ (f : Nat) (l : List Sm) (n : Int), 0 ≤ n ∧ n ≤ 1099511627776 → 0 ≤ wAll f l n ∧ wAll f l n ≤ 1099511627776
  | f, [], n, h => by simpa [wAll] using h
  | f, s :: r, n, h => by
    rw [wAll]
    exact wAll_bd f r _ (lim_bd _ (by have := wOne_bd f s; omega))
end

theorem wAll_snoc (f : Nat) (e : Sm) : ∀ (l : List Sm) (n : Int), wAll f (l ++ [e]) n = lim (wAll f l n + wOne f e)
  | [], n => by simp [wAll]
  | a :: l, n => by simp only [List.cons_append, wAll]; exact wAll_snoc f e l _
theorem wAll_take (f : Nat) (l : List Sm) (n : Int) (k : Nat) (h : k < l.length) : wAll f (l.take (k + 1)) n = lim (wAll f (l.take k) n + wOne f l[k]) := by
  rw [List.take_succ_eq_append_getElem h, wAll_snoc]


theorem wexpr_c : ∀ (fuel : Nat) (e : T) (depth : Int), 0 ≤ depth → depth + fuel = 21 → Con Tryz.prog 140 [.row e.row', In .i64 depth] [] (fun K => K (In .i64 (wParts e fuel)) []) := by
  intro fuel
  induction fuel with
  | zero =>
    intro e depth h0 h1
    refine con_intro Tryz.func140 rfl rfl (Nat.le_of_ble_eq_true rfl) (fun c hc => R_ (o_ r_ (ci_ r_ (fun bx => E_ r_ (T_ (am_ (R_ (M_ r_ (o_ r_ (bz_ r_ r_ (T_ (jc_condd rfl (fun h => R_ (E_ r_ (T_ (ar_ (aw_ ?_))))) (fun h => absurd (show 20 < depth by omega) h)))))))))))))
    refine jq_ret1 rfl rfl [] rfl (fun K h => by rw [wParts_zero] at h; exact h)
  | succ f ih =>
    intro e depth h0 h1
    refine con_intro Tryz.func140 rfl rfl (Nat.le_of_ble_eq_true rfl) (fun c hc => R_ (o_ r_ (ci_ r_ (fun bx => E_ r_ (T_ (am_ (R_ (M_ r_ (o_ r_ (bz_ r_ r_ (T_ (jc_condd rfl (fun h => by omega) (fun h => as_ (al_ (R_ (E_ r_ (T_ ?_)))))))))))))))))
    refine am_ (R_ (E_ r_ (T_ (au_ (jc_loop [1, 2] (fun k => k ≤ e.args.length) (fun k => [(5, In .i64 (wPartsL (e.args.take k) f 1)), (6, In .i64 (k : Int))]) (fun _ => [.blk bx 53 e.row']) (fun k => e.args.length - k) 0 [0] (Nat.zero_le _) rfl ?_ ?_)))))
    · (repeat (first | exact True.intro | refine ⟨rfl, ?_⟩))
    · intro k hk
      refine am_ (R_ (M_ r_ (F_ r_ (L_ 0 r_ (o_ r_ (br_ r_ (fun hlen => o_ r_ (bw_ r_ r_ (T_ ?_)))))))))
      have hmax : e.args.length ≤ 9223372036854775807 := by simpa using hlen
      refine jc_condd rfl (fun hlt => ?_) (fun hge => ?_)
      · simp only [List.length_map, Int.ofNat_lt] at hlt
        have b1 := wParts_bd f e.args[k]
        have b2 := wPartsL_bd f (wParts_bd f) (e.args.take k) 1 (by omega)
        refine as_ (al_ (B_ (an_ (M_ r_ (F_ r_ (L_ 0 r_ (M_ r_ (o_ r_ (cc_ r_ r_ g_ (T.row_eq _) r_ b_ (o_ r_ (cr_ r_ r_ r_ (M_ r_ (o_ r_ (bj_ r_ r_ g_ (o_ r_ (bm_ r_ (ih _ _ g_ g_) (o_ r_ (bj_ r_ r_ g_ (o_ r_ (cl_ r_ r_ (E_ r_ ?_)))))))))))))))))))))
        refine ak_ (ay_ (al_ (an_ (M_ r_ (o_ r_ (bj_ r_ r_ g_ (E_ r_ (ak_ (jq_again (k + 1) [0] hlt g_ rfl ?_)))))))))
        · rw [wPartsL_take f e.args 1 k hlt]
          unfold lim
          rw [Int.min_comm]
          (repeat (first | exact True.intro | refine ⟨rfl, ?_⟩))
      · simp only [List.length_map, Int.ofNat_lt] at hge
        refine av_ (ax_ (ax_ (ba_ (al_ (R_ (M_ r_ (E_ r_ (T_ (ar_ (jq_ret1 rfl rfl [] rfl (fun K h => by rw [wParts_succ, ← List.take_of_length_le (Nat.le_of_not_lt hge)] at h; exact h)))))))))))

theorem rexprs_c (l : List T) : Con Tryz.prog 126 [.cell (.list (l.map T.row))] [] (fun K => K (In .i64 (wPartsL l 20 0)) []) := by
  refine con_intro Tryz.func126 rfl rfl (Nat.le_of_ble_eq_true rfl) (fun c hc => R_ (E_ r_ (T_ (R_ (E_ r_ (T_ (am_ (R_ (E_ r_ (T_ (au_ (jc_loop [0] (fun k => k ≤ l.length) (fun k => [(3, In .i64 (wPartsL (l.take k) 20 0)), (4, In .i64 (k : Int))]) (fun _ => []) (fun k => l.length - k) 0 [] (Nat.zero_le _) rfl ?_ ?_))))))))))))
  · (repeat (first | exact True.intro | refine ⟨rfl, ?_⟩))
  · intro k hk
    refine am_ (R_ (M_ r_ (M_ r_ (o_ r_ (br_ r_ (fun hlen => o_ r_ (bw_ r_ r_ (T_ ?_))))))))
    have hmax : l.length ≤ 9223372036854775807 := by simpa using hlen
    refine jc_condd rfl (fun hlt => ?_) (fun hge => ?_)
    · simp only [List.length_map, Int.ofNat_lt] at hlt
      have b1 := wParts_bd 20 l[k]
      have b2 := wPartsL_bd 20 (wParts_bd 20) (l.take k) 0 (by omega)
      refine as_ (al_ (B_ (an_ (M_ r_ (M_ r_ (M_ r_ (o_ r_ (cc_ r_ r_ g_ (T.row_eq _) r_ b_ (o_ r_ (cr_ r_ r_ r_ (o_ r_ (bm_ r_ (wexpr_c 20 _ _ g_ g_) (o_ r_ (bj_ r_ r_ g_ (o_ r_ (cl_ r_ r_ (E_ r_ (ak_ (ay_ (al_ ?_))))))))))))))))))))
      refine an_ (M_ r_ (o_ r_ (bj_ r_ r_ g_ (E_ r_ (ak_ (jq_again (k + 1) [] hlt g_ rfl ?_))))))
      · rw [wPartsL_take 20 l 0 k hlt]
        unfold lim
        rw [Int.min_comm]
        (repeat (first | exact True.intro | refine ⟨rfl, ?_⟩))
    · simp only [List.length_map, Int.ofNat_lt] at hge
      refine av_ (ax_ (ax_ (ba_ (al_ (R_ (M_ r_ (E_ r_ (T_ (ar_ (jq_ret1 rfl rfl [] rfl (fun K h => by rw [← List.take_of_length_le (Nat.le_of_not_lt hge)] at h; exact h)))))))))))

theorem lim_lim (a b : Int) (h : 0 ≤ a) : lim (a + lim b) = lim (a + b) := by unfold lim; omega
theorem wAll_full (l : List Sm) : ∀ n, n = 1099511627776 → wAll 0 l n = 1099511627776 := by
  induction l with
  | nil => intro n h; simpa [wAll] using h
  | cons s l ih => intro n h; rw [wAll]; exact ih _ (by subst h; rw [wOne]; rfl)

theorem rweight_zero (l : List Sm) (depth : Int) (h1 : depth = 21) : Con Tryz.prog 102 [.cell (.list (l.map Sm.row)), In .i64 depth] [] (fun K => K (In .i64 (wAll 0 l 0)) []) := by
  refine con_intro Tryz.func102 rfl rfl (Nat.le_of_ble_eq_true rfl) (fun c hc => R_ (E_ r_ (T_ (R_ (E_ r_ (T_ (am_ (R_ (E_ r_ (T_ (au_ (jc_loop [0, 1] (fun k : Nat => k = 0) (fun k => [(5, In .i64 0), (6, In .i64 (k : Int))]) (fun _ => []) (fun k => l.length - k) 0 [] rfl rfl ?_ ?_))))))))))))
  · (repeat (first | exact True.intro | refine ⟨rfl, ?_⟩))
  · rintro k hk
    refine am_ (R_ (M_ r_ (M_ r_ (o_ r_ (br_ r_ (fun hlen => o_ r_ (bw_ r_ r_ (T_ (jc_condd rfl (fun hlt => ?_) (fun hge => ?_))))))))))
    · refine as_ (al_ (B_ (am_ (R_ (M_ r_ (o_ r_ (bz_ r_ r_ (T_ (jc_condd rfl (fun _ => R_ (E_ r_ (T_ (ar_ (aw_ (az_ (aw_ ?_))))))) (fun h => by omega))))))))))
      refine aw_ (az_ (aw_ (jq_ret1 rfl rfl [] rfl (fun K h => ?_))))
      cases l with
      | nil => simp at hlt; omega
      | cons s l => rw [wAll, wAll_full l _ (by simp [wOne, lim])] at h; exact h
    · refine av_ (ax_ (ax_ (ba_ (al_ (R_ (M_ r_ (E_ r_ (T_ (ar_ ?_)))))))))
      have : l = [] := by cases l with
        | nil => rfl
        | cons s l => simp at hge; omega
      subst this
      refine jq_ret1 rfl rfl [] rfl (fun K h => by simpa [wAll] using h)

theorem rweight_succ (f : Nat) (ih : ∀ (l : List Sm) (depth : Int), 0 ≤ depth → depth + f = 21 → Con Tryz.prog 102 [.cell (.list (l.map Sm.row)), In .i64 depth] [] (fun K => K (In .i64 (wAll f l 0)) []))
    (l : List Sm) (depth : Int) (h0 : 0 ≤ depth) (h1 : depth + (f + 1 : Nat) = 21) : Con Tryz.prog 102 [.cell (.list (l.map Sm.row)), In .i64 depth] [] (fun K => K (In .i64 (wAll (f + 1) l 0)) []) := by
  refine con_intro Tryz.func102 rfl rfl (Nat.le_of_ble_eq_true rfl) (fun c hc => R_ (E_ r_ (T_ (R_ (E_ r_ (T_ (am_ (R_ (E_ r_ (T_ (au_ (jc_loop [0, 1] (fun k => k ≤ l.length) (fun k => [(5, In .i64 (wAll (f + 1) (l.take k) 0)), (6, In .i64 (k : Int))]) (fun _ => []) (fun k => l.length - k) 0 [] (Nat.zero_le _) rfl ?_ ?_))))))))))))
  · rw [List.take_zero, wAll]
    (repeat (first | exact True.intro | refine ⟨rfl, ?_⟩))
  · intro k hk
    refine am_ (R_ (M_ r_ (M_ r_ (o_ r_ (br_ r_ (fun hlen => o_ r_ (bw_ r_ r_ (T_ ?_))))))))
    have hmax : l.length ≤ 9223372036854775807 := by simpa using hlen
    refine jc_condd rfl (fun hlt => ?_) (fun hge => ?_)
    · simp only [List.length_map, Int.ofNat_lt] at hlt
      have b1 := wPartsL_bd 20 (wParts_bd 20) l[k].index 0 (by omega)
      have b2 := wPartsL_bd 20 (wParts_bd 20) l[k].value 0 (by omega)
      have b3 := wAll_bd f l[k].thn 0 (by omega)
      have b4 := wAll_bd f l[k].els 0 (by omega)
      have b8 := wAll_bd (f + 1) (l.take k) 0 (by omega)
      refine as_ (al_ (B_ (am_ (R_ (M_ r_ (o_ r_ (bz_ r_ r_ (T_ (jc_condd rfl (fun h => by omega) (fun h => as_ (al_ (R_ (M_ r_ (M_ r_ (o_ r_ (cc_ r_ r_ g_ (Sm.row_eq _) r_ b_ (o_ r_ (cr_ r_ r_ r_ ?_))))))))))))))))))
      refine o_ r_ (bl_ r_ r_ (fun bl => S_ 0 r_ (T_ (R_ (E_ r_ (T_ (am_ (R_ (F_ r_ (L_ 0 r_ (T_ (jc_cut (ι := Int) [0, 1, 5, 6] (fun n => 0 ≤ n ∧ n ≤ 1099511627776000000 ∧ lim n = wOne (f + 1) l[k]) (fun n => [(8, In .i64 n)]) (fun _ => []) ?_ ?_))))))))))))
      · refine au_ (am_ (R_ (o_ r_ (bn_ r_ r_ (E_ r_ (T_ (jc_condd rfl (fun hk1 => ?_) (fun hk1 => ?_))))))))
        · refine as_ (al_ (jc_condd rfl (fun _ => ao_ r_ r_ k_ k_ (yF_ r_ (yL_ 0 r_ (aa_ (fun c => bm_ r_ (rexprs_c _) p_) (aa_ (fun c => bj_ r_ r_ g_ p_) (yF_ r_ (yL_ 0 r_ (aa_ (fun c => bm_ r_ (rexprs_c _) p_) (aa_ (fun c => bj_ r_ r_ g_ p_) (yE_ r_ (ae_ (ay_ (jq_cut (1 + wPartsL l[k].index 20 0 + wPartsL l[k].value 20 0) [] ⟨by omega, by omega, by rw [wOne, if_pos (.inl hk1)]⟩ rfl ?_))))))))))))) (fun h => absurd hk1 h)))
          (repeat (first | exact True.intro | refine ⟨rfl, ?_⟩))
        · refine an_ (o_ r_ (bn_ r_ r_ (E_ r_ (T_ (jc_condd rfl (fun hk2 => ?_) (fun hk2 => ?_))))))
          · refine ao_ r_ r_ k_ k_ (yF_ r_ (yL_ 0 r_ (aa_ (fun c => bm_ r_ (rexprs_c _) p_) (aa_ (fun c => bj_ r_ r_ g_ p_) (yF_ r_ (yL_ 0 r_ (aa_ (fun c => bm_ r_ (rexprs_c _) p_) (aa_ (fun c => bj_ r_ r_ g_ p_) (yE_ r_ (ae_ (ay_ (jq_cut (1 + wPartsL l[k].index 20 0 + wPartsL l[k].value 20 0) [] ⟨by omega, by omega, by rw [wOne, if_pos (.inr hk2)]⟩ rfl ?_))))))))))))
            (repeat (first | exact True.intro | refine ⟨rfl, ?_⟩))
          · have h12 : ¬ (l[k].kind = 1 ∨ l[k].kind = 2) := by omega
            refine R_ (o_ r_ (bn_ r_ r_ (E_ r_ (T_ (jc_condd rfl (fun hk3 => ?_) (fun hk3 => ?_))))))
            · refine ao_ r_ r_ k_ k_ (yF_ r_ (yL_ 0 r_ (aa_ (fun c => bm_ r_ (rexprs_c _) p_) (aa_ (fun c => bj_ r_ r_ g_ p_) (yF_ r_ (yL_ 0 r_ (yM_ r_ (aa_ (fun c => bj_ r_ r_ g_ p_) (aa_ (fun c => bm_ r_ (ih _ _ g_ g_) p_) (aa_ (fun c => bj_ r_ r_ g_ p_) (yF_ r_ (yL_ 0 r_ (yM_ r_ (aa_ (fun c => bj_ r_ r_ g_ p_) (aa_ (fun c => bm_ r_ (ih _ _ g_ g_) p_) ?_)))))))))))))))
              refine aa_ (fun c => bj_ r_ r_ g_ p_) (yE_ r_ (ae_ (ay_ (jq_cut (2 + wPartsL l[k].value 20 0 + wAll f l[k].thn 0 + wAll f l[k].els 0) [] ⟨by omega, by omega, by rw [wOne, if_neg h12, if_pos hk3]⟩ rfl ?_))))
              (repeat (first | exact True.intro | refine ⟨rfl, ?_⟩))
            · refine R_ (o_ r_ (bn_ r_ r_ (E_ r_ (T_ (jc_condd rfl (fun hk4 => ?_) (fun hk4 => ?_))))))
              · have b5 := lim_bd (2 + wPartsL l[k].value 20 0 + wAll f l[k].thn 0) (by omega)
                unfold lim at b5
                rw [Int.min_comm] at b5
                have b6 : 0 ≤ Max.max 0 (min l[k].max 33) + 1 ∧ Max.max 0 (min l[k].max 33) + 1 ≤ 34 := by omega
                have b7 := prod_bd _ _ b6.1 b6.2 b5.1 b5.2
                refine R_ (F_ r_ (L_ 0 r_ (o_ r_ (cl_ r_ r_ (o_ r_ (ck_ r_ r_ (E_ r_ (T_ (ao_ r_ r_ k_ k_ (yM_ r_ (aa_ (fun c => bj_ r_ r_ g_ p_) (yF_ r_ (yL_ 0 r_ (aa_ (fun c => bm_ r_ (rexprs_c _) p_) (aa_ (fun c => bj_ r_ r_ g_ p_) (yF_ r_ (yL_ 0 r_ ?_)))))))))))))))))
                refine yM_ r_ (aa_ (fun c => bj_ r_ r_ g_ p_) (aa_ (fun c => bm_ r_ (ih _ _ g_ g_) p_) (aa_ (fun c => bj_ r_ r_ g_ p_) (aa_ (fun c => cl_ r_ r_ p_) (aa_ (fun c => cz_ r_ r_ g_ p_) (aa_ (fun c => bj_ r_ r_ g_ p_) (yE_ r_ (ae_ (ay_ ?_)))))))))
                refine jq_cut (2 + (Max.max 0 (min l[k].max 33) + 1) * min 1099511627776 (2 + wPartsL l[k].value 20 0 + wAll f l[k].thn 0)) [] ⟨by omega, by omega, by rw [wOne, if_neg h12, if_neg hk3, if_pos hk4, Int.min_comm 1099511627776]; rfl⟩ rfl ?_
                (repeat (first | exact True.intro | refine ⟨rfl, ?_⟩))
              · refine R_ (o_ r_ (bn_ r_ r_ (E_ r_ (T_ (jc_condd rfl (fun hk5 => ?_) (fun hk5 => ?_))))))
                · refine an_ (F_ r_ (L_ 0 r_ (M_ r_ (o_ r_ (bj_ r_ r_ g_ (o_ r_ (bm_ r_ (ih _ _ g_ g_) (o_ r_ (bj_ r_ r_ g_ (E_ r_ (ak_ (ay_ (jq_cut (2 + wAll f l[k].thn 0) [] ⟨by omega, by omega, by rw [wOne, if_neg h12, if_neg hk3, if_neg hk4, if_pos hk5]⟩ rfl ?_)))))))))))))
                  (repeat (first | exact True.intro | refine ⟨rfl, ?_⟩))
                · refine as_ (ay_ (jq_cut 0 [] ⟨by omega, by omega, by rw [wOne, if_neg h12, if_neg hk3, if_neg hk4, if_neg hk5]; rfl⟩ rfl ?_))
                  (repeat (first | exact True.intro | refine ⟨rfl, ?_⟩))
      · rintro n ⟨hn0, hn1, hn⟩
        refine an_ (M_ r_ (M_ r_ (o_ r_ (bj_ r_ r_ g_ (o_ r_ (cl_ r_ r_ (E_ r_ (ak_ (ay_ (al_ (an_ (M_ r_ (o_ r_ (bj_ r_ r_ g_ (E_ r_ (ak_ (jq_again (k + 1) [] hlt g_ rfl ?_)))))))))))))))))
        · rw [wAll_take (f + 1) l 0 k hlt, ← hn, lim_lim _ _ b8.1]
          unfold lim
          rw [Int.min_comm]
          (repeat (first | exact True.intro | refine ⟨rfl, ?_⟩))
    · simp only [List.length_map, Int.ofNat_lt] at hge
      refine av_ (ax_ (ax_ (ba_ (al_ (R_ (M_ r_ (E_ r_ (T_ (ar_ (jq_ret1 rfl rfl [] rfl (fun K h => by rw [← List.take_of_length_le (Nat.le_of_not_lt hge)] at h; exact h)))))))))))

theorem rweight_c : ∀ (f : Nat) (l : List Sm) (depth : Int), 0 ≤ depth → depth + f = 21 → Con Tryz.prog 102 [.cell (.list (l.map Sm.row)), In .i64 depth] [] (fun K => K (In .i64 (wAll f l 0)) [])
  | 0, l, depth, _, h1 => rweight_zero l depth (by omega)
  | f + 1, l, depth, h0, h1 => rweight_succ f (rweight_c f) l depth h0 h1
theorem rWeight_c (l : List Sm) : Con Tryz.prog 72 [.cell (.list (l.map Sm.row))] [] (fun K => K (In .i64 (wAll 20 l 0)) []) := by
  refine con_intro Tryz.func72 rfl rfl (Nat.le_of_ble_eq_true rfl) (fun c hc => R_ (E_ r_ (T_ (R_ (M_ r_ (o_ r_ (bm_ r_ (rweight_c 20 _ _ g_ g_) (E_ r_ (T_ (ar_ (jq_ret1 rfl rfl [] rfl (fun K h => h))))))))))))

end Go.Proofs.YtlniadfidfmckaaGreatDoor
end

section
namespace Go.Proofs.YtlniadfidfmckaaGreatDoor
open Go.Vc
set_option maxHeartbeats 4000000
attribute [local irreducible] JL JC JQ OpWp Con ConN

theorem flat_take {f : Sm → List Int} {l : List Sm} {k : Nat} (h : k < l.length) : (l.take (k + 1)).flatMap f = (l.take k).flatMap f ++ f l[k] := by
  rw [List.take_succ_eq_append_getElem h, List.flatMap_append]; simp
theorem flat_le {f : Sm → List Int} {l : List Sm} {k : Nat} (h : k < l.length) : ((l.take k).flatMap f).length + (f l[k]).length ≤ (l.flatMap f).length := by
  have h1 : l = l.take k ++ l[k] :: l.drop (k + 1) := by rw [List.getElem_cons_drop, List.take_append_drop]
  have h2 : (l.flatMap f).length = ((l.take k ++ l[k] :: l.drop (k + 1)).flatMap f).length := by rw [← h1]
  rw [h2]
  simp only [List.flatMap_append, List.flatMap_cons, List.length_append]
  omega

def rlSelf (s : Sm) : List Int := if s.kind = 3 then [s.label] else []
def rlOne : Nat → Sm → List Int
  | 0, _ => []
  | f + 1, s => rlSelf s ++ s.thn.flatMap (rlOne f) ++ s.els.flatMap (rlOne f)
theorem rl_zero (l : List Sm) : l.flatMap (rlOne 0) = [] := by
  induction l with
  | nil => rfl
  | cons s l ih => simp [rlOne]

theorem rlabels_c : ∀ (f : Nat) (l : List Sm) (depth : Int), 0 ≤ depth → depth + f = 21 → (l.flatMap (rlOne f)).length ≤ 1000000 →
    Con Tryz.prog 101 [.cell (.list (l.map Sm.row)), In .i64 depth, In .i64 3] [] (fun K => K (.cell (.list ((l.flatMap (rlOne f)).map Irow))) []) := by
  intro f
  induction f with
  | zero =>
    intro l depth h0 h1 hlim
    refine con_intro Tryz.func101 rfl rfl (Nat.le_of_ble_eq_true rfl) (fun c hc => R_ (E_ r_ (T_ (R_ (E_ r_ (T_ (am_ (R_ (E_ r_ (T_ (au_ (jc_loop [0, 1, 2, 6, 7] (fun _ : Nat => True) (fun _ => [(8, In .i64 0)]) (fun _ => []) (fun _ => 0) 0 [] trivial rfl ?_ ?_))))))))))))
    · (repeat (first | exact True.intro | refine ⟨rfl, ?_⟩))
    · intro k _
      refine am_ (am_ (jc_cut (ι := Unit) [6, 7] (fun _ => True) (fun _ => [(17, Bl false)]) (fun _ => []) ?_ ?_))
      · by_cases hl : (0 : Int) < ((l.map Sm.row).length : Int)
        · refine an_ (M_ r_ (M_ r_ (o_ r_ (br_ r_ (fun hlen => o_ r_ (bw_ r_ r_ (M_ r_ (ah_ r_ u_ b_ (bd_ r_ (ah_ r_ u_ b_ (cu_ r_ r_ (o_ r_ (bp_ r_ u_ r_ (ak_ (jq_cut () [] trivial rfl ?_)))))))))))))))
          rw [show decide (depth ≤ 20) = false from decide_eq_false (by omega)]
          (repeat (first | exact True.intro | refine ⟨rfl, ?_⟩))
        · refine an_ (M_ r_ (M_ r_ (o_ r_ (br_ r_ (fun hlen => o_ r_ (bw_ r_ r_ (M_ r_ (ai_ r_ w_ b_ (ai_ r_ w_ b_ (o_ r_ (bv_ r_ w_ r_ (ak_ (jq_cut () [] trivial rfl ?_)))))))))))))
          (repeat (first | exact True.intro | refine ⟨rfl, ?_⟩))
      · intro _ _
        skip
        refine jc_cond rfl (fun h => by cases h) (fun _ => av_ (ax_ (ax_ (ba_ (al_ (R_ (M_ r_ (E_ r_ (T_ (ar_ ?_))))))))))
        rw [rl_zero]
        refine jq_sle 6 rfl (SLe.cell CLe.nil) (jq_ret1 rfl rfl [] rfl (fun K h => h))
  | succ f ih =>
    intro l depth h0 h1 hlim
    refine con_intro Tryz.func101 rfl rfl (Nat.le_of_ble_eq_true rfl) (fun c hc => R_ (E_ r_ (T_ (R_ (E_ r_ (T_ (am_ (R_ (E_ r_ (T_ (au_ (jc_ownNil 3 1 g_ ?_))))))))))))
    refine jc_loop (ι := Nat × Value) [0, 1, 2] (fun i => i.1 ≤ l.length) (fun i => [(7, .cell (.val i.2)), (8, In .i64 (i.1 : Int))]) (fun i => [.own i.2 3 1 (((l.take i.1).flatMap (rlOne (f + 1))).map Irow)]) (fun i => l.length - i.1) (0, .slice none 0 0) [0] (Nat.zero_le _) rfl ?_ ?_
    · (repeat (first | exact True.intro | refine ⟨rfl, ?_⟩))
    · rintro ⟨k, v⟩ hk
      dsimp only at hk ⊢
      by_cases hlt : (k : Int) < ((l.map Sm.row).length : Int)
      · refine am_ (R_ (M_ r_ (M_ r_ (o_ r_ (br_ r_ (fun hlen => o_ r_ (bw_ r_ r_ (M_ r_ (ah_ r_ u_ b_ (bd_ r_ (ah_ r_ u_ b_ (cu_ r_ r_ (o_ r_ (bp_ r_ u_ r_ (T_ (jc_condd rfl (fun _ => ?_) (fun h => absurd (show depth ≤ 20 by omega) h)))))))))))))))))
        have hmax : l.length ≤ 9223372036854775807 := by simpa using hlen
        simp only [List.length_map, Int.ofNat_lt] at hlt
        have hle := flat_le (f := rlOne (f + 1)) hlt
        have e2 : rlOne (f + 1) l[k] = rlSelf l[k] ++ l[k].thn.flatMap (rlOne f) ++ l[k].els.flatMap (rlOne f) := rfl
        have hl2 := congrArg List.length e2
        simp only [List.length_append] at hl2
        refine as_ (al_ (B_ (R_ (M_ r_ (M_ r_ (o_ r_ (cc_ r_ r_ g_ (Sm.row_eq _) r_ b_ (o_ r_ (cr_ r_ r_ r_ (o_ r_ (bl_ r_ r_ (fun bl => S_ 0 r_ (T_ (am_ (am_ (jc_cut (ι := Unit) [0, 1, 2, 7, 8, 9] (fun _ => True) (fun _ => [(41, Bl (decide (l[k].kind = 3)))]) (fun _ => [.own v 3 1 (((l.take k).flatMap (rlOne (f + 1))).map Irow), .blk bl 51 l[k].row']) ?_ ?_))))))))))))))))
        · by_cases h3 : l[k].kind = 3
          · refine an_ (F_ r_ (L_ 0 r_ (o_ r_ (bn_ r_ r_ (M_ r_ (ai_ r_ u_ b_ (ai_ r_ u_ b_ (ai_ r_ u_ b_ (o_ r_ (bp_ r_ u_ r_ (M_ r_ (ah_ r_ r_ b_ (bd_ r_ (ah_ r_ r_ b_ (bn_ r_ r_ (ah_ r_ r_ b_ (bd_ r_ (ah_ r_ r_ b_ (bf_ r_ r_ r_ b_ (ah_ r_ r_ b_ (bg_ 0 r_ r_ r_ r_ (ah_ r_ r_ b_ (bd_ r_ ?_)))))))))))))))))))))))
            refine ah_ r_ r_ b_ (bn_ r_ r_ (ah_ r_ r_ b_ (bv_ r_ r_ r_ (o_ r_ (bp_ r_ r_ r_ (ak_ (jq_cut () [1, 0] trivial rfl ?_)))))))
            (repeat (first | exact True.intro | refine ⟨rfl, ?_⟩))
          · by_cases h4 : l[k].kind = 4
            · refine an_ (F_ r_ (L_ 0 r_ (o_ r_ (bn_ r_ r_ (M_ r_ (ah_ r_ w_ b_ (bf_ r_ r_ r_ b_ (ah_ r_ w_ b_ (bg_ 0 r_ r_ r_ r_ (ah_ r_ w_ b_ (bn_ r_ r_ (o_ r_ (bv_ r_ w_ r_ (M_ r_ (ah_ r_ u_ b_ (bd_ r_ (ah_ r_ u_ b_ (bn_ r_ r_ (ah_ r_ u_ b_ (bd_ r_ (ah_ r_ r_ b_ (bf_ r_ r_ r_ b_ (ah_ r_ r_ b_ (bg_ 0 r_ r_ r_ r_ (ah_ r_ r_ b_ (bd_ r_ ?_))))))))))))))))))))))))))
              refine ah_ r_ r_ b_ (bn_ r_ r_ (ah_ r_ u_ b_ (bv_ r_ r_ r_ (o_ r_ (bp_ r_ u_ r_ (ak_ (jq_cut () [1, 0] trivial rfl ?_)))))))
              (repeat (first | exact True.intro | refine ⟨rfl, ?_⟩))
            · refine an_ (F_ r_ (L_ 0 r_ (o_ r_ (bn_ r_ r_ (M_ r_ (ah_ r_ w_ b_ (bf_ r_ r_ r_ b_ (ah_ r_ w_ b_ (bg_ 0 r_ r_ r_ r_ (ah_ r_ w_ b_ (bn_ r_ r_ (o_ r_ (bv_ r_ w_ r_ (M_ r_ (ai_ r_ w_ b_ (ai_ r_ w_ b_ (ai_ r_ w_ b_ (aj_ r_ b_ (aj_ r_ b_ (aj_ r_ b_ ?_))))))))))))))))))))
              refine aj_ r_ b_ (ai_ r_ w_ b_ (o_ r_ (bv_ r_ w_ r_ (ak_ ?_))))
              rw [show decide (l[k].kind = 3) = false from decide_eq_false h3]
              refine jq_cut () [1, 0] trivial rfl ?_
              (repeat (first | exact True.intro | refine ⟨rfl, ?_⟩))
        intro _ _
        refine jc_cut (ι := Value) [0, 1, 2, 8, 9] (fun _ => True) (fun v => [(7, .cell (.val v))]) (fun v => [.own v 3 1 (((l.take k).flatMap (rlOne (f + 1)) ++ rlSelf l[k]).map Irow), .blk bl 51 l[k].row']) ?_ ?_
        · have hself : (rlSelf l[k]).length ≤ (rlOne (f + 1) l[k]).length := by rw [e2]; simp only [List.length_append]; omega
          refine jc_condd rfl (fun hw => ?_) (fun hw => ?_)
          · have e1 : rlSelf l[k] = [l[k].label] := by simp [rlSelf, hw]
            rw [e1] at hself ⊢
            simp only [List.length_cons, List.length_nil] at hself
            refine an_ (M_ r_ (F_ r_ (L_ 1 r_ (o_ r_ (bq_ r_ r_ b_ r_ r_ b_ (o_ r_ (ow_append1 0 (l[k].label) rfl rfl rfl rfl rfl rfl rfl (fun _ => rfl) (by show (_ + _) * 8 ≤ _; first | omega | (simp only [List.length_append]; omega)) (by first | omega | (simp only [List.length_append]; omega)) (fun v1 hv1 => E_ r_ (ak_ (jq_cut v1 [0, 0] trivial rfl ?_))))))))))
            (repeat (first | exact True.intro | refine ⟨rfl, ?_⟩))
          · have e1 : rlSelf l[k] = [] := by simp [rlSelf, hw]
            rw [e1, List.append_nil]
            refine as_ (jq_cut v [0, 0] trivial rfl ?_)
            (repeat (first | exact True.intro | refine ⟨rfl, ?_⟩))
        · intro v1 _
          refine R_ (M_ r_ (F_ r_ (L_ 1 r_ (M_ r_ (o_ r_ (bj_ r_ r_ g_ (M_ r_ (o_ r_ (bm_ r_ (ih _ _ g_ g_ g_) (o_ r_ (ow_appendM 0 rfl rfl rfl rfl rfl rfl rfl (fun _ => rfl) (by show (_ + _) * 8 ≤ _; first | omega | (simp only [List.length_append]; omega)) (by first | omega | (simp only [List.length_append]; omega)) (fun v2 hv2 => E_ r_ (T_ (an_ (M_ r_ (F_ r_ (L_ 1 r_ (M_ r_ ?_))))))))))))))))))
          refine o_ r_ (bj_ r_ r_ g_ (M_ r_ (o_ r_ (bm_ r_ (ih _ _ g_ g_ g_) (o_ r_ (ow_appendM 0 rfl rfl rfl rfl rfl rfl rfl (fun _ => rfl) (by show (_ + _) * 8 ≤ _; first | omega | (simp only [List.length_append]; omega)) (by first | omega | (simp only [List.length_append]; omega)) (fun v3 hv3 => E_ r_ (ak_ (ay_ (al_ (an_ (M_ r_ (o_ r_ (bj_ r_ r_ g_ (E_ r_ (ak_ ?_))))))))))))))))
          refine jq_again (i := (k, v)) (k + 1, v3) [0] hlt (by dsimp only; omega) (own_eq (congrArg (List.map Irow) ?_)) ?_
          · rw [flat_take hlt, e2]
            simp only [List.append_assoc]
          · (repeat (first | exact True.intro | refine ⟨rfl, ?_⟩))
      · refine am_ (R_ (M_ r_ (M_ r_ (o_ r_ (br_ r_ (fun hlen => o_ r_ (bw_ r_ r_ (M_ r_ (ai_ r_ w_ b_ (ai_ r_ w_ b_ (o_ r_ (bv_ r_ w_ r_ (T_ (jc_cond rfl (fun h => by cases h) (fun _ => av_ (ax_ (ax_ (ba_ ?_))))))))))))))))))
        refine al_ (R_ (M_ r_ (E_ r_ (T_ (ar_ ?_)))))
        simp only [List.length_map, Int.ofNat_lt] at hlt
        rw [List.take_of_length_le (Nat.le_of_not_lt hlt)]
        refine jq_freeze 6 0 rfl rfl (by rw [hc]; simp [hb]) (jq_ret1 rfl rfl [] rfl (fun K h => h))

def ifsOf (l : List Sm) : List Int := l.flatMap (rlOne 20)
end Go.Proofs.YtlniadfidfmckaaGreatDoor
end

section
namespace Go.Proofs.YtlniadfidfmckaaGreatDoor
open Go.Vc
attribute [local irreducible] JL JC JQ OpWp Con ConN

section
variable {L : List Int} {bm bd : Nat} {V A : List ByteArray} {Sh : List Shd}
theorem maker_c (gv : Gv L V A Sh) : ∀ d : Nat, d ≤ 10 → StmtP L bm bd V A Sh d ∧ BlockP L bm bd V A Sh d ∧ LoopP L bm bd V A Sh d
  | 0, h => by
    have h1 : StmtP L bm bd V A Sh 0 := stmt_step gv 0 h (fun d' h => by omega) (fun d' h => by omega)
    have h2 := block_step gv 0 h1
    exact ⟨h1, h2, loop_step gv 0 h h2⟩
  | d + 1, h => by
    obtain ⟨_, g2, g3⟩ := maker_c gv d (by omega)
    have e2 : ∀ d', d + 1 = d' + 1 → BlockP L bm bd V A Sh d' := fun d' e => by
      have e : d' = d := by omega
      subst e
      exact g2
    have e3 : ∀ d', d + 1 = d' + 1 → LoopP L bm bd V A Sh d' := fun d' e => by
      have e : d' = d := by omega
      subst e
      exact g3
    have h1 := stmt_step gv (d + 1) h e2 e3
    have h2 := block_step gv (d + 1) h1
    exact ⟨h1, h2, loop_step gv (d + 1) h h2⟩
end

mutual
def Sm.sz : Sm → Nat
  | .mk _ _ _ _ _ _ t e => 1 + Sm.szs t + Sm.szs e
def Sm.szs : List Sm → Nat
  | [] => 0
  | s :: l => s.sz + Sm.szs l
end
theorem Sm.szs_app : ∀ l m : List Sm, Sm.szs (l ++ m) = Sm.szs l + Sm.szs m
  | [], m => by simp [Sm.szs]
  | s :: l, m => by simp only [List.cons_append, Sm.szs, Sm.szs_app l m]; omega
theorem Sm.sz_eq (s : Sm) : s.sz = 1 + Sm.szs s.thn + Sm.szs s.els := by cases s; simp [Sm.sz, Sm.thn, Sm.els]
theorem Sm.szs_take (l : List Sm) (n : Nat) : Sm.szs (l.take n) ≤ Sm.szs l := by
  have := Sm.szs_app (l.take n) (l.drop n)
  rw [List.take_append_drop] at this
  omega
theorem flat_szs {f : Sm → List Int} (h : ∀ s, (f s).length ≤ s.sz) : ∀ l : List Sm, (l.flatMap f).length ≤ Sm.szs l
  | [] => by simp
  | s :: l => by
    have := flat_szs h l
    have := h s
    simp only [List.flatMap_cons, List.length_append, Sm.szs]
    omega
theorem rlOne_le : ∀ (f : Nat) (s : Sm), (rlOne f s).length ≤ s.sz
  | 0, s => by simp [rlOne]
  | f + 1, s => by
    have h1 := flat_szs (rlOne_le f) s.thn
    have h2 := flat_szs (rlOne_le f) s.els
    have h3 : (rlSelf s).length ≤ 1 := by unfold rlSelf; split <;> simp
    simp only [rlOne, List.length_append, Sm.sz_eq s]
    omega
theorem ifs_le (l : List Sm) : (ifsOf l).length ≤ Sm.szs l := flat_szs (rlOne_le 20) l
def cntG : Nat → Nat
  | 0 => 1
  | d + 1 => 3 + 4 * cntG d
theorem cntG_pos (d : Nat) : 1 ≤ cntG d := by cases d <;> simp [cntG]; omega
theorem pc_szs {St : Int → Int → List Sm → Prop} {n : Nat} (h : ∀ a b l, St a b l → Sm.szs l ≤ n) {k : Nat} {a b : Int} {l : List Sm} (hp : PcG St k a b l) : Sm.szs l ≤ k * n := by
  induction hp with
  | nil => simp [Sm.szs]
  | snoc k _ _ _ l l2 _ h2 ih =>
    have := h _ _ _ h2
    rw [Sm.szs_app, Nat.add_mul]
    omega
theorem bl_szs {St : Int → Int → List Sm → Prop} {n : Nat} (h : ∀ a b l, St a b l → Sm.szs l ≤ n) {m : Nat} {a b : Int} {l : List Sm} (hp : BlG St m a b l) : Sm.szs l ≤ m * n := by
  obtain ⟨k, hk, hp⟩ := hp
  exact Nat.le_trans (pc_szs h hp) (Nat.mul_le_mul_right _ (by omega))
theorem StG_szs {V A : List ByteArray} {Sh : List Shd} : ∀ (d : Nat) (il : Int) (hs : ByteArray) (a b : Int) (l : List Sm), StG V A Sh d il hs a b l → Sm.szs l ≤ cntG d := by
  have leaf : ∀ {U : List ByteArray} {a b : Int} {l : List Sm}, LeafG V U a b l → Sm.szs l = 1 := by
    rintro U a b l ⟨_, ⟨s, e, _, _, rfl⟩ | ⟨s, e, e2, _, _, _, rfl⟩⟩ <;> simp [Sm.szs, Sm.sz]
  intro d
  induction d with
  | zero =>
    intro il hs a b l h
    have := leaf h
    simp [cntG, this]
  | succ d ih =>
    intro il hs a b l h
    have b2 : ∀ il hs a b l, BlG (StG V A Sh d il hs) 2 a b l → Sm.szs l ≤ 2 * cntG d := fun il hs a b l h => bl_szs (m := 2) (ih il hs) h
    have hp := cntG_pos d
    rcases h with h | h | h | h
    · have := leaf h
      simp only [cntG]
      omega
    · obtain ⟨_, c, l1, l2, lab1, _, h1, h2, rfl⟩ := h
      have e1 := b2 _ _ _ _ _ h1
      have e2 : Sm.szs l2 ≤ 2 * cntG d := by
        rcases h2 with ⟨rfl, _⟩ | h2
        · simp [Sm.szs]
        · exact b2 _ _ _ _ _ h2
      simp only [Sm.szs, Sm.sz, cntG]
      omega
    · obtain ⟨_, _, h | h⟩ := h
      · obtain ⟨c, mx, l1, _, _, h1, rfl⟩ := h
        have e1 := b2 _ _ _ _ _ h1
        simp only [Sm.szs, Sm.sz, cntG]
        omega
      · obtain ⟨v, n, op, top, mx, l1, st, _, _, _, _, _, _, h1, rfl⟩ := h
        have e1 := b2 _ _ _ _ _ h1
        simp only [Sm.szs, Sm.sz, cntG, Sm.szs_app]
        omega
    · obtain ⟨_, sh, _, l1, h1, rfl⟩ := h
      have e1 := b2 _ _ _ _ _ h1
      simp only [Sm.szs, Sm.sz, cntG]
      omega
theorem body_szs {V A : List ByteArray} {Sh : List Shd} {a b : Int} {l : List Sm} (h : BlG (StG V A Sh 3 0 E0) 5 a b l) : Sm.szs l ≤ 635 := bl_szs (m := 5) (StG_szs 3 0 E0) h
end Go.Proofs.YtlniadfidfmckaaGreatDoor
end

section
namespace Go.Proofs.YtlniadfidfmckaaGreatDoor
open Go.Vc
attribute [local irreducible] JL JC JQ OpWp Con ConN
attribute [local irreducible] byteAt runLen isL isD isName hasW
set_option maxHeartbeats 4000000

def dpx (x : T) : Bool := decide (8 < x.dep)
def dpS (rec : List Sm → Bool) (s : Sm) : Bool := rec s.thn || rec s.els || s.index.any dpx || s.value.any dpx
def dpF : Nat → List Sm → Bool
  | 0, l => !l.isEmpty
  | n + 1, l => l.any (dpS (dpF n))
def Fx (x : T) : Prop := x.ok ∧ x.dep ≤ 8
def Pl (n : Int) : Prop := 0 ≤ n ∧ n ≤ 2147483647
def fineS : Nat → Sm → Prop
  | 0, _ => False
  | n + 1, s =>
    (s.kind = 1 ∧ nmOk s.name ∧ ∃ x, s.value = [x] ∧ Fx x) ∨
    (s.kind = 2 ∧ nmOk s.name ∧ ∃ y x, s.index = [y] ∧ s.value = [x] ∧ Fx y ∧ Fx x) ∨
    (s.kind = 3 ∧ (∃ x, s.value = [x] ∧ Fx x) ∧ Pl s.label ∧ (∀ t ∈ s.thn, fineS n t) ∧ ∀ t ∈ s.els, fineS n t) ∨
    (s.kind = 4 ∧ (∃ x, s.value = [x] ∧ Fx x) ∧ Pl s.max ∧ Pl s.label ∧ (∀ t ∈ s.thn, fineS n t) ∧ s.els = []) ∨
    (s.kind = 5 ∧ nmOk s.name ∧ (∀ t ∈ s.thn, fineS n t) ∧ s.els = [])
theorem nameB_ok {s : ByteArray} : nameB s = true ↔ nmOk s := by
  unfold nameB nmOk
  rw [Bool.and_eq_true, Bool.not_eq_true']
theorem smallB_ok {n : Int} : smallB n = true ↔ -2147483647 ≤ n ∧ n ≤ 2147483647 := by
  unfold smallB
  rw [Bool.and_eq_true, decide_eq_true_eq, decide_eq_true_eq]; omega
theorem plainB_ok {n : Int} : plainB n = true ↔ Pl n := by
  unfold plainB Pl
  rw [Bool.and_eq_true, decide_eq_true_eq, decide_eq_true_eq]; omega
theorem shpF_ok : ∀ (F : Nat) (t : T), t.dep ≤ F → (shpF F t = true ↔ t.ok)
  | 0, t, h => by have : 1 ≤ t.dep := by rw [T.dep_args]; omega
                  omega
  | F + 1, t, h => by
    cases t with
    | nu n => simp only [shpF, T.ok]; exact smallB_ok
    | nm s => simp only [shpF, T.ok]; exact nameB_ok
    | ix s x =>
      simp only [T.dep] at h
      simp only [shpF, T.ok, Bool.and_eq_true, nameB_ok, shpF_ok F x (by omega)]
    | bn o a b =>
      simp only [T.dep] at h
      simp only [shpF, T.ok, Bool.and_eq_true, decide_eq_true_eq, shpF_ok F a (by omega), shpF_ok F b (by omega), and_assoc]
theorem oneB_ok {l : List T} (h : oneB l = true) (hd : l.any dpx = false) : ∃ x, l = [x] ∧ Fx x := by
  match l, h with
  | [x], h =>
    have hd : ¬ 8 < x.dep := by simpa [dpx] using hd
    exact ⟨x, rfl, (shpF_ok 20 x (by omega)).1 h, by omega⟩
theorem fine_of : ∀ (n F : Nat) (l : List Sm), n ≤ F → okSs F l = true → dpF n l = false → ∀ s ∈ l, fineS n s
  | 0, F, l, _, _, hd, s, hs => by
    cases l with
    | nil => cases hs
    | cons a l => cases hd
  | n + 1, 0, l, hle, _, _, s, hs => by omega
  | n + 1, F + 1, l, hle, ho, hd, s, hs => by
    have h1 : okOne (okSs F) s = true := List.all_eq_true.1 ho s hs
    have h2 : dpS (dpF n) s = false := by
      have := List.any_eq_false.1 hd s hs
      simpa using this
    simp only [dpS, Bool.or_eq_false_iff] at h2
    obtain ⟨⟨⟨d1, d2⟩, d3⟩, d4⟩ := h2
    have ht := fun h => fine_of n F s.thn (by omega) h d1
    have he := fun h => fine_of n F s.els (by omega) h d2
    unfold okOne at h1
    unfold fineS
    split at h1
    · rename_i hk
      simp only [Bool.and_eq_true] at h1
      exact .inl ⟨hk, nameB_ok.1 h1.1.1.1.1.1.1, oneB_ok h1.1.1.1.1.2 d4⟩
    split at h1
    · rename_i hk
      simp only [Bool.and_eq_true] at h1
      obtain ⟨y, hy, fy⟩ := oneB_ok h1.1.1.1.1.1.2 d3
      obtain ⟨x, hx, fx⟩ := oneB_ok h1.1.1.1.1.2 d4
      exact .inr (.inl ⟨hk, nameB_ok.1 h1.1.1.1.1.1.1, y, x, hy, hx, fy, fx⟩)
    split at h1
    · rename_i hk
      simp only [Bool.and_eq_true] at h1
      exact .inr (.inr (.inl ⟨hk, oneB_ok h1.1.1.1.1.2 d4, plainB_ok.1 h1.1.1.2, ht h1.1.2, he h1.2⟩))
    split at h1
    · rename_i hk
      simp only [Bool.and_eq_true, decide_eq_true_eq] at h1
      exact .inr (.inr (.inr (.inl ⟨hk, oneB_ok h1.1.1.1.1.2 d4, plainB_ok.1 h1.1.1.1.2, plainB_ok.1 h1.1.1.2, ht h1.1.2, List.eq_nil_of_length_eq_zero h1.2⟩)))
    split at h1
    · rename_i hk
      simp only [Bool.and_eq_true, decide_eq_true_eq] at h1
      exact .inr (.inr (.inr (.inr ⟨hk, nameB_ok.1 h1.1.1.1.1.1.1, ht h1.1.2, List.eq_nil_of_length_eq_zero h1.2⟩)))
    · cases h1

abbrev Ksp : ByteArray := ⟨#[32, 32]⟩
abbrev Kelse2 : ByteArray := ⟨#[125, 32, 101, 108, 115, 101, 32, 123, 10]⟩
abbrev Kclose : ByteArray := ⟨#[125, 10]⟩
abbrev Kopen : ByteArray := ⟨#[32, 123, 10]⟩
abbrev Kif2 : ByteArray := ⟨#[105, 102, 32]⟩
abbrev Klab : ByteArray := ⟨#[32, 108, 97, 98, 101, 108, 32]⟩
abbrev Kwh : ByteArray := ⟨#[119, 104, 105, 108, 101, 32]⟩
abbrev Kmx : ByteArray := ⟨#[32, 109, 97, 120, 32]⟩
abbrev Klk : ByteArray := ⟨#[108, 111, 99, 107, 32]⟩
abbrev Kst : ByteArray := ⟨#[32, 61, 32]⟩
abbrev Knl : ByteArray := ⟨#[10]⟩
abbrev Kx1 : ByteArray := ⟨#[91]⟩
abbrev Kx2 : ByteArray := ⟨#[93, 32, 61, 32]⟩
def tx1 : List T → ByteArray
  | x :: _ => textT x
  | [] => ⟨#[]⟩
/-- The first line of a statement, without the space ahead of it. -/
def hdT (s : Sm) : ByteArray :=
  if s.kind = 1 then ((s.name ++ Kst) ++ tx1 s.value) ++ Knl
  else if s.kind = 2 then ((((s.name ++ Kx1) ++ tx1 s.index) ++ Kx2) ++ tx1 s.value) ++ Knl
  else if s.kind = 3 then (((Kif2 ++ tx1 s.value) ++ Klab) ++ numS s.label) ++ Kopen
  else if s.kind = 4 then (((((Kwh ++ tx1 s.value) ++ Kmx) ++ numS s.max) ++ Klab) ++ numS s.label) ++ Kopen
  else (Klk ++ s.name) ++ Kopen
mutual
def stT (sp : ByteArray) : Sm → ByteArray
  | .mk k nm i v m lb t e =>
    if k = 1 ∨ k = 2 then sp ++ hdT (.mk k nm i v m lb t e)
    else (sp ++ hdT (.mk k nm i v m lb t e)) ++ stsT (sp ++ Ksp) t ++ (if e = [] then ⟨#[]⟩ else (sp ++ Kelse2) ++ stsT (sp ++ Ksp) e) ++ (sp ++ Kclose)
def stsT (sp : ByteArray) : List Sm → ByteArray
  | [] => ⟨#[]⟩
  | s :: l => stT sp s ++ stsT sp l
end
theorem ba_nil (X : ByteArray) : X ++ (⟨#[]⟩ : ByteArray) = X := by apply ByteArray.ext; simp
theorem nil_ba (X : ByteArray) : (⟨#[]⟩ : ByteArray) ++ X = X := by apply ByteArray.ext; simp
theorem stsT_app (sp : ByteArray) : ∀ l m : List Sm, stsT sp (l ++ m) = stsT sp l ++ stsT sp m
  | [], m => by rw [List.nil_append, stsT, nil_ba]
  | s :: l, m => by rw [List.cons_append, stsT, stsT, stsT_app sp l m, ByteArray.append_assoc]
theorem stsT_take (sp : ByteArray) {l : List Sm} {k : Nat} (h : k < l.length) : stsT sp (l.take (k + 1)) = stsT sp (l.take k) ++ stT sp l[k] := by
  rw [List.take_succ_eq_append_getElem h, stsT_app, stsT, stsT, ba_nil]
theorem stT_leaf (sp : ByteArray) {s : Sm} (h : s.kind = 1 ∨ s.kind = 2) : stT sp s = sp ++ hdT s := by
  cases s
  rw [stT]
  exact if_pos h
theorem stT_node (sp : ByteArray) {s : Sm} (h : ¬ (s.kind = 1 ∨ s.kind = 2)) : stT sp s = (sp ++ hdT s) ++ stsT (sp ++ Ksp) s.thn ++ (if s.els = [] then ⟨#[]⟩ else (sp ++ Kelse2) ++ stsT (sp ++ Ksp) s.els) ++ (sp ++ Kclose) := by
  cases s
  rw [stT]
  exact if_neg h

theorem Fx.size {x : T} (h : Fx x) : (textT x).size ≤ 25600 := by
  have h1 := text_size x h.1
  have h2 : 2 ^ x.dep ≤ 2 ^ 8 := Nat.pow_le_pow_right (by decide) h.2
  omega
theorem Pl.size {n : Int} (h : Pl n) : (numS n).size ≤ 21 := numS_size n (by have := h.1; omega) h.2
theorem hd_size {n : Nat} {s : Sm} (h : fineS n s) : (hdT s).size ≤ 51400 := by
  cases n with
  | zero => exact h.elim
  | succ n =>
    unfold fineS at h
    unfold hdT
    rcases h with ⟨hk, hn, x, hx, fx⟩ | ⟨hk, hn, y, x, hy, hx, fy, fx⟩ | ⟨hk, ⟨x, hx, fx⟩, hl, _⟩ | ⟨hk, ⟨x, hx, fx⟩, hm, hl, _⟩ | ⟨hk, hn, _⟩
    · have := name_size hn
      have := fx.size
      rw [if_pos hk, hx]
      simp only [tx1, ByteArray.size_append, show Kst.size = 3 from rfl, show Knl.size = 1 from rfl]
      omega
    · have := name_size hn
      have := fx.size
      have := fy.size
      rw [if_neg (by omega), if_pos hk, hx, hy]
      simp only [tx1, ByteArray.size_append, show Kx1.size = 1 from rfl, show Kx2.size = 4 from rfl, show Knl.size = 1 from rfl]
      omega
    · have := hl.size
      have := fx.size
      rw [if_neg (by omega), if_neg (by omega), if_pos hk, hx]
      simp only [tx1, ByteArray.size_append, show Kif2.size = 3 from rfl, show Klab.size = 7 from rfl, show Kopen.size = 3 from rfl]
      omega
    · have := hl.size
      have := hm.size
      have := fx.size
      rw [if_neg (by omega), if_neg (by omega), if_neg (by omega), if_pos hk, hx]
      simp only [tx1, ByteArray.size_append, show Kwh.size = 6 from rfl, show Kmx.size = 5 from rfl, show Klab.size = 7 from rfl, show Kopen.size = 3 from rfl]
      omega
    · have := name_size hn
      rw [if_neg (by omega), if_neg (by omega), if_neg (by omega), if_neg (by omega)]
      simp only [ByteArray.size_append, show Klk.size = 5 from rfl, show Kopen.size = 3 from rfl]
      omega
theorem sts_size_of {n : Nat} {sp : ByteArray} (h : ∀ s, fineS n s → (stT sp s).size ≤ 60000 * s.sz) : ∀ l : List Sm, (∀ s ∈ l, fineS n s) → (stsT sp l).size ≤ 60000 * Sm.szs l
  | [], _ => by simp [stsT, Sm.szs]; rfl
  | s :: l, hl => by
    have h1 := h s (hl s (by simp))
    have h2 := sts_size_of h l (fun t ht => hl t (by simp [ht]))
    rw [stsT, Sm.szs, ByteArray.size_append]
    omega
theorem st_size : ∀ (n : Nat) (sp : ByteArray) (s : Sm), fineS n s → sp.size + 2 * n ≤ 100 → (stT sp s).size ≤ 60000 * s.sz
  | 0, _, _, h, _ => h.elim
  | n + 1, sp, s, h, hsp => by
    have hh := hd_size h
    have ez := Sm.sz_eq s
    by_cases hk : s.kind = 1 ∨ s.kind = 2
    · rw [stT_leaf sp hk, ByteArray.size_append]; omega
    · have ih := sts_size_of (fun s hs => st_size n (sp ++ Ksp) s hs (by rw [ByteArray.size_append, show Ksp.size = 2 from rfl]; omega))
      have ht : ∀ t ∈ s.thn, fineS n t := by
        unfold fineS at h
        rcases h with h | h | h | h | h
        · exact absurd (.inl h.1) hk
        · exact absurd (.inr h.1) hk
        · exact h.2.2.2.1
        · exact h.2.2.2.2.1
        · exact h.2.2.1
      have he : ∀ t ∈ s.els, fineS n t := by
        unfold fineS at h
        rcases h with h | h | h | h | h
        · exact absurd (.inl h.1) hk
        · exact absurd (.inr h.1) hk
        · exact h.2.2.2.2
        · rw [h.2.2.2.2.2]; simp
        · rw [h.2.2.2]; simp
      have h1 := ih s.thn ht
      have h2 := ih s.els he
      rw [stT_node sp hk]
      split
      · simp only [ByteArray.size_append, show Kclose.size = 2 from rfl, show (⟨#[]⟩ : ByteArray).size = 0 from rfl]
        omega
      · simp only [ByteArray.size_append, show Kclose.size = 2 from rfl, show Kelse2.size = 9 from rfl]
        omega
theorem sts_size {n : Nat} {sp : ByteArray} {l : List Sm} (h : ∀ s ∈ l, fineS n s) (hsp : sp.size + 2 * n ≤ 100) : (stsT sp l).size ≤ 60000 * Sm.szs l := sts_size_of (fun s hs => st_size n sp s hs hsp) l h
theorem szs_take_succ {l : List Sm} {k : Nat} (h : k < l.length) : Sm.szs (l.take k) + l[k].sz ≤ Sm.szs l := by
  have h1 := Sm.szs_take l (k + 1)
  rw [List.take_succ_eq_append_getElem h, Sm.szs_app] at h1
  simp only [Sm.szs] at h1
  omega
end Go.Proofs.YtlniadfidfmckaaGreatDoor
end

section
namespace Go.Proofs.YtlniadfidfmckaaGreatDoor
open Go.Vc
attribute [local irreducible] JL JC JQ OpWp Con ConN
attribute [local irreducible] byteAt runLen isL isD isName hasW rd
set_option maxHeartbeats 4000000

theorem any_yes {α : Type} {p : α → Bool} {l : List α} {k : Nat} (h : k < l.length) (h2 : p l[k] = true) : l.any p = true := List.any_eq_true.2 ⟨l[k], List.getElem_mem h, h2⟩
theorem any_snoc {α : Type} {p : α → Bool} {l : List α} {k : Nat} (h : k < l.length) (h1 : (l.take k).any p = false) (h2 : p l[k] = false) : (l.take (k + 1)).any p = false := by
  rw [List.take_succ_eq_append_getElem h, List.any_append, h1]
  simp [h2]
def RDeepP (n : Nat) : Prop := ∀ l : List Sm, Con Tryz.prog 56 [.cell (.list (l.map Sm.row)), In .i64 (9 - (n : Int))] [] (fun K => K (Bl (dpF n l)) [])
theorem rdeep_zero : RDeepP 0 := by
  intro l
  cases l with
  | nil =>
    have eL : (([] : List Sm).map Sm.row).length = 0 := rfl
    refine con_intro Tryz.func56 rfl rfl (Nat.le_of_ble_eq_true rfl) (fun c hc => R_ (E_ r_ (T_ (am_ (R_ (E_ r_ (T_ (au_ (jc_loopS (ι := Unit) [] (fun _ => True) (fun _ => [(0, .cell (.list (([] : List Sm).map Sm.row))), (1, In .i64 (9 - ((0 : Nat) : Int))), (5, In .i64 0)]) (fun _ => []) (fun _ => 0) () trivial ?_ ?_ ?_)))))))))
    · exact sub_end
    · (repeat (first | exact True.intro | refine ⟨rfl, ?_⟩))
    intro _ _
    refine am_ (R_ (M_ r_ (M_ r_ (o_ r_ (br_ r_ (fun hlen => o_ r_ (bw_ r_ r_ (T_ (ap_ r_ r_ (av_ (ax_ (ax_ (ba_ (al_ (R_ (E_ r_ (T_ ?_)))))))))))))))))
    refine ar_ (jq_ret1 rfl rfl [] rfl (fun K h => h))
  | cons s l =>
    have eL : (((s :: l).map Sm.row).length : Int) = (l.length : Int) + 1 := by simp
    refine con_intro Tryz.func56 rfl rfl (Nat.le_of_ble_eq_true rfl) (fun c hc => R_ (E_ r_ (T_ (am_ (R_ (E_ r_ (T_ (au_ (jc_loopS (ι := Unit) [] (fun _ => True) (fun _ => [(0, .cell (.list ((s :: l).map Sm.row))), (1, In .i64 (9 - ((0 : Nat) : Int))), (5, In .i64 0)]) (fun _ => []) (fun _ => 0) () trivial ?_ ?_ ?_)))))))))
    · exact sub_end
    · (repeat (first | exact True.intro | refine ⟨rfl, ?_⟩))
    intro _ _
    refine am_ (R_ (M_ r_ (M_ r_ (o_ r_ (br_ r_ (fun hlen => o_ r_ (bw_ r_ r_ (T_ (aq_ r_ t_ (as_ (al_ (B_ (am_ (R_ (M_ r_ (o_ r_ (bz_ r_ r_ (M_ r_ ?_))))))))))))))))))
    refine ai_ r_ r_ b_ (ai_ r_ r_ b_ (ai_ r_ r_ b_ (ai_ r_ r_ b_ (ai_ r_ r_ b_ (ai_ r_ r_ b_ (ai_ r_ r_ b_ (ai_ r_ r_ b_ (o_ r_ (bp_ r_ r_ r_ (M_ r_ (ai_ r_ r_ b_ (ai_ r_ r_ b_ (ai_ r_ r_ b_ (ai_ r_ r_ b_ (ai_ r_ r_ b_ (ai_ r_ r_ b_ ?_))))))))))))))))
    refine ai_ r_ r_ b_ (ai_ r_ r_ b_ (o_ r_ (bp_ r_ r_ r_ (T_ (aq_ r_ r_ (R_ (E_ r_ (T_ (ar_ (aw_ (az_ (aw_ (aw_ (az_ (aw_ (jq_ret1 rfl rfl [] rfl (fun K h => h)))))))))))))))))
theorem rdeep_succ (n : Nat) (hn : n + 1 ≤ 8) (ih : RDeepP n) : RDeepP (n + 1) := by
  intro l
  have hF1 : (9 - ((n + 1 : Nat) : Int) + 1) = 9 - (n : Int) := by omega
  have hF2 : ¬ 8 < (9 - ((n + 1 : Nat) : Int)) := by omega
  have hF3 : 0 ≤ (9 - ((n + 1 : Nat) : Int)) ∧ (9 - ((n + 1 : Nat) : Int)) ≤ 8 := by omega
  generalize (9 - ((n + 1 : Nat) : Int)) = d at hF1 hF2 hF3 ⊢
  have hI := fun m => ih m
  rw [← hF1] at hI
  clear ih
  have eL : (l.map Sm.row).length = l.length := List.length_map _
  refine con_intro Tryz.func56 rfl rfl (Nat.le_of_ble_eq_true rfl) (fun c hc => R_ (E_ r_ (T_ (am_ (R_ (E_ r_ (T_ (au_ (jc_loopS (ι := Nat) [] (fun k => k ≤ l.length ∧ (l.take k).any (dpS (dpF n)) = false) (fun k => [(0, .cell (.list (l.map Sm.row))), (1, In .i64 d), (5, In .i64 (k : Int))]) (fun _ => []) (fun k => l.length - k) 0 ⟨Nat.zero_le _, rfl⟩ ?_ ?_ ?_)))))))))
  · exact sub_end
  · (repeat (first | exact True.intro | refine ⟨rfl, ?_⟩))
  rintro k ⟨hk, hallS⟩
  by_cases hlt : k < l.length
  · have hlt2 : (k : Int) < ((l.map Sm.row).length : Int) := by omega
    refine am_ (R_ (M_ r_ (M_ r_ (o_ r_ (br_ r_ (fun hlen => o_ r_ (bw_ r_ r_ (T_ (aq_ r_ u_ (as_ (al_ (B_ (am_ (R_ (M_ r_ (o_ r_ (bz_ r_ r_ (M_ r_ ?_))))))))))))))))))
    refine ah_ r_ w_ b_ (bd_ r_ (ah_ r_ w_ b_ (bd_ r_ (ah_ r_ w_ b_ (cc_ r_ r_ g_ (Sm.row_eq _) r_ b_ (ah_ r_ w_ b_ (cf_ r_ r_ r_ b_ r_ b_ (ah_ r_ w_ b_ (cb_ r_ r_ (ah_ r_ w_ b_ (bd_ r_ (ah_ r_ w_ b_ (bj_ r_ r_ g_ (ah_ r_ w_ b_ (bm_ r_ (hI _) (o_ r_ (bv_ r_ w_ r_ (M_ r_ (jl_or 8 12 rfl rfl rfl rfl (nb rfl) ?_)))))))))))))))))))
    apply Exists.intro
    refine ⟨fun hb1 => ?_, ?_⟩
    exact ah_ r_ h_ b_ (bd_ r_ (ah_ r_ h_ b_ (bd_ r_ (ah_ r_ h_ b_ (cc_ r_ r_ g_ (Sm.row_eq _) r_ b_ (ah_ r_ h_ b_ (cf_ r_ r_ r_ b_ r_ b_ (ah_ r_ h_ b_ (cb_ r_ r_ (ah_ r_ h_ b_ (bd_ r_ (ah_ r_ h_ b_ (bj_ r_ r_ g_ (ah_ r_ h_ b_ (bm_ r_ (hI _) (ak_ (jq_seg 8 rfl rfl rfl (List.Perm.refl _))))))))))))))))))
    refine T_ (jc_cond rfl (fun hy => ?_) (fun hn => ?_))
    · have hres : dpF (n + 1) l = true := any_yes hlt (by unfold dpS; rw [hy]; rfl)
      refine R_ (E_ r_ (T_ (ar_ (aw_ (az_ (aw_ (aw_ (az_ (aw_ (jq_ret1 rfl rfl [] rfl (fun K h => by rw [hres] at h; exact h)))))))))))
    refine as_ (al_ (am_ (jc_cut (ι := Unit) [] (fun _ => (l[k].index).any dpx = false) (fun _ => [(0, .cell (.list (l.map Sm.row))), (1, In .i64 d), (5, In .i64 (k : Int))]) (fun _ => []) ?_ ?_)))
    · refine R_ (E_ r_ (T_ (au_ (jc_loopS (ι := Nat) [] (fun q => q ≤ (l[k].index).length ∧ ((l[k].index).take q).any dpx = false) (fun q => (6, In .i64 (q : Int)) :: [(0, .cell (.list (l.map Sm.row))), (1, In .i64 d), (5, In .i64 (k : Int))]) (fun _ => []) (fun q => (l[k].index).length - q) 0 ⟨Nat.zero_le _, rfl⟩ ?_ ?_ ?_))))
      · exact sub_end
      · (repeat (first | exact True.intro | refine ⟨rfl, ?_⟩))
      rintro q ⟨hq, hall⟩
      have eF : ((l[k].index).map T.row).length = (l[k].index).length := List.length_map _
      by_cases hltq : q < (l[k].index).length
      · have hltq2 : (q : Int) < (((l[k].index).map T.row).length : Int) := by omega
        have hrd := rd_eq 20 (l[k].index)[q] (Nat.le_refl _)
        by_cases hd : 8 < (l[k].index)[q].dep
        · have hd2 : (8 : Int) < (rd 20 (l[k].index)[q] : Int) := by omega
          have hyes : (l[k].index).any dpx = true := any_yes hltq (by unfold dpx; exact decide_eq_true hd)
          have hres : dpF (n + 1) l = true := any_yes hlt (by unfold dpS; rw [hyes]; simp)
          refine am_ (R_ (M_ r_ (M_ r_ (M_ r_ (o_ r_ (cc_ r_ r_ g_ (Sm.row_eq _) r_ b_ (o_ r_ (cf_ r_ r_ r_ b_ r_ b_ (o_ r_ (cb_ r_ r_ (o_ r_ (br_ r_ (fun hlen => o_ r_ (bw_ r_ r_ (T_ (aq_ r_ u_ (as_ (al_ (B_ (R_ ?_))))))))))))))))))))
          refine M_ r_ (M_ r_ (o_ r_ (cc_ r_ r_ g_ (Sm.row_eq _) r_ b_ (o_ r_ (cf_ r_ r_ r_ b_ r_ b_ (o_ r_ (cb_ r_ r_ (M_ r_ (o_ r_ (cc_ r_ r_ g_ (T.row_eq _) r_ b_ (o_ r_ (cr_ r_ r_ r_ (o_ r_ (bm_ r_ (RDepth_c _) (o_ r_ (bz_ r_ r_ (T_ (aq_ r_ u_ (R_ (E_ r_ (T_ (ar_ ?_))))))))))))))))))))))
          refine az_ (aw_ (aw_ (az_ (aw_ (az_ (aw_ (aw_ (az_ (aw_ (jq_ret1 rfl rfl [] rfl (fun K h => by rw [hres] at h; exact h)))))))))))
        · have hd2 : ¬ (8 : Int) < (rd 20 (l[k].index)[q] : Int) := by omega
          refine am_ (R_ (M_ r_ (M_ r_ (M_ r_ (o_ r_ (cc_ r_ r_ g_ (Sm.row_eq _) r_ b_ (o_ r_ (cf_ r_ r_ r_ b_ r_ b_ (o_ r_ (cb_ r_ r_ (o_ r_ (br_ r_ (fun hlen => o_ r_ (bw_ r_ r_ (T_ (aq_ r_ u_ (as_ (al_ (B_ (R_ ?_))))))))))))))))))))
          refine M_ r_ (M_ r_ (o_ r_ (cc_ r_ r_ g_ (Sm.row_eq _) r_ b_ (o_ r_ (cf_ r_ r_ r_ b_ r_ b_ (o_ r_ (cb_ r_ r_ (M_ r_ (o_ r_ (cc_ r_ r_ g_ (T.row_eq _) r_ b_ (o_ r_ (cr_ r_ r_ r_ (o_ r_ (bm_ r_ (RDepth_c _) (o_ r_ (bz_ r_ r_ (T_ (ap_ r_ w_ (as_ (ay_ (al_ (an_ ?_))))))))))))))))))))))
          refine M_ r_ (o_ r_ (bj_ r_ r_ g_ (E_ r_ (ak_ (jq_againS (q + 1) ⟨hltq, any_snoc hltq hall (by unfold dpx; exact decide_eq_false hd)⟩ g_ ?_ ?_)))))
          · exact sub_end
          · (repeat (first | exact True.intro | refine ⟨rfl, ?_⟩))
      · have hltq2 : ¬ (q : Int) < (((l[k].index).map T.row).length : Int) := by omega
        refine am_ (R_ (M_ r_ (M_ r_ (M_ r_ (o_ r_ (cc_ r_ r_ g_ (Sm.row_eq _) r_ b_ (o_ r_ (cf_ r_ r_ r_ b_ r_ b_ (o_ r_ (cb_ r_ r_ (o_ r_ (br_ r_ (fun hlen => o_ r_ (bw_ r_ r_ (T_ (ap_ r_ w_ (av_ (ax_ (ax_ (ba_ ?_))))))))))))))))))))
        refine jq_cutS () (by rw [List.take_of_length_le g_] at hall; exact hall) ?_ ?_
        · exact sub_end
        · (repeat (first | exact True.intro | refine ⟨rfl, ?_⟩))
    intro _ hi1
    refine R_ (E_ r_ (T_ (au_ (jc_loopS (ι := Nat) [] (fun q => q ≤ (l[k].value).length ∧ ((l[k].value).take q).any dpx = false) (fun q => (7, In .i64 (q : Int)) :: [(0, .cell (.list (l.map Sm.row))), (1, In .i64 d), (5, In .i64 (k : Int))]) (fun _ => []) (fun q => (l[k].value).length - q) 0 ⟨Nat.zero_le _, rfl⟩ ?_ ?_ ?_))))
    · exact sub_end
    · (repeat (first | exact True.intro | refine ⟨rfl, ?_⟩))
    rintro q ⟨hq, hall⟩
    have eF : ((l[k].value).map T.row).length = (l[k].value).length := List.length_map _
    by_cases hltq : q < (l[k].value).length
    · have hltq2 : (q : Int) < (((l[k].value).map T.row).length : Int) := by omega
      have hrd := rd_eq 20 (l[k].value)[q] (Nat.le_refl _)
      by_cases hd : 8 < (l[k].value)[q].dep
      · have hd2 : (8 : Int) < (rd 20 (l[k].value)[q] : Int) := by omega
        have hyes : (l[k].value).any dpx = true := any_yes hltq (by unfold dpx; exact decide_eq_true hd)
        have hres : dpF (n + 1) l = true := any_yes hlt (by unfold dpS; rw [hyes]; simp)
        refine am_ (R_ (M_ r_ (M_ r_ (M_ r_ (o_ r_ (cc_ r_ r_ g_ (Sm.row_eq _) r_ b_ (o_ r_ (cf_ r_ r_ r_ b_ r_ b_ (o_ r_ (cb_ r_ r_ (o_ r_ (br_ r_ (fun hlen => o_ r_ (bw_ r_ r_ (T_ (aq_ r_ u_ (as_ (al_ (B_ (R_ ?_))))))))))))))))))))
        refine M_ r_ (M_ r_ (o_ r_ (cc_ r_ r_ g_ (Sm.row_eq _) r_ b_ (o_ r_ (cf_ r_ r_ r_ b_ r_ b_ (o_ r_ (cb_ r_ r_ (M_ r_ (o_ r_ (cc_ r_ r_ g_ (T.row_eq _) r_ b_ (o_ r_ (cr_ r_ r_ r_ (o_ r_ (bm_ r_ (RDepth_c _) (o_ r_ (bz_ r_ r_ (T_ (aq_ r_ u_ (R_ (E_ r_ (T_ (ar_ ?_))))))))))))))))))))))
        refine az_ (aw_ (aw_ (az_ (az_ (aw_ (aw_ (az_ (aw_ (jq_ret1 rfl rfl [] rfl (fun K h => by rw [hres] at h; exact h))))))))))
      · have hd2 : ¬ (8 : Int) < (rd 20 (l[k].value)[q] : Int) := by omega
        refine am_ (R_ (M_ r_ (M_ r_ (M_ r_ (o_ r_ (cc_ r_ r_ g_ (Sm.row_eq _) r_ b_ (o_ r_ (cf_ r_ r_ r_ b_ r_ b_ (o_ r_ (cb_ r_ r_ (o_ r_ (br_ r_ (fun hlen => o_ r_ (bw_ r_ r_ (T_ (aq_ r_ u_ (as_ (al_ (B_ (R_ ?_))))))))))))))))))))
        refine M_ r_ (M_ r_ (o_ r_ (cc_ r_ r_ g_ (Sm.row_eq _) r_ b_ (o_ r_ (cf_ r_ r_ r_ b_ r_ b_ (o_ r_ (cb_ r_ r_ (M_ r_ (o_ r_ (cc_ r_ r_ g_ (T.row_eq _) r_ b_ (o_ r_ (cr_ r_ r_ r_ (o_ r_ (bm_ r_ (RDepth_c _) (o_ r_ (bz_ r_ r_ (T_ (ap_ r_ w_ (as_ (ay_ (al_ (an_ ?_))))))))))))))))))))))
        refine M_ r_ (o_ r_ (bj_ r_ r_ g_ (E_ r_ (ak_ (jq_againS (q + 1) ⟨hltq, any_snoc hltq hall (by unfold dpx; exact decide_eq_false hd)⟩ g_ ?_ ?_)))))
        · exact sub_end
        · (repeat (first | exact True.intro | refine ⟨rfl, ?_⟩))
    · have hltq2 : ¬ (q : Int) < (((l[k].value).map T.row).length : Int) := by omega
      refine am_ (R_ (M_ r_ (M_ r_ (M_ r_ (o_ r_ (cc_ r_ r_ g_ (Sm.row_eq _) r_ b_ (o_ r_ (cf_ r_ r_ r_ b_ r_ b_ (o_ r_ (cb_ r_ r_ (o_ r_ (br_ r_ (fun hlen => o_ r_ (bw_ r_ r_ (T_ (ap_ r_ w_ (av_ (ax_ (ax_ (ba_ ?_))))))))))))))))))))
      refine ay_ (al_ (an_ (M_ r_ (o_ r_ (bj_ r_ r_ g_ (E_ r_ (ak_ ?_)))))))
      rw [List.take_of_length_le (by omega)] at hall
      have hS : dpS (dpF n) l[k] = false := by unfold dpS; rw [hn, hi1, hall]; rfl
      refine jq_againS (k + 1) ⟨hlt, any_snoc hlt hallS hS⟩ g_ ?_ ?_
      · exact sub_end
      · (repeat (first | exact True.intro | refine ⟨rfl, ?_⟩))
  · have hlt2 : ¬ (k : Int) < ((l.map Sm.row).length : Int) := by omega
    have hres : dpF (n + 1) l = false := by rw [List.take_of_length_le (by omega)] at hallS; exact hallS
    refine am_ (R_ (M_ r_ (M_ r_ (o_ r_ (br_ r_ (fun hlen => o_ r_ (bw_ r_ r_ (T_ (ap_ r_ w_ (av_ (ax_ (ax_ (ba_ (al_ (R_ (E_ r_ (T_ ?_)))))))))))))))))
    refine ar_ (jq_ret1 rfl rfl [] rfl (fun K h => by rw [hres] at h; exact h))
theorem rdeep_c : ∀ n : Nat, n ≤ 8 → RDeepP n
  | 0, _ => rdeep_zero
  | n + 1, h => rdeep_succ n h (rdeep_c n (by omega))
theorem rDeep_c (l : List Sm) : Con Tryz.prog 27 [.cell (.list (l.map Sm.row))] [] (fun K => K (Bl (dpF 8 l)) []) := by
  have h := rdeep_c 8 (Nat.le_refl _) l
  refine con_intro Tryz.func27 rfl rfl (Nat.le_of_ble_eq_true rfl) (fun c hc => R_ (E_ r_ (T_ (R_ (M_ r_ (o_ r_ (bm_ r_ (h) (E_ r_ (T_ (ar_ (jq_ret1 rfl rfl [] rfl (fun K h => h))))))))))))
end Go.Proofs.YtlniadfidfmckaaGreatDoor
end

section
namespace Go.Proofs.YtlniadfidfmckaaGreatDoor
open Go.Vc
attribute [local irreducible] JL JC JQ OpWp Con ConN
attribute [local irreducible] byteAt runLen isL isD isName hasW rd fineS numS textT hdT stsT stT
set_option maxHeartbeats 4000000

abbrev Bw (v : Value) (X : ByteArray) : Ch := .own v 5 1 ((bytesI X).map Brow)
def RBody (n : Nat) : Prop := ∀ (l : List Sm) (sp X : ByteArray) (v : Value), (∀ s ∈ l, fineS n s) → sp.size + 2 * n ≤ 100 → X.size + 60000 * Sm.szs l ≤ 100000000000000 →
  Con Tryz.prog 29 [.cell (.val v), .cell (.list (l.map Sm.row)), Str sp] [Bw v X] (fun K => ∀ v' : Value, True → K (.cell (.val v')) [Bw v' (X ++ stsT sp l)])
theorem hdT1 {s : Sm} {x : T} (hk : s.kind = 1) (hv : s.value = [x]) : hdT s = ((s.name ++ Kst) ++ textT x) ++ Knl := by unfold hdT; rw [if_pos hk, hv]; rfl
theorem hdT2 {s : Sm} {x y : T} (hk : s.kind = 2) (hi : s.index = [y]) (hv : s.value = [x]) : hdT s = ((((s.name ++ Kx1) ++ textT y) ++ Kx2) ++ textT x) ++ Knl := by unfold hdT; rw [if_neg (by omega), if_pos hk, hv, hi]; rfl
theorem hdT3 {s : Sm} {x : T} (hk : s.kind = 3) (hv : s.value = [x]) : hdT s = (((Kif2 ++ textT x) ++ Klab) ++ numS s.label) ++ Kopen := by unfold hdT; rw [if_neg (by omega), if_neg (by omega), if_pos hk, hv]; rfl
theorem hdT4 {s : Sm} {x : T} (hk : s.kind = 4) (hv : s.value = [x]) : hdT s = (((((Kwh ++ textT x) ++ Kmx) ++ numS s.max) ++ Klab) ++ numS s.label) ++ Kopen := by unfold hdT; rw [if_neg (by omega), if_neg (by omega), if_neg (by omega), if_pos hk, hv]; rfl
theorem hdT5 {s : Sm} (hk : s.kind = 5) : hdT s = (Klk ++ s.name) ++ Kopen := by unfold hdT; rw [if_neg (by omega), if_neg (by omega), if_neg (by omega), if_neg (by omega)]
theorem row1 {s : Sm} {x : T} (h : s.value = [x]) : s.row' = [.val (.int .i64 s.kind), .val (.string s.name), .list (s.index.map T.row), .list ([x].map T.row), .val (.int .i64 s.max), .val (.int .i64 s.label), .list (s.thn.map Sm.row), .list (s.els.map Sm.row)] := by
  rw [← h]
theorem row2 {s : Sm} {x y : T} (hi : s.index = [y]) (h : s.value = [x]) : s.row' = [.val (.int .i64 s.kind), .val (.string s.name), .list ([y].map T.row), .list ([x].map T.row), .val (.int .i64 s.max), .val (.int .i64 s.label), .list (s.thn.map Sm.row), .list (s.els.map Sm.row)] := by
  rw [← h, ← hi]
theorem rtextF_c {t : T} (h : Fx t) : Con Tryz.prog 58 [.row t.row'] [] (fun K => K (Str (textT t)) []) := rtext_c t h.1 (text_small h.1 h.2)
theorem rnumF_c {n : Int} (h : Pl n) : Con Tryz.prog 28 [In .i64 n] [] (fun K => K (Str (numS n)) []) := refNumber_c n ⟨by have := h.1; omega, h.2⟩
theorem rbody_step (n : Nat) (hrec : ∀ n', n = n' + 1 → RBody n') : RBody n := by
  intro l sp X v0 hfine hsp hX
  have eL : (l.map Sm.row).length = l.length := List.length_map _
  refine con_intro Tryz.func29 rfl rfl (Nat.le_of_ble_eq_true rfl) (fun c hc => R_ (E_ r_ (T_ (am_ (R_ (E_ r_ (T_ (au_ (jc_loopS (ι := Nat × Value) [] (fun i => i.1 ≤ l.length) (fun i => [(0, .cell (.val i.2)), (1, .cell (.list (l.map Sm.row))), (2, Str sp), (7, In .i64 (i.1 : Int))]) (fun i => [Bw i.2 (X ++ stsT sp (l.take i.1))]) (fun i => l.length - i.1) (0, v0) (Nat.zero_le _) ?_ ?_ ?_)))))))))
  · rw [show X ++ stsT sp (l.take 0) = X by rw [List.take_zero, stsT, ba_nil]]
    exact bc_ 0 r_ sub_end
  · (repeat (first | exact True.intro | refine ⟨rfl, ?_⟩))
  rintro ⟨k, v⟩ hk
  dsimp only at hk ⊢
  by_cases hlt : k < l.length
  · have hlt2 : (k : Int) < ((l.map Sm.row).length : Int) := by omega
    have hfk := hfine l[k] (List.getElem_mem hlt)
    have hszk := szs_take_succ hlt
    have hs0 := sts_size (l := l.take k) (fun s hs => hfine s (List.mem_of_mem_take hs)) hsp
    have hsk := st_size n sp l[k] hfk hsp
    have hYs : (X ++ stsT sp (l.take k)).size + 60000 * l[k].sz ≤ 100000000000000 := by rw [ByteArray.size_append]; omega
    have hnext : X ++ stsT sp (l.take (k + 1)) = (X ++ stsT sp (l.take k)) ++ stT sp l[k] := by rw [stsT_take sp hlt, ByteArray.append_assoc]
    generalize X ++ stsT sp (l.take k) = Y at hYs hnext ⊢
    have hz1 : 1 ≤ l[k].sz := by rw [Sm.sz_eq]; omega
    refine am_ (R_ (M_ r_ (M_ r_ (o_ r_ (br_ r_ (fun hlen => o_ r_ (bw_ r_ r_ (T_ (aq_ r_ u_ (as_ (al_ (B_ (R_ (M_ r_ (M_ r_ (o_ r_ (cc_ r_ r_ g_ (Sm.row_eq _) r_ b_ (o_ r_ (cr_ r_ r_ r_ ?_)))))))))))))))))))
    refine o_ r_ (bl_ r_ r_ (fun bl => S_ 0 r_ (T_ (R_ (M_ r_ (M_ r_ (o_ r_ (ow_appendS 1 rfl rfl rfl rfl rfl rfl rfl rfl g_ (fun v1 _ => E_ r_ (T_ (am_ ?_)))))))))))
    obtain ⟨s, hs⟩ : ∃ s, s = l[k] := ⟨_, rfl⟩
    rw [← hs] at hfk hsk hYs hnext hz1 ⊢
    have hhd := hd_size hfk
    have hY2 : (Y ++ sp).size = Y.size + sp.size := ByteArray.size_append ..
    obtain ⟨n', rfl⟩ : ∃ n', n = n' + 1 := by
      cases n with
      | zero => exact absurd hfk (by unfold fineS; exact id)
      | succ n => exact ⟨n, rfl⟩
    have hrec := hrec n' rfl
    unfold fineS at hfk
    refine jc_cut (ι := Value) [] (fun _ => 3 ≤ s.kind) (fun v => [(0, .cell (.val v)), (1, .cell (.list (l.map Sm.row))), (2, Str sp), (7, In .i64 (k : Int)), (8, .cell (.val (.pointer (some ⟨bl, 0, none⟩))))]) (fun v => [Bw v ((Y ++ sp) ++ hdT s), .blk bl 51 s.row']) ?_ ?_
    · rcases hfk with ⟨hk1, hn, x, hv, fx⟩ | ⟨hk1, hn, y, x, hi, hv, fy, fx⟩ | ⟨hk1, ⟨x, hv, fx⟩, hl, _⟩ | ⟨hk1, ⟨x, hv, fx⟩, hm, hl, _⟩ | ⟨hk1, hn, _⟩
      · rw [row1 hv]
        have ehd := hdT1 hk1 hv
        have e1 : [x].length = 1 := rfl
        have hxs := fx.size
        have hns := name_size hn
        have ht := rtextF_c fx
        refine R_ (F_ r_ (L_ 1 r_ (T_ (au_ (R_ (o_ r_ (bn_ r_ r_ (E_ r_ (T_ (aq_ r_ u_ (am_ (jc_anyB 11 none rfl k_ k_ (yM_ r_ (yF_ r_ (yL_ 1 r_ (aa_ (fun c => ow_strcat rfl rfl (by simp only [ByteArray.size_append, ba_lit, List.length_cons, List.length_nil] ; omega) p_) ?_))))))))))))))))
        refine yF_ r_ (yL_ 1 r_ (aa_ (fun c => cv_ r_ r_ g_ g_ (T.row_eq _) r_ b_ p_) (aa_ (fun c => cr_ r_ r_ r_ p_) (aa_ (fun c => bm_ r_ (ht) p_) (aa_ (fun c => ow_strcat rfl rfl (by simp only [ByteArray.size_append, ba_lit, List.length_cons, List.length_nil] ; omega) p_) (aa_ (fun c => ow_strcat rfl rfl (by simp only [ByteArray.size_append, ba_lit, List.length_cons, List.length_nil] ; omega) p_) (ae_ (afin_none ?_))))))))
        refine o_ r_ (ow_appendS 0 rfl rfl rfl rfl rfl rfl rfl rfl (by rw [← ehd] ; omega) (fun v1 _ => E_ r_ (T_ (av_ (bb_ r_ (ax_ (ba_ (al_ (an_ (M_ r_ (o_ r_ (bj_ r_ r_ g_ (E_ r_ (ak_ ?_))))))))))))))
        rw [← ehd]
        refine jq_againS (i := (k, v)) (k + 1, v1) hlt (by dsimp only; omega) ?_ ?_
        · dsimp only
          rw [hnext, stT_leaf sp (.inl hk1), ← ByteArray.append_assoc]
          exact bc_ 0 r_ sub_end
        · (repeat (first | exact True.intro | refine ⟨rfl, ?_⟩))
      · rw [row2 hi hv]
        have ehd := hdT2 hk1 hi hv
        have e1 : [x].length = 1 := rfl
        have e2 : [y].length = 1 := rfl
        have hxs := fx.size
        have hys := fy.size
        have hns := name_size hn
        have ht := rtextF_c fx
        have ht2 := rtextF_c fy
        refine R_ (F_ r_ (L_ 1 r_ (T_ (au_ (R_ (o_ r_ (bn_ r_ r_ (E_ r_ (T_ (ap_ r_ v_ (R_ (o_ r_ (bn_ r_ r_ (E_ r_ (T_ (aq_ r_ u_ (am_ ?_)))))))))))))))))
        refine jc_anyB 18 none rfl k_ k_ (yM_ r_ (yF_ r_ (yL_ 1 r_ (aa_ (fun c => ow_strcat rfl rfl (by simp only [ByteArray.size_append, ba_lit, List.length_cons, List.length_nil] ; omega) p_) (yF_ r_ (yL_ 1 r_ (aa_ (fun c => cv_ r_ r_ g_ g_ (T.row_eq _) r_ b_ p_) (aa_ (fun c => cr_ r_ r_ r_ p_) (aa_ (fun c => bm_ r_ (ht2) p_) ?_)))))))))
        refine aa_ (fun c => ow_strcat rfl rfl (by simp only [ByteArray.size_append, ba_lit, List.length_cons, List.length_nil] ; omega) p_) (aa_ (fun c => ow_strcat rfl rfl (by simp only [ByteArray.size_append, ba_lit, List.length_cons, List.length_nil] ; omega) p_) (yF_ r_ (yL_ 1 r_ (aa_ (fun c => cv_ r_ r_ g_ g_ (T.row_eq _) r_ b_ p_) (aa_ (fun c => cr_ r_ r_ r_ p_) (aa_ (fun c => bm_ r_ (ht) p_) ?_))))))
        refine aa_ (fun c => ow_strcat rfl rfl (by simp only [ByteArray.size_append, ba_lit, List.length_cons, List.length_nil] ; omega) p_) (aa_ (fun c => ow_strcat rfl rfl (by simp only [ByteArray.size_append, ba_lit, List.length_cons, List.length_nil] ; omega) p_) (ae_ (afin_none (o_ r_ (ow_appendS 0 rfl rfl rfl rfl rfl rfl rfl rfl (by rw [← ehd] ; omega) (fun v1 _ => E_ r_ (T_ (av_ (bb_ r_ (ax_ (ba_ (al_ (an_ ?_)))))))))))))
        refine M_ r_ (o_ r_ (bj_ r_ r_ g_ (E_ r_ (ak_ ?_))))
        rw [← ehd]
        refine jq_againS (i := (k, v)) (k + 1, v1) hlt (by dsimp only; omega) ?_ ?_
        · dsimp only
          rw [hnext, stT_leaf sp (.inr hk1), ← ByteArray.append_assoc]
          exact bc_ 0 r_ sub_end
        · (repeat (first | exact True.intro | refine ⟨rfl, ?_⟩))
      · rw [row1 hv]
        have ehd := hdT3 hk1 hv
        have e1 : [x].length = 1 := rfl
        have hxs := fx.size
        have hls := hl.size
        have ht := rtextF_c fx
        have hN := rnumF_c hl
        refine R_ (F_ r_ (L_ 1 r_ (T_ (au_ (R_ (o_ r_ (bn_ r_ r_ (E_ r_ (T_ (ap_ r_ v_ (R_ (o_ r_ (bn_ r_ r_ (E_ r_ (T_ (ap_ r_ v_ (R_ ?_)))))))))))))))))
        refine o_ r_ (bn_ r_ r_ (E_ r_ (T_ (aq_ r_ u_ (jc_anyB 13 none rfl k_ k_ (yM_ r_ (yF_ r_ (yL_ 1 r_ (aa_ (fun c => cv_ r_ r_ g_ g_ (T.row_eq _) r_ b_ p_) (aa_ (fun c => cr_ r_ r_ r_ p_) (aa_ (fun c => bm_ r_ (ht) p_) (aa_ (fun c => ow_strcat rfl rfl (by simp only [ByteArray.size_append, ba_lit, List.length_cons, List.length_nil] ; omega) p_) ?_))))))))))))
        refine aa_ (fun c => ow_strcat rfl rfl (by simp only [ByteArray.size_append, ba_lit, List.length_cons, List.length_nil] ; omega) p_) (yF_ r_ (yL_ 1 r_ (aa_ (fun c => bm_ r_ (hN) p_) (aa_ (fun c => ow_strcat rfl rfl (by simp only [ByteArray.size_append, ba_lit, List.length_cons, List.length_nil] ; omega) p_) ?_))))
        refine aa_ (fun c => ow_strcat rfl rfl (by simp only [ByteArray.size_append, ba_lit, List.length_cons, List.length_nil] ; omega) p_) (ae_ (afin_none (o_ r_ (ow_appendS 0 rfl rfl rfl rfl rfl rfl rfl rfl (by rw [← ehd] ; omega) (fun v1 _ => E_ r_ (ak_ (ay_ ?_)))))))
        rw [← ehd, ← row1 hv]
        refine jq_cutS v1 g_ ?_ ?_
        · exact bc_ 0 r_ (bc_ 0 r_ sub_end)
        · (repeat (first | exact True.intro | refine ⟨rfl, ?_⟩))
      · rw [row1 hv]
        have ehd := hdT4 hk1 hv
        have e1 : [x].length = 1 := rfl
        have hxs := fx.size
        have hls := hl.size
        have hms := hm.size
        have ht := rtextF_c fx
        have hN := rnumF_c hl
        have hM := rnumF_c hm
        refine R_ (F_ r_ (L_ 1 r_ (T_ (au_ (R_ (o_ r_ (bn_ r_ r_ (E_ r_ (T_ (ap_ r_ v_ (R_ (o_ r_ (bn_ r_ r_ (E_ r_ (T_ (ap_ r_ v_ (R_ ?_)))))))))))))))))
        refine o_ r_ (bn_ r_ r_ (E_ r_ (T_ (ap_ r_ v_ (R_ (o_ r_ (bn_ r_ r_ (E_ r_ (T_ (aq_ r_ u_ (jc_anyB 18 none rfl k_ k_ (yM_ r_ (yF_ r_ (yL_ 1 r_ (aa_ (fun c => cv_ r_ r_ g_ g_ (T.row_eq _) r_ b_ p_) (aa_ (fun c => cr_ r_ r_ r_ p_) (aa_ (fun c => bm_ r_ (ht) p_) ?_)))))))))))))))))
        refine aa_ (fun c => ow_strcat rfl rfl (by simp only [ByteArray.size_append, ba_lit, List.length_cons, List.length_nil] ; omega) p_) (aa_ (fun c => ow_strcat rfl rfl (by simp only [ByteArray.size_append, ba_lit, List.length_cons, List.length_nil] ; omega) p_) (yF_ r_ (yL_ 1 r_ (aa_ (fun c => bm_ r_ (hM) p_) ?_))))
        refine aa_ (fun c => ow_strcat rfl rfl (by simp only [ByteArray.size_append, ba_lit, List.length_cons, List.length_nil] ; omega) p_) (aa_ (fun c => ow_strcat rfl rfl (by simp only [ByteArray.size_append, ba_lit, List.length_cons, List.length_nil] ; omega) p_) (yF_ r_ (yL_ 1 r_ (aa_ (fun c => bm_ r_ (hN) p_) ?_))))
        refine aa_ (fun c => ow_strcat rfl rfl (by simp only [ByteArray.size_append, ba_lit, List.length_cons, List.length_nil] ; omega) p_) (aa_ (fun c => ow_strcat rfl rfl (by simp only [ByteArray.size_append, ba_lit, List.length_cons, List.length_nil] ; omega) p_) (ae_ (afin_none (o_ r_ (ow_appendS 0 rfl rfl rfl rfl rfl rfl rfl rfl (by rw [← ehd] ; omega) (fun v1 _ => E_ r_ (ak_ (ay_ ?_))))))))
        rw [← ehd, ← row1 hv]
        refine jq_cutS v1 g_ ?_ ?_
        · exact bc_ 0 r_ (bc_ 0 r_ sub_end)
        · (repeat (first | exact True.intro | refine ⟨rfl, ?_⟩))
      · have ehd := hdT5 hk1
        have hns := name_size hn
        refine R_ (F_ r_ (L_ 1 r_ (T_ (au_ (R_ (o_ r_ (bn_ r_ r_ (E_ r_ (T_ (ap_ r_ v_ (R_ (o_ r_ (bn_ r_ r_ (E_ r_ (T_ (ap_ r_ v_ (R_ ?_)))))))))))))))))
        refine o_ r_ (bn_ r_ r_ (E_ r_ (T_ (ap_ r_ v_ (R_ (o_ r_ (bn_ r_ r_ (E_ r_ (T_ (ap_ r_ v_ (an_ (M_ r_ (F_ r_ (L_ 1 r_ (o_ r_ (ow_strcat rfl rfl (by simp only [ByteArray.size_append, ba_lit, List.length_cons, List.length_nil] ; omega) (o_ r_ (ow_strcat rfl rfl (by simp only [ByteArray.size_append, ba_lit, List.length_cons, List.length_nil] ; omega) ?_))))))))))))))))))
        refine o_ r_ (ow_appendS 0 rfl rfl rfl rfl rfl rfl rfl rfl (by rw [← ehd] ; omega) (fun v1 _ => E_ r_ (ak_ (ay_ ?_))))
        rw [← ehd]
        refine jq_cutS v1 g_ ?_ ?_
        · exact bc_ 0 r_ (bc_ 0 r_ sub_end)
        · (repeat (first | exact True.intro | refine ⟨rfl, ?_⟩))
    intro v3 hk3
    have hk12 : ¬ (s.kind = 1 ∨ s.kind = 2) := by omega
    have hthn : ∀ t ∈ s.thn, fineS n' t := by
      rcases hfk with h | h | h | h | h
      · exact absurd (.inl h.1) hk12
      · exact absurd (.inr h.1) hk12
      · exact h.2.2.2.1
      · exact h.2.2.2.2.1
      · exact h.2.2.1
    have hels : ∀ t ∈ s.els, fineS n' t := by
      rcases hfk with h | h | h | h | h
      · exact absurd (.inl h.1) hk12
      · exact absurd (.inr h.1) hk12
      · exact h.2.2.2.2
      · rw [h.2.2.2.2.2]; simp
      · rw [h.2.2.2]; simp
    have ez := Sm.sz_eq s
    have hsp2 : (sp ++ Ksp).size = sp.size + 2 := by rw [ByteArray.size_append]; rfl
    have hZ : ((Y ++ sp) ++ hdT s).size = (Y ++ sp).size + (hdT s).size := ByteArray.size_append ..
    have e1 : stT sp s = (sp ++ hdT s) ++ stsT (sp ++ Ksp) s.thn ++ (if s.els = [] then ⟨#[]⟩ else (sp ++ Kelse2) ++ stsT (sp ++ Ksp) s.els) ++ (sp ++ Kclose) := stT_node sp hk12
    have hT := sts_size hthn (sp := sp ++ Ksp) (by omega)
    have hE := sts_size hels (sp := sp ++ Ksp) (by omega)
    clear hfk
    generalize hZe : (Y ++ sp) ++ hdT s = Zt at hZ ⊢
    have con1 := hrec s.thn (sp ++ Ksp) Zt v3 hthn (by omega) (by omega)
    have hZ2 : (Zt ++ stsT (sp ++ Ksp) s.thn).size = Zt.size + (stsT (sp ++ Ksp) s.thn).size := ByteArray.size_append ..
    have eE : (s.els.map Sm.row).length = s.els.length := List.length_map _
    refine R_ (M_ r_ (F_ r_ (L_ 1 r_ (M_ r_ (o_ r_ (ow_strcat rfl rfl (by simp only [ByteArray.size_append, ba_lit, List.length_cons, List.length_nil] ; omega) (o_ r_ (bt_ [0] rfl rfl (con1) (fun pp hpp => E_ r_ (T_ (am_ ?_)))))))))))
    generalize hZ2e : Zt ++ stsT (sp ++ Ksp) s.thn = Z2 at hZ2 ⊢
    by_cases hnil : s.els = []
    · have hz : ¬ (0 : Int) < ((s.els.map Sm.row).length : Int) := by rw [hnil]; simp
      refine R_ (F_ r_ (L_ 1 r_ (o_ r_ (br_ r_ (fun hlen => o_ r_ (bz_ r_ r_ (T_ (ap_ r_ w_ (as_ (al_ (an_ (M_ r_ (M_ r_ (o_ r_ (ow_strcat rfl rfl (by simp only [ByteArray.size_append, ba_lit, List.length_cons, List.length_nil] ; omega) (o_ r_ (ow_appendS 0 rfl rfl rfl rfl rfl rfl rfl rfl (by simp only [ByteArray.size_append, ba_lit, List.length_cons, List.length_nil] ; omega) (fun v1 _ => E_ r_ (ak_ ?_)))))))))))))))))))
      refine ay_ (al_ (an_ (M_ r_ (o_ r_ (bj_ r_ r_ g_ (E_ r_ (ak_ (jq_againS (i := (k, v)) (k + 1, v1) hlt (by dsimp only; omega) ?_ ?_))))))))
      · dsimp only
        rw [hnext, e1, if_pos hnil, ba_nil, ← hZ2e, ← hZe]
        simp only [ByteArray.append_assoc]
        exact bc_ 0 r_ sub_end
      · (repeat (first | exact True.intro | refine ⟨rfl, ?_⟩))
    · have hz : (0 : Int) < ((s.els.map Sm.row).length : Int) := by
        have := List.length_pos_iff.2 hnil
        omega
      have hsp3 : (sp ++ Kelse2).size = sp.size + 9 := by rw [ByteArray.size_append]; rfl
      have hZ3 : (Z2 ++ (sp ++ Kelse2)).size = Z2.size + (sp ++ Kelse2).size := ByteArray.size_append ..
      have con2 := fun v => hrec s.els (sp ++ Ksp) (Z2 ++ (sp ++ Kelse2)) v hels (by omega) (by omega)
      refine R_ (F_ r_ (L_ 1 r_ (o_ r_ (br_ r_ (fun hlen => o_ r_ (bz_ r_ r_ (T_ (aq_ r_ u_ (R_ (M_ r_ (M_ r_ (o_ r_ (ow_strcat rfl rfl (by simp only [ByteArray.size_append, ba_lit, List.length_cons, List.length_nil] ; omega) (o_ r_ (ow_appendS 0 rfl rfl rfl rfl rfl rfl rfl rfl (by simp only [ByteArray.size_append, ba_lit, List.length_cons, List.length_nil] ; omega) (fun v1 _ => E_ r_ (T_ (an_ (M_ r_ ?_)))))))))))))))))))
      refine F_ r_ (L_ 1 r_ (M_ r_ (o_ r_ (ow_strcat rfl rfl (by simp only [ByteArray.size_append, ba_lit, List.length_cons, List.length_nil] ; omega) (o_ r_ (bt_ [0] rfl rfl (con2 _) (fun pp hpp => E_ r_ (T_ (an_ (M_ r_ (M_ r_ (o_ r_ (ow_strcat rfl rfl (by simp only [ByteArray.size_append, ba_lit, List.length_cons, List.length_nil] ; omega) ?_)))))))))))))
      refine o_ r_ (ow_appendS 0 rfl rfl rfl rfl rfl rfl rfl rfl (by simp only [ByteArray.size_append, ba_lit, List.length_cons, List.length_nil] ; omega) (fun v1 _ => E_ r_ (ak_ (ay_ (al_ (an_ (M_ r_ (o_ r_ (bj_ r_ r_ g_ (E_ r_ (ak_ (jq_againS (i := (k, v)) (k + 1, v1) hlt (by dsimp only; omega) ?_ ?_))))))))))))
      · dsimp only
        rw [hnext, e1, if_neg hnil, ← hZ2e, ← hZe]
        simp only [ByteArray.append_assoc]
        exact bc_ 0 r_ sub_end
      · (repeat (first | exact True.intro | refine ⟨rfl, ?_⟩))
  · have hlt2 : ¬ (k : Int) < ((l.map Sm.row).length : Int) := by omega
    rw [List.take_of_length_le (by omega)]
    refine am_ (R_ (M_ r_ (M_ r_ (o_ r_ (br_ r_ (fun hlen => o_ r_ (bw_ r_ r_ (T_ (ap_ r_ w_ (av_ (ax_ (ax_ (ba_ (al_ (R_ (M_ r_ (E_ r_ ?_)))))))))))))))))
    refine T_ (ar_ (jq_ret1 rfl rfl [0] rfl (fun K h => h v trivial)))
theorem rbody_c : ∀ n : Nat, RBody n
  | 0 => rbody_step 0 (fun n' h => by omega)
  | n + 1 => rbody_step (n + 1) (fun n' h => by obtain rfl : n' = n := by omega
                                                exact rbody_c n')
end Go.Proofs.YtlniadfidfmckaaGreatDoor
end

section
namespace Go.Proofs.YtlniadfidfmckaaGreatDoor
open Go.Vc
attribute [local irreducible] JL JC JQ OpWp Con ConN
attribute [local irreducible] byteAt runLen isL isD isName hasW rd fineS numS textT hdT stsT stT okSs
set_option maxHeartbeats 8000000

def catL {α : Type} (f : α → ByteArray) : List α → ByteArray
  | [] => ⟨#[]⟩
  | a :: l => f a ++ catL f l
theorem catL_app {α : Type} (f : α → ByteArray) : ∀ l m : List α, catL f (l ++ m) = catL f l ++ catL f m
  | [], m => by rw [List.nil_append, catL, nil_ba]
  | a :: l, m => by rw [List.cons_append, catL, catL, catL_app f l m, ByteArray.append_assoc]
theorem catL_take {α : Type} (f : α → ByteArray) (Y : ByteArray) {l : List α} {k : Nat} (h : k < l.length) : Y ++ catL f (l.take (k + 1)) = (Y ++ catL f (l.take k)) ++ f l[k] := by
  rw [List.take_succ_eq_append_getElem h, catL_app, catL, catL, ba_nil, ByteArray.append_assoc]
theorem catL_size {α : Type} {f : α → ByteArray} {B : Nat} : ∀ {l : List α}, (∀ a ∈ l, (f a).size ≤ B) → (catL f l).size ≤ l.length * B
  | [], _ => by simp [catL]; rfl
  | a :: l, h => by
    have h1 := h a (by simp)
    have h2 := catL_size (l := l) (fun x hx => h x (by simp [hx]))
    rw [catL, ByteArray.size_append, List.length_cons, Nat.add_mul]
    omega
theorem catL_takeS {α : Type} {f : α → ByteArray} {B : Nat} {l : List α} (h : ∀ a ∈ l, (f a).size ≤ B) (k : Nat) : (catL f (l.take k)).size ≤ l.length * B := by
  have h1 := catL_size (l := l.take k) (fun a ha => h a (List.mem_of_mem_take ha))
  have h2 : (l.take k).length * B ≤ l.length * B := Nat.mul_le_mul_right _ (by rw [List.length_take]; omega)
  omega
def resT (x : ByteArray) : ByteArray := (((⟨#[114, 101, 115, 111, 117, 114, 99, 101, 32]⟩ : ByteArray) ++ x) ++ (⟨#[10]⟩ : ByteArray))
def shT (x : Shd) : ByteArray := (((((((⟨#[115, 104, 97, 114, 101, 100, 32]⟩ : ByteArray) ++ x.1) ++ (⟨#[32]⟩ : ByteArray)) ++ numS x.2.1) ++ (⟨#[32]⟩ : ByteArray)) ++ x.2.2) ++ (⟨#[10]⟩ : ByteArray))
def inT (x : Inp) : ByteArray := (((((((⟨#[105, 110, 112, 117, 116, 32]⟩ : ByteArray) ++ x.1) ++ (⟨#[32]⟩ : ByteArray)) ++ numS x.2.1) ++ (⟨#[32]⟩ : ByteArray)) ++ numS x.2.2) ++ (⟨#[10]⟩ : ByteArray))
def vaT (x : ByteArray) : ByteArray := (((⟨#[118, 97, 114, 32]⟩ : ByteArray) ++ x) ++ (⟨#[10]⟩ : ByteArray))
def arT (x : Arr) : ByteArray := (((((⟨#[97, 114, 114, 97, 121, 32]⟩ : ByteArray) ++ x.1) ++ (⟨#[32]⟩ : ByteArray)) ++ numS x.2) ++ (⟨#[10]⟩ : ByteArray))
def mdT (x : Md) : ByteArray := (((((((((⟨#[109, 111, 100, 101, 32]⟩ : ByteArray) ++ x.1) ++ (⟨#[32]⟩ : ByteArray)) ++ x.2.1) ++ (⟨#[32]⟩ : ByteArray)) ++ numS x.2.2.1) ++ (⟨#[32]⟩ : ByteArray)) ++ numS x.2.2.2) ++ (⟨#[10]⟩ : ByteArray))
def clT (x : Clm) : ByteArray := (((((⟨#[110, 101, 118, 101, 114, 32]⟩ : ByteArray) ++ numS x.1) ++ (⟨#[32]⟩ : ByteArray)) ++ numS x.2) ++ (⟨#[10]⟩ : ByteArray))
def tkHd (x : Tk) : ByteArray := (((((((((((⟨#[116, 97, 115, 107, 32]⟩ : ByteArray) ++ x.name) ++ (⟨#[32, 112, 101, 114, 105, 111, 100, 32]⟩ : ByteArray)) ++ numS x.period) ++ (⟨#[32, 100, 101, 97, 100, 108, 105, 110, 101, 32]⟩ : ByteArray)) ++ numS x.deadline) ++ (⟨#[32, 112, 114, 105, 111, 114, 105, 116, 121, 32]⟩ : ByteArray)) ++ numS x.priority) ++ (⟨#[32, 106, 105, 116, 116, 101, 114, 32]⟩ : ByteArray)) ++ numS x.jitter) ++ (⟨#[10]⟩ : ByteArray))
def tkT (t : Tk) : ByteArray := ((((((((tkHd t ++ catL inT t.inputs) ++ catL vaT t.vars) ++ catL arT t.arrays) ++ catL mdT t.modes) ++ catL clT t.claims) ++ (⟨#[98, 111, 100, 121, 10]⟩ : ByteArray)) ++ stsT Ksp t.body) ++ (⟨#[101, 110, 100, 10]⟩ : ByteArray))
def progT (p : Pg) : ByteArray := (catL resT p.res ++ catL shT p.shared) ++ catL tkT p.tasks
def progF (p : Pg) : ByteArray × Int := if okPg p = false then (⟨#[]⟩, 10) else if p.tasks.any (fun t => dpF 8 t.body) = true then (⟨#[]⟩, 4) else if 8192 < (progT p).size then (⟨#[]⟩, 4) else (progT p, 0)
/-- Sizes within reason. -/
structure TkSz (t : Tk) : Prop where
  inputs : t.inputs.length ≤ 1000
  vars : t.vars.length ≤ 1000
  arrays : t.arrays.length ≤ 1000
  modes : t.modes.length ≤ 1000
  claims : t.claims.length ≤ 1000
  body : Sm.szs t.body ≤ 1000000
structure PgSz (p : Pg) : Prop where
  res : p.res.length ≤ 1000
  shared : p.shared.length ≤ 1000
  len : p.tasks.length ≤ 1000
  tasks : ∀ t ∈ p.tasks, TkSz t
theorem resT_ok {x : ByteArray} (h : nameB x = true) : nmOk (x) := by
  exact nameB_ok.1 h
theorem resT_size {x : ByteArray} (h : nameB x = true) : (resT x).size ≤ 200 := by
  have h := resT_ok h
  have := name_size h
  simp only [resT, ByteArray.size_append, ba_lit, List.length_cons, List.length_nil]
  omega
theorem shT_ok {x : Shd} (h : shB x = true) : nmOk (x.1) ∧ Pl (x.2.1) ∧ nmOk (x.2.2) := by
  unfold shB at h
  simp only [Bool.and_eq_true, and_assoc] at h
  obtain ⟨h0, h1, h2⟩ := h
  exact ⟨nameB_ok.1 h0, plainB_ok.1 h1, nameB_ok.1 h2⟩
theorem shT_size {x : Shd} (h : shB x = true) : (shT x).size ≤ 200 := by
  have h := shT_ok h
  obtain ⟨h0, h1, h2⟩ := h
  have := name_size h0
  have := h1.size
  have := name_size h2
  simp only [shT, ByteArray.size_append, ba_lit, List.length_cons, List.length_nil]
  omega
theorem inT_ok {x : Inp} (h : inB x = true) : nmOk (x.1) ∧ (-2147483647 ≤ x.2.1 ∧ x.2.1 ≤ 2147483647) ∧ (-2147483647 ≤ x.2.2 ∧ x.2.2 ≤ 2147483647) := by
  unfold inB at h
  simp only [Bool.and_eq_true, and_assoc] at h
  obtain ⟨h0, h1, h2⟩ := h
  exact ⟨nameB_ok.1 h0, smallB_ok.1 h1, smallB_ok.1 h2⟩
theorem inT_size {x : Inp} (h : inB x = true) : (inT x).size ≤ 200 := by
  have h := inT_ok h
  obtain ⟨h0, h1, h2⟩ := h
  have := name_size h0
  have := numS_size _ h1.1 h1.2
  have := numS_size _ h2.1 h2.2
  simp only [inT, ByteArray.size_append, ba_lit, List.length_cons, List.length_nil]
  omega
theorem vaT_ok {x : ByteArray} (h : nameB x = true) : nmOk (x) := by
  exact nameB_ok.1 h
theorem vaT_size {x : ByteArray} (h : nameB x = true) : (vaT x).size ≤ 200 := by
  have h := vaT_ok h
  have := name_size h
  simp only [vaT, ByteArray.size_append, ba_lit, List.length_cons, List.length_nil]
  omega
theorem arT_ok {x : Arr} (h : arB x = true) : nmOk (x.1) ∧ Pl (x.2) := by
  unfold arB at h
  simp only [Bool.and_eq_true, and_assoc] at h
  obtain ⟨h0, h1⟩ := h
  exact ⟨nameB_ok.1 h0, plainB_ok.1 h1⟩
theorem arT_size {x : Arr} (h : arB x = true) : (arT x).size ≤ 200 := by
  have h := arT_ok h
  obtain ⟨h0, h1⟩ := h
  have := name_size h0
  have := h1.size
  simp only [arT, ByteArray.size_append, ba_lit, List.length_cons, List.length_nil]
  omega
theorem mdT_ok {x : Md} (h : mdB x = true) : nmOk (x.1) ∧ nmOk (x.2.1) ∧ (-2147483647 ≤ x.2.2.1 ∧ x.2.2.1 ≤ 2147483647) ∧ (-2147483647 ≤ x.2.2.2 ∧ x.2.2.2 ≤ 2147483647) := by
  unfold mdB at h
  simp only [Bool.and_eq_true, and_assoc] at h
  obtain ⟨h0, h1, h2, h3⟩ := h
  exact ⟨nameB_ok.1 h0, nameB_ok.1 h1, smallB_ok.1 h2, smallB_ok.1 h3⟩
theorem mdT_size {x : Md} (h : mdB x = true) : (mdT x).size ≤ 200 := by
  have h := mdT_ok h
  obtain ⟨h0, h1, h2, h3⟩ := h
  have := name_size h0
  have := name_size h1
  have := numS_size _ h2.1 h2.2
  have := numS_size _ h3.1 h3.2
  simp only [mdT, ByteArray.size_append, ba_lit, List.length_cons, List.length_nil]
  omega
theorem clT_ok {x : Clm} (h : clB x = true) : Pl (x.1) ∧ Pl (x.2) := by
  unfold clB at h
  simp only [Bool.and_eq_true, and_assoc] at h
  obtain ⟨h0, h1⟩ := h
  exact ⟨plainB_ok.1 h0, plainB_ok.1 h1⟩
theorem clT_size {x : Clm} (h : clB x = true) : (clT x).size ≤ 200 := by
  have h := clT_ok h
  obtain ⟨h0, h1⟩ := h
  have := h0.size
  have := h1.size
  simp only [clT, ByteArray.size_append, ba_lit, List.length_cons, List.length_nil]
  omega
theorem tk1_ok {x : Tk} (h : hdB x = true) : nmOk (x.name) ∧ Pl (x.period) ∧ Pl (x.deadline) ∧ Pl (x.priority) ∧ Pl (x.jitter) := by
  unfold hdB at h
  simp only [Bool.and_eq_true, and_assoc] at h
  obtain ⟨h0, h1, h2, h3, h4⟩ := h
  exact ⟨nameB_ok.1 h0, plainB_ok.1 h1, plainB_ok.1 h2, plainB_ok.1 h3, plainB_ok.1 h4⟩
theorem tk1_size {x : Tk} (h : hdB x = true) : (tkHd x).size ≤ 200 := by
  have h := tk1_ok h
  obtain ⟨h0, h1, h2, h3, h4⟩ := h
  have := name_size h0
  have := h1.size
  have := h2.size
  have := h3.size
  have := h4.size
  simp only [tkHd, ByteArray.size_append, ba_lit, List.length_cons, List.length_nil]
  omega
theorem hd_of {t : Tk} (h : okTk t = true) : hdB t = true ∧ okSs 20 t.body = true ∧ (∀ x ∈ t.inputs, inB x = true) ∧ (∀ x ∈ t.vars, nameB x = true) ∧ (∀ x ∈ t.arrays, arB x = true) ∧ (∀ x ∈ t.modes, mdB x = true) ∧ ∀ x ∈ t.claims, clB x = true := by
  unfold okTk at h
  simp only [Bool.and_eq_true, and_assoc, List.all_eq_true] at h
  exact h
theorem tkT_size {t : Tk} (h : okTk t = true) (hd : dpF 8 t.body = false) (hs : TkSz t) : (tkT t).size ≤ 60002000000 := by
  obtain ⟨h0, hb, h1, h2, h3, h4, h5⟩ := hd_of h
  have e0 := tk1_size h0
  have e1 := catL_size (f := inT) (fun x hx => inT_size (h1 x hx))
  have e2 := catL_size (f := vaT) (fun x hx => vaT_size (h2 x hx))
  have e3 := catL_size (f := arT) (fun x hx => arT_size (h3 x hx))
  have e4 := catL_size (f := mdT) (fun x hx => mdT_size (h4 x hx))
  have e5 := catL_size (f := clT) (fun x hx => clT_size (h5 x hx))
  have e6 := sts_size (sp := Ksp) (fine_of 8 20 t.body (by omega) hb hd) (by show 2 + 2 * 8 ≤ 100; omega)
  have := hs.inputs
  have := hs.vars
  have := hs.arrays
  have := hs.modes
  have := hs.claims
  have := hs.body
  simp only [tkT, ByteArray.size_append, ba_lit, List.length_cons, List.length_nil]
  omega
theorem rProg_c (p : Pg) (hz : PgSz p) : Con Tryz.prog 14 [.row p.row] [] (fun K => K (.tup [Str (progF p).1, In .i64 (progF p).2]) []) := by
  refine con_intro Tryz.func14 rfl rfl (Nat.le_of_ble_eq_true rfl) (fun c hc => R_ (o_ r_ (ci_ r_ (fun bx => E_ r_ (E_ r_ (T_ (am_ (R_ (A_ 0 r_ (o_ r_ (bm_ r_ (rprintableB_c _) (o_ r_ (cd_ r_ (T_ ?_))))))))))))))
  by_cases hok : okPg p = false
  · have hN : (!okPg p) = true := by rw [hok]; rfl
    have e1 : progF p = (⟨#[]⟩, 10) := by unfold progF; rw [if_pos hok]
    refine aq_ r_ h_ (R_ (E_ r_ (E_ r_ (T_ (ar_ (aw_ (jq_ret2 rfl rfl rfl [] rfl (fun K h => by rw [e1] at h; exact h))))))))
  have hok : okPg p = true := by simpa using hok
  have hN : (!okPg p) = false := by rw [hok]; rfl
  have hokb : ¬ okPg p = false := by rw [hok]; simp
  refine ap_ r_ h_ (as_ (al_ ?_))
  -- none is too deep
  have eT : (p.tasks.map Tk.row).length = p.tasks.length := List.length_map _
  refine am_ (jc_cut (ι := Unit) [] (fun _ => p.tasks.any (fun t => dpF 8 t.body) = false) (fun _ => [(1, .cell (.val (.pointer (some ⟨bx, 0, none⟩))))]) (fun _ => [.blk bx 31 p.row]) ?_ ?_)
  · refine R_ (E_ r_ (T_ (au_ (jc_loopS (ι := Nat) [] (fun k => k ≤ p.tasks.length ∧ (p.tasks.take k).any (fun t => dpF 8 t.body) = false) (fun k => (4, In .i64 (k : Int)) :: [(1, .cell (.val (.pointer (some ⟨bx, 0, none⟩))))]) (fun _ => [.blk bx 31 p.row]) (fun k => p.tasks.length - k) 0 ⟨Nat.zero_le _, rfl⟩ ?_ ?_ ?_))))
    · exact bc_ 0 r_ sub_end
    · (repeat (first | exact True.intro | refine ⟨rfl, ?_⟩))
    rintro k ⟨hk, hall⟩
    by_cases hlt : k < p.tasks.length
    · have hlt2 : (k : Int) < ((p.tasks.map Tk.row).length : Int) := by omega
      by_cases hd : dpF 8 p.tasks[k].body = true
      · have hany : p.tasks.any (fun t => dpF 8 t.body) = true := any_yes hlt hd
        have e1 : progF p = (⟨#[]⟩, 4) := by unfold progF; rw [if_neg hokb, if_pos hany]
        refine am_ (R_ (M_ r_ (F_ r_ (L_ 0 r_ (o_ r_ (br_ r_ (fun hlen => o_ r_ (bw_ r_ r_ (T_ (aq_ r_ u_ (as_ (al_ (B_ (R_ (F_ r_ (L_ 0 r_ (M_ r_ ?_)))))))))))))))))
        refine o_ r_ (cc_ r_ r_ g_ r_ r_ b_ (o_ r_ (cf_ r_ r_ r_ b_ r_ b_ (o_ r_ (cb_ r_ r_ (o_ r_ (bm_ r_ (rDeep_c _) (T_ (aq_ r_ h_ (R_ (E_ r_ (E_ r_ (T_ (ar_ (az_ (aw_ (aw_ (az_ (aw_ ?_)))))))))))))))))))
        refine jq_ret2 rfl rfl rfl [] rfl (fun K h => by rw [e1] at h; exact h)
      · have hd : dpF 8 p.tasks[k].body = false := by simpa using hd
        refine am_ (R_ (M_ r_ (F_ r_ (L_ 0 r_ (o_ r_ (br_ r_ (fun hlen => o_ r_ (bw_ r_ r_ (T_ (aq_ r_ u_ (as_ (al_ (B_ (R_ (F_ r_ (L_ 0 r_ (M_ r_ ?_)))))))))))))))))
        refine o_ r_ (cc_ r_ r_ g_ r_ r_ b_ (o_ r_ (cf_ r_ r_ r_ b_ r_ b_ (o_ r_ (cb_ r_ r_ (o_ r_ (bm_ r_ (rDeep_c _) (T_ (ap_ r_ h_ (as_ (ay_ (al_ (an_ (M_ r_ (o_ r_ (bj_ r_ r_ g_ (E_ r_ (ak_ (jq_againS (k + 1) ⟨hlt, any_snoc hlt hall hd⟩ g_ ?_ ?_)))))))))))))))))))
        · exact bc_ 0 r_ sub_end
        · (repeat (first | exact True.intro | refine ⟨rfl, ?_⟩))
    · have hlt2 : ¬ (k : Int) < ((p.tasks.map Tk.row).length : Int) := by omega
      refine am_ (R_ (M_ r_ (F_ r_ (L_ 0 r_ (o_ r_ (br_ r_ (fun hlen => o_ r_ (bw_ r_ r_ (T_ (ap_ r_ w_ (av_ (ax_ (ax_ (ba_ (jq_cutS () (by rw [List.take_of_length_le g_] at hall; exact hall) ?_ ?_)))))))))))))))
      · exact bc_ 0 r_ sub_end
      · (repeat (first | exact True.intro | refine ⟨rfl, ?_⟩))
  intro _ hdeep
  have hok2 := hok
  unfold okPg at hok2
  simp only [Bool.and_eq_true, List.all_eq_true, and_assoc] at hok2
  obtain ⟨hR, hSh, hTk⟩ := hok2
  have zr := hz.res
  have zs := hz.shared
  have zl := hz.len
  refine jc_ownNil 5 1 g_ (R_ (E_ r_ (T_ (am_ ?_))))
  have hY0 : ((⟨#[]⟩ : ByteArray)).size ≤ 0 := Nat.le_refl _
  refine jc_cut (ι := Value) [] (fun _ => True) (fun v => (5, .cell (.val v)) :: [(1, .cell (.val (.pointer (some ⟨bx, 0, none⟩))))]) (fun v => [Bw v ((⟨#[]⟩ : ByteArray) ++ catL resT (p.res)), .blk bx 31 p.row]) ?_ ?_
  · refine R_ (E_ r_ (T_ (au_ (jc_loopS (ι := Nat × Value) [] (fun i => i.1 ≤ (p.res).length) (fun i => (6, In .i64 (i.1 : Int)) :: (5, .cell (.val i.2)) :: [(1, .cell (.val (.pointer (some ⟨bx, 0, none⟩))))]) (fun i => [Bw i.2 ((⟨#[]⟩ : ByteArray) ++ catL resT ((p.res).take i.1)), .blk bx 31 p.row]) (fun i => (p.res).length - i.1) (0, (.slice none 0 0)) (Nat.zero_le _) ?_ ?_ ?_))))
    · rw [show (⟨#[]⟩ : ByteArray) ++ catL resT ((p.res).take 0) = (⟨#[]⟩ : ByteArray) by rw [List.take_zero, catL, ba_nil]]
      exact bc_ 0 r_ (bc_ 0 r_ sub_end)
    · (repeat (first | exact True.intro | refine ⟨rfl, ?_⟩))
    rintro ⟨k, v⟩ hk
    dsimp only at hk ⊢
    have eL : ((p.res).map Wrow).length = (p.res).length := List.length_map _
    by_cases hlt : k < (p.res).length
    · have hlt2 : (k : Int) < (((p.res).map Wrow).length : Int) := by omega
      have hsz := catL_takeS (f := resT) (l := p.res) (fun x hx => resT_size (hR x hx)) k
      have hnx := catL_take resT ((⟨#[]⟩ : ByteArray)) hlt
      have hfs := resT_size (hR _ (List.getElem_mem hlt))
      have hYs : ((⟨#[]⟩ : ByteArray) ++ catL resT ((p.res).take k)).size ≤ 0 + 200000 := by rw [ByteArray.size_append]; omega
      generalize (⟨#[]⟩ : ByteArray) ++ catL resT ((p.res).take k) = Z at hYs hnx ⊢
      have gk := resT_ok (hR _ (List.getElem_mem hlt))
      have g0 := gk
      have := name_size g0
      refine am_ (R_ (M_ r_ (F_ r_ (L_ 1 r_ (o_ r_ (br_ r_ (fun hlen => o_ r_ (bw_ r_ r_ (T_ (aq_ r_ u_ (as_ (al_ (B_ (an_ (M_ r_ (F_ r_ (L_ 1 r_ ?_)))))))))))))))))
      refine M_ r_ (o_ r_ (cc_ r_ r_ g_ r_ r_ b_ (o_ r_ (cb_ r_ r_ (o_ r_ (ow_strcat rfl rfl (by simp only [ByteArray.size_append, ba_lit, List.length_cons, List.length_nil] ; omega) (o_ r_ (ow_strcat rfl rfl (by simp only [ByteArray.size_append, ba_lit, List.length_cons, List.length_nil] ; omega) (o_ r_ (ow_appendS 0 rfl rfl rfl rfl rfl rfl rfl rfl (by show _ + (resT (p.res)[k]).size ≤ _ ; omega) (fun v1 _ => ?_)))))))))))
      refine E_ r_ (ak_ (ay_ (al_ (an_ (M_ r_ (o_ r_ (bj_ r_ r_ g_ (E_ r_ (ak_ (jq_againS (i := (k, v)) (k + 1, v1) hlt (by dsimp only; omega) ?_ ?_))))))))))
      · dsimp only
        rw [hnx]
        exact bc_ 0 r_ (bc_ 0 r_ sub_end)
      · (repeat (first | exact True.intro | refine ⟨rfl, ?_⟩))
    · have hlt2 : ¬ (k : Int) < (((p.res).map Wrow).length : Int) := by omega
      rw [List.take_of_length_le (show (p.res).length ≤ k by omega)]
      refine am_ (R_ (M_ r_ (F_ r_ (L_ 1 r_ (o_ r_ (br_ r_ (fun hlen => o_ r_ (bw_ r_ r_ (T_ (ap_ r_ w_ (av_ (ax_ (ax_ (ba_ (jq_cutS v trivial ?_ ?_)))))))))))))))
      · exact bc_ 0 r_ (bc_ 0 r_ sub_end)
      · (repeat (first | exact True.intro | refine ⟨rfl, ?_⟩))
  intro vA _
  rw [nil_ba]
  have hY1 := catL_size (f := resT) (fun x hx => resT_size (hR x hx))
  refine am_ (jc_cut (ι := Value) [] (fun _ => True) (fun v => (5, .cell (.val v)) :: [(1, .cell (.val (.pointer (some ⟨bx, 0, none⟩))))]) (fun v => [Bw v (catL resT p.res ++ catL shT (p.shared)), .blk bx 31 p.row]) ?_ ?_)
  · refine R_ (E_ r_ (T_ (au_ (jc_loopS (ι := Nat × Value) [] (fun i => i.1 ≤ (p.shared).length) (fun i => (7, In .i64 (i.1 : Int)) :: (5, .cell (.val i.2)) :: [(1, .cell (.val (.pointer (some ⟨bx, 0, none⟩))))]) (fun i => [Bw i.2 (catL resT p.res ++ catL shT ((p.shared).take i.1)), .blk bx 31 p.row]) (fun i => (p.shared).length - i.1) (0, vA) (Nat.zero_le _) ?_ ?_ ?_))))
    · rw [show catL resT p.res ++ catL shT ((p.shared).take 0) = catL resT p.res by rw [List.take_zero, catL, ba_nil]]
      exact bc_ 0 r_ (bc_ 0 r_ sub_end)
    · (repeat (first | exact True.intro | refine ⟨rfl, ?_⟩))
    rintro ⟨k, v⟩ hk
    dsimp only at hk ⊢
    have eL : ((p.shared).map ShRow).length = (p.shared).length := List.length_map _
    by_cases hlt : k < (p.shared).length
    · have hlt2 : (k : Int) < (((p.shared).map ShRow).length : Int) := by omega
      have hsz := catL_takeS (f := shT) (l := p.shared) (fun x hx => shT_size (hSh x hx)) k
      have hnx := catL_take shT (catL resT p.res) hlt
      have hfs := shT_size (hSh _ (List.getElem_mem hlt))
      have hYs : (catL resT p.res ++ catL shT ((p.shared).take k)).size ≤ 200000 + 200000 := by rw [ByteArray.size_append]; omega
      generalize catL resT p.res ++ catL shT ((p.shared).take k) = Z at hYs hnx ⊢
      have gk := shT_ok (hSh _ (List.getElem_mem hlt))
      obtain ⟨g0, g1, g2⟩ := gk
      have := name_size g0
      have := g1.size
      have := name_size g2
      refine am_ (R_ (M_ r_ (F_ r_ (L_ 1 r_ (o_ r_ (br_ r_ (fun hlen => o_ r_ (bw_ r_ r_ (T_ (aq_ r_ u_ (as_ (al_ (B_ (R_ (F_ r_ (L_ 1 r_ (M_ r_ ?_)))))))))))))))))
      refine o_ r_ (cc_ r_ r_ g_ r_ r_ b_ (o_ r_ (cr_ r_ r_ r_ (o_ r_ (bl_ r_ r_ (fun bl => S_ 0 r_ (T_ (jc_anyB 16 none rfl k_ k_ (yM_ r_ (yF_ r_ (yF_ r_ (yL_ 0 r_ (aa_ (fun c => ow_strcat rfl rfl (by simp only [ByteArray.size_append, ba_lit, List.length_cons, List.length_nil] ; omega) p_) ?_)))))))))))))
      refine aa_ (fun c => ow_strcat rfl rfl (by simp only [ByteArray.size_append, ba_lit, List.length_cons, List.length_nil] ; omega) p_) (yF_ r_ (yF_ r_ (yL_ 0 r_ (aa_ (fun c => bm_ r_ (rnumF_c g1) p_) (aa_ (fun c => ow_strcat rfl rfl (by simp only [ByteArray.size_append, ba_lit, List.length_cons, List.length_nil] ; omega) p_) ?_)))))
      refine aa_ (fun c => ow_strcat rfl rfl (by simp only [ByteArray.size_append, ba_lit, List.length_cons, List.length_nil] ; omega) p_) (yF_ r_ (yL_ 0 r_ (aa_ (fun c => ow_strcat rfl rfl (by simp only [ByteArray.size_append, ba_lit, List.length_cons, List.length_nil] ; omega) p_) (aa_ (fun c => ow_strcat rfl rfl (by simp only [ByteArray.size_append, ba_lit, List.length_cons, List.length_nil] ; omega) p_) (ae_ ?_)))))
      refine afin_none (o_ r_ (ow_appendS 1 rfl rfl rfl rfl rfl rfl rfl rfl (by show _ + (shT (p.shared)[k]).size ≤ _ ; omega) (fun v1 _ => E_ r_ (ak_ (ay_ (al_ (an_ (M_ r_ (o_ r_ (bj_ r_ r_ g_ (E_ r_ (ak_ (jq_againS (i := (k, v)) (k + 1, v1) hlt (by dsimp only; omega) ?_ ?_)))))))))))))
      · dsimp only
        rw [hnx]
        exact bc_ 0 r_ (bc_ 1 r_ sub_end)
      · (repeat (first | exact True.intro | refine ⟨rfl, ?_⟩))
    · have hlt2 : ¬ (k : Int) < (((p.shared).map ShRow).length : Int) := by omega
      rw [List.take_of_length_le (show (p.shared).length ≤ k by omega)]
      refine am_ (R_ (M_ r_ (F_ r_ (L_ 1 r_ (o_ r_ (br_ r_ (fun hlen => o_ r_ (bw_ r_ r_ (T_ (ap_ r_ w_ (av_ (ax_ (ax_ (ba_ (jq_cutS v trivial ?_ ?_)))))))))))))))
      · exact bc_ 0 r_ (bc_ 0 r_ sub_end)
      · (repeat (first | exact True.intro | refine ⟨rfl, ?_⟩))
  intro vB _
  have hY2 : (catL resT p.res ++ catL shT p.shared).size ≤ 400000 := by
    have := catL_size (f := shT) (fun x hx => shT_size (hSh x hx))
    rw [ByteArray.size_append]; omega
  generalize hX2 : catL resT p.res ++ catL shT p.shared = X2 at hY2 ⊢
  have hdk : ∀ t ∈ p.tasks, dpF 8 t.body = false := fun t ht => by simpa using List.any_eq_false.1 hdeep t ht
  have htz : ∀ t ∈ p.tasks, (tkT t).size ≤ 60002000000 := fun t ht => tkT_size (hTk t ht) (hdk t ht) (hz.tasks t ht)
  refine am_ (jc_cut (ι := Value) [] (fun _ => True) (fun v => (5, .cell (.val v)) :: [(1, .cell (.val (.pointer (some ⟨bx, 0, none⟩))))]) (fun v => [Bw v (X2 ++ catL tkT p.tasks), .blk bx 31 p.row]) ?_ ?_)
  · refine R_ (E_ r_ (T_ (au_ (jc_loopS (ι := Nat × Value) [] (fun i => i.1 ≤ p.tasks.length) (fun i => (9, In .i64 (i.1 : Int)) :: (5, .cell (.val i.2)) :: [(1, .cell (.val (.pointer (some ⟨bx, 0, none⟩))))]) (fun i => [Bw i.2 (X2 ++ catL tkT (p.tasks.take i.1)), .blk bx 31 p.row]) (fun i => p.tasks.length - i.1) (0, vB) (Nat.zero_le _) ?_ ?_ ?_))))
    · rw [show X2 ++ catL tkT (p.tasks.take 0) = X2 by rw [List.take_zero, catL, ba_nil]]
      exact bc_ 0 r_ (bc_ 0 r_ sub_end)
    · (repeat (first | exact True.intro | refine ⟨rfl, ?_⟩))
    rintro ⟨kt, v⟩ hkt
    dsimp only at hkt ⊢
    by_cases hltt : kt < p.tasks.length
    · have hlt2 : (kt : Int) < ((p.tasks.map Tk.row).length : Int) := by omega
      have hsz := catL_takeS (f := tkT) (l := p.tasks) htz kt
      have hnx := catL_take tkT X2 hltt
      have hmt := List.getElem_mem hltt
      have htk := htz _ hmt
      have hYs : (X2 ++ catL tkT (p.tasks.take kt)).size ≤ 60002000400000 := by
        have : p.tasks.length * 60002000000 ≤ 1000 * 60002000000 := Nat.mul_le_mul_right _ zl
        rw [ByteArray.size_append]; omega
      generalize X2 ++ catL tkT (p.tasks.take kt) = Z0 at hYs hnx ⊢
      obtain ⟨h0, hb, h1, h2, h3, h4, h5⟩ := hd_of (hTk _ hmt)
      have tz := hz.tasks _ hmt
      have zi := tz.inputs
      have zv := tz.vars
      have za := tz.arrays
      have zm := tz.modes
      have zc := tz.claims
      have zb := tz.body
      have hdt := hdk _ hmt
      refine am_ (R_ (M_ r_ (F_ r_ (L_ 1 r_ (o_ r_ (br_ r_ (fun hlen => o_ r_ (bw_ r_ r_ (T_ (aq_ r_ u_ (as_ (al_ (B_ (R_ (F_ r_ (L_ 1 r_ (M_ r_ ?_)))))))))))))))))
      refine o_ r_ (cc_ r_ r_ g_ r_ r_ b_ (o_ r_ (cr_ r_ r_ r_ (o_ r_ (bl_ r_ r_ (fun bl => S_ 0 r_ (T_ ?_)))))))
      generalize p.tasks[kt] = t at *
      have gk := tk1_ok h0
      obtain ⟨g0, g1, g2, g3, g4⟩ := gk
      have := name_size g0
      have := g1.size
      have := g2.size
      have := g3.size
      have := g4.size
      have hts := tk1_size h0
      refine am_ (jc_anyB 25 none rfl k_ k_ (yM_ r_ (yF_ r_ (yL_ 0 r_ (aa_ (fun c => ow_strcat rfl rfl (by simp only [ByteArray.size_append, ba_lit, List.length_cons, List.length_nil] ; omega) p_) (aa_ (fun c => ow_strcat rfl rfl (by simp only [ByteArray.size_append, ba_lit, List.length_cons, List.length_nil] ; omega) p_) (yF_ r_ (yL_ 0 r_ (aa_ (fun c => bm_ r_ (rnumF_c g1) p_) ?_)))))))))
      refine aa_ (fun c => ow_strcat rfl rfl (by simp only [ByteArray.size_append, ba_lit, List.length_cons, List.length_nil] ; omega) p_) (aa_ (fun c => ow_strcat rfl rfl (by simp only [ByteArray.size_append, ba_lit, List.length_cons, List.length_nil] ; omega) p_) (yF_ r_ (yL_ 0 r_ (aa_ (fun c => bm_ r_ (rnumF_c g2) p_) ?_))))
      refine aa_ (fun c => ow_strcat rfl rfl (by simp only [ByteArray.size_append, ba_lit, List.length_cons, List.length_nil] ; omega) p_) (aa_ (fun c => ow_strcat rfl rfl (by simp only [ByteArray.size_append, ba_lit, List.length_cons, List.length_nil] ; omega) p_) (yF_ r_ (yL_ 0 r_ (aa_ (fun c => bm_ r_ (rnumF_c g3) p_) ?_))))
      refine aa_ (fun c => ow_strcat rfl rfl (by simp only [ByteArray.size_append, ba_lit, List.length_cons, List.length_nil] ; omega) p_) (aa_ (fun c => ow_strcat rfl rfl (by simp only [ByteArray.size_append, ba_lit, List.length_cons, List.length_nil] ; omega) p_) (yF_ r_ (yL_ 0 r_ (aa_ (fun c => bm_ r_ (rnumF_c g4) p_) ?_))))
      refine aa_ (fun c => ow_strcat rfl rfl (by simp only [ByteArray.size_append, ba_lit, List.length_cons, List.length_nil] ; omega) p_) (aa_ (fun c => ow_strcat rfl rfl (by simp only [ByteArray.size_append, ba_lit, List.length_cons, List.length_nil] ; omega) p_) (ae_ (afin_none (o_ r_ (ow_appendS 1 rfl rfl rfl rfl rfl rfl rfl rfl (by show _ + (tkHd t).size ≤ _ ; omega) (fun v1 _ => E_ r_ (T_ (am_ ?_))))))))
      rw [show (((((((((((⟨#[116, 97, 115, 107, 32]⟩ : ByteArray) ++ t.name) ++ (⟨#[32, 112, 101, 114, 105, 111, 100, 32]⟩ : ByteArray)) ++ numS t.period) ++ (⟨#[32, 100, 101, 97, 100, 108, 105, 110, 101, 32]⟩ : ByteArray)) ++ numS t.deadline) ++ (⟨#[32, 112, 114, 105, 111, 114, 105, 116, 121, 32]⟩ : ByteArray)) ++ numS t.priority) ++ (⟨#[32, 106, 105, 116, 116, 101, 114, 32]⟩ : ByteArray)) ++ numS t.jitter) ++ (⟨#[10]⟩ : ByteArray)) = tkHd t from rfl]
      generalize hE0 : Z0 ++ tkHd t = Y0 at *
      have hY0 : Y0.size ≤ 60002000400200 := by rw [← hE0, ByteArray.size_append]; omega
      refine jc_cut (ι := Value) [] (fun _ => True) (fun v => (5, .cell (.val v)) :: [(1, .cell (.val (.pointer (some ⟨bx, 0, none⟩)))), (9, In .i64 (kt : Int)), (10, .cell (.val (.pointer (some ⟨bl, 0, none⟩))))]) (fun v => [Bw v (Y0 ++ catL inT (t.inputs)), .blk bl 41 t.row, .blk bx 31 p.row]) ?_ ?_
      · refine R_ (E_ r_ (T_ (au_ ?_)))
        refine jc_loopS (ι := Nat × Value) [] (fun i => i.1 ≤ (t.inputs).length) (fun i => (11, In .i64 (i.1 : Int)) :: (5, .cell (.val i.2)) :: [(1, .cell (.val (.pointer (some ⟨bx, 0, none⟩)))), (9, In .i64 (kt : Int)), (10, .cell (.val (.pointer (some ⟨bl, 0, none⟩))))]) (fun i => [Bw i.2 (Y0 ++ catL inT ((t.inputs).take i.1)), .blk bl 41 t.row, .blk bx 31 p.row]) (fun i => (t.inputs).length - i.1) (0, v1) (Nat.zero_le _) ?_ ?_ ?_
        · rw [show Y0 ++ catL inT ((t.inputs).take 0) = Y0 by rw [List.take_zero, catL, ba_nil]]
          exact bc_ 0 r_ (bc_ 0 r_ (bc_ 0 r_ sub_end))
        · (repeat (first | exact True.intro | refine ⟨rfl, ?_⟩))
        rintro ⟨k, v⟩ hk
        dsimp only at hk ⊢
        have eL : ((t.inputs).map InRow).length = (t.inputs).length := List.length_map _
        by_cases hlt : k < (t.inputs).length
        · have hlt2 : (k : Int) < (((t.inputs).map InRow).length : Int) := by omega
          have hsz := catL_takeS (f := inT) (l := t.inputs) (fun x hx => inT_size (h1 x hx)) k
          have hnx := catL_take inT (Y0) hlt
          have hfs := inT_size (h1 _ (List.getElem_mem hlt))
          have hYs : (Y0 ++ catL inT ((t.inputs).take k)).size ≤ 60002000400200 + 200000 := by rw [ByteArray.size_append]; omega
          generalize Y0 ++ catL inT ((t.inputs).take k) = Z at hYs hnx ⊢
          have gk := inT_ok (h1 _ (List.getElem_mem hlt))
          obtain ⟨g0, g1, g2⟩ := gk
          have := name_size g0
          have := numS_size _ g1.1 g1.2
          have := numS_size _ g2.1 g2.2
          refine am_ (R_ (M_ r_ (F_ r_ (L_ 1 r_ (o_ r_ (br_ r_ (fun hlen => o_ r_ (bw_ r_ r_ (T_ (aq_ r_ u_ (as_ (al_ (B_ (jc_anyB 27 none rfl k_ k_ (yM_ r_ (yF_ r_ (yL_ 1 r_ ?_)))))))))))))))))
          refine yM_ r_ (aa_ (fun c => cc_ r_ r_ g_ r_ r_ b_ p_) (aa_ (fun c => cf_ r_ r_ r_ b_ r_ b_ p_) (aa_ (fun c => cb_ r_ r_ p_) (aa_ (fun c => ow_strcat rfl rfl (by simp only [ByteArray.size_append, ba_lit, List.length_cons, List.length_nil] ; omega) p_) (aa_ (fun c => ow_strcat rfl rfl (by simp only [ByteArray.size_append, ba_lit, List.length_cons, List.length_nil] ; omega) p_) (yF_ r_ (yL_ 1 r_ (yM_ r_ ?_))))))))
          refine aa_ (fun c => cc_ r_ r_ g_ r_ r_ b_ p_) (aa_ (fun c => cf_ r_ r_ r_ b_ r_ b_ p_) (aa_ (fun c => cb_ r_ r_ p_) (aa_ (fun c => bm_ r_ (refNumber_c _ g1) p_) (aa_ (fun c => ow_strcat rfl rfl (by simp only [ByteArray.size_append, ba_lit, List.length_cons, List.length_nil] ; omega) p_) (aa_ (fun c => ow_strcat rfl rfl (by simp only [ByteArray.size_append, ba_lit, List.length_cons, List.length_nil] ; omega) p_) ?_)))))
          refine yF_ r_ (yL_ 1 r_ (yM_ r_ (aa_ (fun c => cc_ r_ r_ g_ r_ r_ b_ p_) (aa_ (fun c => cf_ r_ r_ r_ b_ r_ b_ p_) (aa_ (fun c => cb_ r_ r_ p_) (aa_ (fun c => bm_ r_ (refNumber_c _ g2) p_) (aa_ (fun c => ow_strcat rfl rfl (by simp only [ByteArray.size_append, ba_lit, List.length_cons, List.length_nil] ; omega) p_) ?_)))))))
          refine aa_ (fun c => ow_strcat rfl rfl (by simp only [ByteArray.size_append, ba_lit, List.length_cons, List.length_nil] ; omega) p_) (ae_ (afin_none (o_ r_ (ow_appendS 0 rfl rfl rfl rfl rfl rfl rfl rfl (by show _ + (inT (t.inputs)[k]).size ≤ _ ; omega) (fun v1 _ => E_ r_ (ak_ (ay_ (al_ (an_ (M_ r_ (o_ r_ (bj_ r_ r_ g_ (E_ r_ (ak_ (jq_againS (i := (k, v)) (k + 1, v1) hlt (by dsimp only; omega) ?_ ?_)))))))))))))))
          · dsimp only
            rw [hnx]
            exact bc_ 0 r_ (bc_ 0 r_ (bc_ 0 r_ sub_end))
          · (repeat (first | exact True.intro | refine ⟨rfl, ?_⟩))
        · have hlt2 : ¬ (k : Int) < (((t.inputs).map InRow).length : Int) := by omega
          rw [List.take_of_length_le (show (t.inputs).length ≤ k by omega)]
          refine am_ (R_ (M_ r_ (F_ r_ (L_ 1 r_ (o_ r_ (br_ r_ (fun hlen => o_ r_ (bw_ r_ r_ (T_ (ap_ r_ w_ (av_ (ax_ (ax_ (ba_ (jq_cutS v trivial ?_ ?_)))))))))))))))
          · exact bc_ 0 r_ (bc_ 0 r_ (bc_ 0 r_ sub_end))
          · (repeat (first | exact True.intro | refine ⟨rfl, ?_⟩))
      intro vN0 _
      have hS0 := catL_size (f := inT) (l := t.inputs) (fun x hx => inT_size (h1 x hx))
      generalize hE1 : Y0 ++ catL inT (t.inputs) = Y1 at *
      have hY1 : Y1.size ≤ 60002000600200 := by rw [← hE1, ByteArray.size_append]; omega
      clear hS0 hY0
      refine am_ (jc_cut (ι := Value) [] (fun _ => True) (fun v => (5, .cell (.val v)) :: [(1, .cell (.val (.pointer (some ⟨bx, 0, none⟩)))), (9, In .i64 (kt : Int)), (10, .cell (.val (.pointer (some ⟨bl, 0, none⟩))))]) (fun v => [Bw v (Y1 ++ catL vaT (t.vars)), .blk bl 41 t.row, .blk bx 31 p.row]) ?_ ?_)
      · refine R_ (E_ r_ (T_ (au_ ?_)))
        refine jc_loopS (ι := Nat × Value) [] (fun i => i.1 ≤ (t.vars).length) (fun i => (12, In .i64 (i.1 : Int)) :: (5, .cell (.val i.2)) :: [(1, .cell (.val (.pointer (some ⟨bx, 0, none⟩)))), (9, In .i64 (kt : Int)), (10, .cell (.val (.pointer (some ⟨bl, 0, none⟩))))]) (fun i => [Bw i.2 (Y1 ++ catL vaT ((t.vars).take i.1)), .blk bl 41 t.row, .blk bx 31 p.row]) (fun i => (t.vars).length - i.1) (0, vN0) (Nat.zero_le _) ?_ ?_ ?_
        · rw [show Y1 ++ catL vaT ((t.vars).take 0) = Y1 by rw [List.take_zero, catL, ba_nil]]
          exact bc_ 0 r_ (bc_ 0 r_ (bc_ 0 r_ sub_end))
        · (repeat (first | exact True.intro | refine ⟨rfl, ?_⟩))
        rintro ⟨k, v⟩ hk
        dsimp only at hk ⊢
        have eL : ((t.vars).map Wrow).length = (t.vars).length := List.length_map _
        by_cases hlt : k < (t.vars).length
        · have hlt2 : (k : Int) < (((t.vars).map Wrow).length : Int) := by omega
          have hsz := catL_takeS (f := vaT) (l := t.vars) (fun x hx => vaT_size (h2 x hx)) k
          have hnx := catL_take vaT (Y1) hlt
          have hfs := vaT_size (h2 _ (List.getElem_mem hlt))
          have hYs : (Y1 ++ catL vaT ((t.vars).take k)).size ≤ 60002000600200 + 200000 := by rw [ByteArray.size_append]; omega
          generalize Y1 ++ catL vaT ((t.vars).take k) = Z at hYs hnx ⊢
          have gk := vaT_ok (h2 _ (List.getElem_mem hlt))
          have g0 := gk
          have := name_size g0
          refine am_ (R_ (M_ r_ (F_ r_ (L_ 1 r_ (o_ r_ (br_ r_ (fun hlen => o_ r_ (bw_ r_ r_ (T_ (aq_ r_ u_ (as_ (al_ (B_ (an_ (M_ r_ (F_ r_ (L_ 1 r_ ?_)))))))))))))))))
          refine M_ r_ (o_ r_ (cc_ r_ r_ g_ r_ r_ b_ (o_ r_ (cb_ r_ r_ (o_ r_ (ow_strcat rfl rfl (by simp only [ByteArray.size_append, ba_lit, List.length_cons, List.length_nil] ; omega) (o_ r_ (ow_strcat rfl rfl (by simp only [ByteArray.size_append, ba_lit, List.length_cons, List.length_nil] ; omega) (o_ r_ (ow_appendS 0 rfl rfl rfl rfl rfl rfl rfl rfl (by show _ + (vaT (t.vars)[k]).size ≤ _ ; omega) (fun v1 _ => ?_)))))))))))
          refine E_ r_ (ak_ (ay_ (al_ (an_ (M_ r_ (o_ r_ (bj_ r_ r_ g_ (E_ r_ (ak_ (jq_againS (i := (k, v)) (k + 1, v1) hlt (by dsimp only; omega) ?_ ?_))))))))))
          · dsimp only
            rw [hnx]
            exact bc_ 0 r_ (bc_ 0 r_ (bc_ 0 r_ sub_end))
          · (repeat (first | exact True.intro | refine ⟨rfl, ?_⟩))
        · have hlt2 : ¬ (k : Int) < (((t.vars).map Wrow).length : Int) := by omega
          rw [List.take_of_length_le (show (t.vars).length ≤ k by omega)]
          refine am_ (R_ (M_ r_ (F_ r_ (L_ 1 r_ (o_ r_ (br_ r_ (fun hlen => o_ r_ (bw_ r_ r_ (T_ (ap_ r_ w_ (av_ (ax_ (ax_ (ba_ (jq_cutS v trivial ?_ ?_)))))))))))))))
          · exact bc_ 0 r_ (bc_ 0 r_ (bc_ 0 r_ sub_end))
          · (repeat (first | exact True.intro | refine ⟨rfl, ?_⟩))
      intro vN1 _
      have hS1 := catL_size (f := vaT) (l := t.vars) (fun x hx => vaT_size (h2 x hx))
      generalize hE2 : Y1 ++ catL vaT (t.vars) = Y2 at *
      have hY2 : Y2.size ≤ 60002000800200 := by rw [← hE2, ByteArray.size_append]; omega
      clear hS1 hY1
      refine am_ (jc_cut (ι := Value) [] (fun _ => True) (fun v => (5, .cell (.val v)) :: [(1, .cell (.val (.pointer (some ⟨bx, 0, none⟩)))), (9, In .i64 (kt : Int)), (10, .cell (.val (.pointer (some ⟨bl, 0, none⟩))))]) (fun v => [Bw v (Y2 ++ catL arT (t.arrays)), .blk bl 41 t.row, .blk bx 31 p.row]) ?_ ?_)
      · refine R_ (E_ r_ (T_ (au_ ?_)))
        refine jc_loopS (ι := Nat × Value) [] (fun i => i.1 ≤ (t.arrays).length) (fun i => (13, In .i64 (i.1 : Int)) :: (5, .cell (.val i.2)) :: [(1, .cell (.val (.pointer (some ⟨bx, 0, none⟩)))), (9, In .i64 (kt : Int)), (10, .cell (.val (.pointer (some ⟨bl, 0, none⟩))))]) (fun i => [Bw i.2 (Y2 ++ catL arT ((t.arrays).take i.1)), .blk bl 41 t.row, .blk bx 31 p.row]) (fun i => (t.arrays).length - i.1) (0, vN1) (Nat.zero_le _) ?_ ?_ ?_
        · rw [show Y2 ++ catL arT ((t.arrays).take 0) = Y2 by rw [List.take_zero, catL, ba_nil]]
          exact bc_ 0 r_ (bc_ 0 r_ (bc_ 0 r_ sub_end))
        · (repeat (first | exact True.intro | refine ⟨rfl, ?_⟩))
        rintro ⟨k, v⟩ hk
        dsimp only at hk ⊢
        have eL : ((t.arrays).map ArRow).length = (t.arrays).length := List.length_map _
        by_cases hlt : k < (t.arrays).length
        · have hlt2 : (k : Int) < (((t.arrays).map ArRow).length : Int) := by omega
          have hsz := catL_takeS (f := arT) (l := t.arrays) (fun x hx => arT_size (h3 x hx)) k
          have hnx := catL_take arT (Y2) hlt
          have hfs := arT_size (h3 _ (List.getElem_mem hlt))
          have hYs : (Y2 ++ catL arT ((t.arrays).take k)).size ≤ 60002000800200 + 200000 := by rw [ByteArray.size_append]; omega
          generalize Y2 ++ catL arT ((t.arrays).take k) = Z at hYs hnx ⊢
          have gk := arT_ok (h3 _ (List.getElem_mem hlt))
          obtain ⟨g0, g1⟩ := gk
          have := name_size g0
          have := g1.size
          refine am_ (R_ (M_ r_ (F_ r_ (L_ 1 r_ (o_ r_ (br_ r_ (fun hlen => o_ r_ (bw_ r_ r_ (T_ (aq_ r_ u_ (as_ (al_ (B_ (jc_anyB 18 none rfl k_ k_ (yM_ r_ (yF_ r_ (yL_ 1 r_ ?_)))))))))))))))))
          refine yM_ r_ (aa_ (fun c => cc_ r_ r_ g_ r_ r_ b_ p_) (aa_ (fun c => cf_ r_ r_ r_ b_ r_ b_ p_) (aa_ (fun c => cb_ r_ r_ p_) (aa_ (fun c => ow_strcat rfl rfl (by simp only [ByteArray.size_append, ba_lit, List.length_cons, List.length_nil] ; omega) p_) (aa_ (fun c => ow_strcat rfl rfl (by simp only [ByteArray.size_append, ba_lit, List.length_cons, List.length_nil] ; omega) p_) (yF_ r_ (yL_ 1 r_ (yM_ r_ ?_))))))))
          refine aa_ (fun c => cc_ r_ r_ g_ r_ r_ b_ p_) (aa_ (fun c => cf_ r_ r_ r_ b_ r_ b_ p_) (aa_ (fun c => cb_ r_ r_ p_) (aa_ (fun c => bm_ r_ (rnumF_c g1) p_) (aa_ (fun c => ow_strcat rfl rfl (by simp only [ByteArray.size_append, ba_lit, List.length_cons, List.length_nil] ; omega) p_) (aa_ (fun c => ow_strcat rfl rfl (by simp only [ByteArray.size_append, ba_lit, List.length_cons, List.length_nil] ; omega) p_) (ae_ ?_))))))
          refine afin_none (o_ r_ (ow_appendS 0 rfl rfl rfl rfl rfl rfl rfl rfl (by show _ + (arT (t.arrays)[k]).size ≤ _ ; omega) (fun v1 _ => E_ r_ (ak_ (ay_ (al_ (an_ (M_ r_ (o_ r_ (bj_ r_ r_ g_ (E_ r_ (ak_ (jq_againS (i := (k, v)) (k + 1, v1) hlt (by dsimp only; omega) ?_ ?_)))))))))))))
          · dsimp only
            rw [hnx]
            exact bc_ 0 r_ (bc_ 0 r_ (bc_ 0 r_ sub_end))
          · (repeat (first | exact True.intro | refine ⟨rfl, ?_⟩))
        · have hlt2 : ¬ (k : Int) < (((t.arrays).map ArRow).length : Int) := by omega
          rw [List.take_of_length_le (show (t.arrays).length ≤ k by omega)]
          refine am_ (R_ (M_ r_ (F_ r_ (L_ 1 r_ (o_ r_ (br_ r_ (fun hlen => o_ r_ (bw_ r_ r_ (T_ (ap_ r_ w_ (av_ (ax_ (ax_ (ba_ (jq_cutS v trivial ?_ ?_)))))))))))))))
          · exact bc_ 0 r_ (bc_ 0 r_ (bc_ 0 r_ sub_end))
          · (repeat (first | exact True.intro | refine ⟨rfl, ?_⟩))
      intro vN2 _
      have hS2 := catL_size (f := arT) (l := t.arrays) (fun x hx => arT_size (h3 x hx))
      generalize hE3 : Y2 ++ catL arT (t.arrays) = Y3 at *
      have hY3 : Y3.size ≤ 60002001000200 := by rw [← hE3, ByteArray.size_append]; omega
      clear hS2 hY2
      refine am_ (jc_cut (ι := Value) [] (fun _ => True) (fun v => (5, .cell (.val v)) :: [(1, .cell (.val (.pointer (some ⟨bx, 0, none⟩)))), (9, In .i64 (kt : Int)), (10, .cell (.val (.pointer (some ⟨bl, 0, none⟩))))]) (fun v => [Bw v (Y3 ++ catL mdT (t.modes)), .blk bl 41 t.row, .blk bx 31 p.row]) ?_ ?_)
      · refine R_ (E_ r_ (T_ (au_ ?_)))
        refine jc_loopS (ι := Nat × Value) [] (fun i => i.1 ≤ (t.modes).length) (fun i => (14, In .i64 (i.1 : Int)) :: (5, .cell (.val i.2)) :: [(1, .cell (.val (.pointer (some ⟨bx, 0, none⟩)))), (9, In .i64 (kt : Int)), (10, .cell (.val (.pointer (some ⟨bl, 0, none⟩))))]) (fun i => [Bw i.2 (Y3 ++ catL mdT ((t.modes).take i.1)), .blk bl 41 t.row, .blk bx 31 p.row]) (fun i => (t.modes).length - i.1) (0, vN2) (Nat.zero_le _) ?_ ?_ ?_
        · rw [show Y3 ++ catL mdT ((t.modes).take 0) = Y3 by rw [List.take_zero, catL, ba_nil]]
          exact bc_ 0 r_ (bc_ 0 r_ (bc_ 0 r_ sub_end))
        · (repeat (first | exact True.intro | refine ⟨rfl, ?_⟩))
        rintro ⟨k, v⟩ hk
        dsimp only at hk ⊢
        have eL : ((t.modes).map MdRow).length = (t.modes).length := List.length_map _
        by_cases hlt : k < (t.modes).length
        · have hlt2 : (k : Int) < (((t.modes).map MdRow).length : Int) := by omega
          have hsz := catL_takeS (f := mdT) (l := t.modes) (fun x hx => mdT_size (h4 x hx)) k
          have hnx := catL_take mdT (Y3) hlt
          have hfs := mdT_size (h4 _ (List.getElem_mem hlt))
          have hYs : (Y3 ++ catL mdT ((t.modes).take k)).size ≤ 60002001000200 + 200000 := by rw [ByteArray.size_append]; omega
          generalize Y3 ++ catL mdT ((t.modes).take k) = Z at hYs hnx ⊢
          have gk := mdT_ok (h4 _ (List.getElem_mem hlt))
          obtain ⟨g0, g1, g2, g3⟩ := gk
          have := name_size g0
          have := name_size g1
          have := numS_size _ g2.1 g2.2
          have := numS_size _ g3.1 g3.2
          refine am_ (R_ (M_ r_ (F_ r_ (L_ 1 r_ (o_ r_ (br_ r_ (fun hlen => o_ r_ (bw_ r_ r_ (T_ (aq_ r_ u_ (as_ (al_ (B_ (R_ (F_ r_ (L_ 1 r_ (M_ r_ ?_)))))))))))))))))
          refine o_ r_ (cc_ r_ r_ g_ r_ r_ b_ (o_ r_ (cr_ r_ r_ r_ (o_ r_ (bl_ r_ r_ (fun bl => S_ 0 r_ (T_ (jc_anyB 19 none rfl k_ k_ (yM_ r_ (yF_ r_ (yL_ 0 r_ (aa_ (fun c => ow_strcat rfl rfl (by simp only [ByteArray.size_append, ba_lit, List.length_cons, List.length_nil] ; omega) p_) (aa_ (fun c => ow_strcat rfl rfl (by simp only [ByteArray.size_append, ba_lit, List.length_cons, List.length_nil] ; omega) p_) ?_)))))))))))))
          refine yF_ r_ (yL_ 0 r_ (aa_ (fun c => ow_strcat rfl rfl (by simp only [ByteArray.size_append, ba_lit, List.length_cons, List.length_nil] ; omega) p_) (aa_ (fun c => ow_strcat rfl rfl (by simp only [ByteArray.size_append, ba_lit, List.length_cons, List.length_nil] ; omega) p_) (yF_ r_ (yL_ 0 r_ (aa_ (fun c => bm_ r_ (refNumber_c _ g2) p_) ?_))))))
          refine aa_ (fun c => ow_strcat rfl rfl (by simp only [ByteArray.size_append, ba_lit, List.length_cons, List.length_nil] ; omega) p_) (aa_ (fun c => ow_strcat rfl rfl (by simp only [ByteArray.size_append, ba_lit, List.length_cons, List.length_nil] ; omega) p_) (yF_ r_ (yL_ 0 r_ (aa_ (fun c => bm_ r_ (refNumber_c _ g3) p_) ?_))))
          refine aa_ (fun c => ow_strcat rfl rfl (by simp only [ByteArray.size_append, ba_lit, List.length_cons, List.length_nil] ; omega) p_) (aa_ (fun c => ow_strcat rfl rfl (by simp only [ByteArray.size_append, ba_lit, List.length_cons, List.length_nil] ; omega) p_) (ae_ (afin_none (o_ r_ (ow_appendS 1 rfl rfl rfl rfl rfl rfl rfl rfl (by show _ + (mdT (t.modes)[k]).size ≤ _ ; omega) (fun v1 _ => E_ r_ (ak_ (ay_ (al_ ?_)))))))))
          refine an_ (M_ r_ (o_ r_ (bj_ r_ r_ g_ (E_ r_ (ak_ (jq_againS (i := (k, v)) (k + 1, v1) hlt (by dsimp only; omega) ?_ ?_))))))
          · dsimp only
            rw [hnx]
            exact bc_ 0 r_ (bc_ 1 r_ (bc_ 1 r_ sub_end))
          · (repeat (first | exact True.intro | refine ⟨rfl, ?_⟩))
        · have hlt2 : ¬ (k : Int) < (((t.modes).map MdRow).length : Int) := by omega
          rw [List.take_of_length_le (show (t.modes).length ≤ k by omega)]
          refine am_ (R_ (M_ r_ (F_ r_ (L_ 1 r_ (o_ r_ (br_ r_ (fun hlen => o_ r_ (bw_ r_ r_ (T_ (ap_ r_ w_ (av_ (ax_ (ax_ (ba_ (jq_cutS v trivial ?_ ?_)))))))))))))))
          · exact bc_ 0 r_ (bc_ 0 r_ (bc_ 0 r_ sub_end))
          · (repeat (first | exact True.intro | refine ⟨rfl, ?_⟩))
      intro vN3 _
      have hS3 := catL_size (f := mdT) (l := t.modes) (fun x hx => mdT_size (h4 x hx))
      generalize hE4 : Y3 ++ catL mdT (t.modes) = Y4 at *
      have hY4 : Y4.size ≤ 60002001200200 := by rw [← hE4, ByteArray.size_append]; omega
      clear hS3 hY3
      refine am_ (jc_cut (ι := Value) [] (fun _ => True) (fun v => (5, .cell (.val v)) :: [(1, .cell (.val (.pointer (some ⟨bx, 0, none⟩)))), (9, In .i64 (kt : Int)), (10, .cell (.val (.pointer (some ⟨bl, 0, none⟩))))]) (fun v => [Bw v (Y4 ++ catL clT (t.claims)), .blk bl 41 t.row, .blk bx 31 p.row]) ?_ ?_)
      · refine R_ (E_ r_ (T_ (au_ ?_)))
        refine jc_loopS (ι := Nat × Value) [] (fun i => i.1 ≤ (t.claims).length) (fun i => (16, In .i64 (i.1 : Int)) :: (5, .cell (.val i.2)) :: [(1, .cell (.val (.pointer (some ⟨bx, 0, none⟩)))), (9, In .i64 (kt : Int)), (10, .cell (.val (.pointer (some ⟨bl, 0, none⟩))))]) (fun i => [Bw i.2 (Y4 ++ catL clT ((t.claims).take i.1)), .blk bl 41 t.row, .blk bx 31 p.row]) (fun i => (t.claims).length - i.1) (0, vN3) (Nat.zero_le _) ?_ ?_ ?_
        · rw [show Y4 ++ catL clT ((t.claims).take 0) = Y4 by rw [List.take_zero, catL, ba_nil]]
          exact bc_ 0 r_ (bc_ 0 r_ (bc_ 0 r_ sub_end))
        · (repeat (first | exact True.intro | refine ⟨rfl, ?_⟩))
        rintro ⟨k, v⟩ hk
        dsimp only at hk ⊢
        have eL : ((t.claims).map ClRow).length = (t.claims).length := List.length_map _
        by_cases hlt : k < (t.claims).length
        · have hlt2 : (k : Int) < (((t.claims).map ClRow).length : Int) := by omega
          have hsz := catL_takeS (f := clT) (l := t.claims) (fun x hx => clT_size (h5 x hx)) k
          have hnx := catL_take clT (Y4) hlt
          have hfs := clT_size (h5 _ (List.getElem_mem hlt))
          have hYs : (Y4 ++ catL clT ((t.claims).take k)).size ≤ 60002001200200 + 200000 := by rw [ByteArray.size_append]; omega
          generalize Y4 ++ catL clT ((t.claims).take k) = Z at hYs hnx ⊢
          have gk := clT_ok (h5 _ (List.getElem_mem hlt))
          obtain ⟨g0, g1⟩ := gk
          have := g0.size
          have := g1.size
          refine am_ (R_ (M_ r_ (F_ r_ (L_ 1 r_ (o_ r_ (br_ r_ (fun hlen => o_ r_ (bw_ r_ r_ (T_ (aq_ r_ u_ (as_ (al_ (B_ (jc_anyB 19 none rfl k_ k_ (yM_ r_ (yF_ r_ (yL_ 1 r_ ?_)))))))))))))))))
          refine yM_ r_ (aa_ (fun c => cc_ r_ r_ g_ r_ r_ b_ p_) (aa_ (fun c => cf_ r_ r_ r_ b_ r_ b_ p_) (aa_ (fun c => cb_ r_ r_ p_) (aa_ (fun c => bm_ r_ (rnumF_c g0) p_) (aa_ (fun c => ow_strcat rfl rfl (by simp only [ByteArray.size_append, ba_lit, List.length_cons, List.length_nil] ; omega) p_) (aa_ (fun c => ow_strcat rfl rfl (by simp only [ByteArray.size_append, ba_lit, List.length_cons, List.length_nil] ; omega) p_) ?_))))))
          refine yF_ r_ (yL_ 1 r_ (yM_ r_ (aa_ (fun c => cc_ r_ r_ g_ r_ r_ b_ p_) (aa_ (fun c => cf_ r_ r_ r_ b_ r_ b_ p_) (aa_ (fun c => cb_ r_ r_ p_) (aa_ (fun c => bm_ r_ (rnumF_c g1) p_) (aa_ (fun c => ow_strcat rfl rfl (by simp only [ByteArray.size_append, ba_lit, List.length_cons, List.length_nil] ; omega) p_) ?_)))))))
          refine aa_ (fun c => ow_strcat rfl rfl (by simp only [ByteArray.size_append, ba_lit, List.length_cons, List.length_nil] ; omega) p_) (ae_ (afin_none (o_ r_ (ow_appendS 0 rfl rfl rfl rfl rfl rfl rfl rfl (by show _ + (clT (t.claims)[k]).size ≤ _ ; omega) (fun v1 _ => E_ r_ (ak_ (ay_ (al_ (an_ (M_ r_ (o_ r_ (bj_ r_ r_ g_ (E_ r_ (ak_ (jq_againS (i := (k, v)) (k + 1, v1) hlt (by dsimp only; omega) ?_ ?_)))))))))))))))
          · dsimp only
            rw [hnx]
            exact bc_ 0 r_ (bc_ 0 r_ (bc_ 0 r_ sub_end))
          · (repeat (first | exact True.intro | refine ⟨rfl, ?_⟩))
        · have hlt2 : ¬ (k : Int) < (((t.claims).map ClRow).length : Int) := by omega
          rw [List.take_of_length_le (show (t.claims).length ≤ k by omega)]
          refine am_ (R_ (M_ r_ (F_ r_ (L_ 1 r_ (o_ r_ (br_ r_ (fun hlen => o_ r_ (bw_ r_ r_ (T_ (ap_ r_ w_ (av_ (ax_ (ax_ (ba_ (jq_cutS v trivial ?_ ?_)))))))))))))))
          · exact bc_ 0 r_ (bc_ 0 r_ (bc_ 0 r_ sub_end))
          · (repeat (first | exact True.intro | refine ⟨rfl, ?_⟩))
      intro vN4 _
      have hS4 := catL_size (f := clT) (l := t.claims) (fun x hx => clT_size (h5 x hx))
      generalize hE5 : Y4 ++ catL clT (t.claims) = Y5 at *
      have hY5 : Y5.size ≤ 60002001400200 := by rw [← hE5, ByteArray.size_append]; omega
      clear hS4 hY4
      have hfine := fine_of 8 20 t.body (by omega) hb hdt
      have hbs := sts_size (sp := Ksp) hfine (by show 2 + 2 * 8 ≤ 100; omega)
      have hX1 : (Y5 ++ (⟨#[98, 111, 100, 121, 10]⟩ : ByteArray)).size = Y5.size + 5 := by rw [ByteArray.size_append]; rfl
      have con1 := fun v => rbody_c 8 t.body Ksp (Y5 ++ (⟨#[98, 111, 100, 121, 10]⟩ : ByteArray)) v hfine (by show 2 + 2 * 8 ≤ 100; omega) (by omega)
      have hX3 : ((Y5 ++ (⟨#[98, 111, 100, 121, 10]⟩ : ByteArray)) ++ stsT Ksp t.body).size = (Y5 ++ (⟨#[98, 111, 100, 121, 10]⟩ : ByteArray)).size + (stsT Ksp t.body).size := ByteArray.size_append ..
      refine R_ (M_ r_ (o_ r_ (ow_appendS 0 rfl rfl rfl rfl rfl rfl rfl rfl (by simp only [ba_lit, List.length_cons, List.length_nil] ; omega) (fun v1 _ => E_ r_ (T_ (R_ (M_ r_ (F_ r_ (L_ 1 r_ (o_ r_ (bt_ [0] rfl rfl (con1 _) (fun pp hpp => E_ r_ (T_ (an_ (M_ r_ (o_ r_ (ow_appendS 0 rfl rfl rfl rfl rfl rfl rfl rfl (by simp only [ba_lit, List.length_cons, List.length_nil] ; omega) (fun v1 _ => E_ r_ ?_))))))))))))))))))
      refine ak_ (ay_ (al_ (an_ (M_ r_ (o_ r_ (bj_ r_ r_ g_ (E_ r_ (ak_ (jq_againS (i := (kt, v)) (kt + 1, v1) hltt (by dsimp only; omega) ?_ ?_)))))))))
      · dsimp only
        rw [hnx, show Z0 ++ tkT t = ((Y5 ++ (⟨#[98, 111, 100, 121, 10]⟩ : ByteArray)) ++ stsT Ksp t.body) ++ (⟨#[101, 110, 100, 10]⟩ : ByteArray) by rw [← hE5, ← hE4, ← hE3, ← hE2, ← hE1, ← hE0]; simp only [tkT, ByteArray.append_assoc]]
        exact bc_ 0 r_ (bc_ 1 r_ sub_end)
      · (repeat (first | exact True.intro | refine ⟨rfl, ?_⟩))
    · have hlt2 : ¬ (kt : Int) < ((p.tasks.map Tk.row).length : Int) := by omega
      rw [List.take_of_length_le (show p.tasks.length ≤ kt by omega)]
      refine am_ (R_ (M_ r_ (F_ r_ (L_ 1 r_ (o_ r_ (br_ r_ (fun hlen => o_ r_ (bw_ r_ r_ (T_ (ap_ r_ w_ (av_ (ax_ (ax_ (ba_ (jq_cutS v trivial ?_ ?_)))))))))))))))
      · exact bc_ 0 r_ (bc_ 0 r_ sub_end)
      · (repeat (first | exact True.intro | refine ⟨rfl, ?_⟩))
  intro vC _
  have hprog : X2 ++ catL tkT p.tasks = progT p := by rw [← hX2]; rfl
  rw [hprog]
  have hPs : (progT p).size ≤ 60002000400000 := by
    have h1 := catL_size (f := tkT) htz
    have : p.tasks.length * 60002000000 ≤ 1000 * 60002000000 := Nat.mul_le_mul_right _ zl
    rw [← hprog, ByteArray.size_append]; omega
  have ePn : ((bytesI (progT p)).map Brow).length = (progT p).size := by rw [List.length_map, bytesI_len]
  have e0 : progF p = if 8192 < (progT p).size then (⟨#[]⟩, 4) else (progT p, 0) := by unfold progF; rw [if_neg hokb, if_neg (by rw [hdeep]; simp)]
  by_cases hbig : 8192 < (progT p).size
  · have hbig2 : (8192 : Int) < (((bytesI (progT p)).map Brow).length : Int) := by omega
    rw [if_pos hbig] at e0
    refine am_ (R_ (M_ r_ (o_ r_ (cw_ 0 r_ r_ (fun hlen => o_ r_ (bz_ r_ r_ (T_ (aq_ r_ u_ (R_ (E_ r_ (E_ r_ (T_ (ar_ (aw_ (jq_ret2 rfl rfl rfl [] rfl (fun K h => by rw [e0] at h; exact h))))))))))))))))
  · have hbig2 : ¬ (8192 : Int) < (((bytesI (progT p)).map Brow).length : Int) := by omega
    rw [if_neg hbig] at e0
    refine am_ (R_ (M_ r_ (o_ r_ (cw_ 0 r_ r_ (fun hlen => o_ r_ (bz_ r_ r_ (T_ (ap_ r_ w_ (as_ (al_ (R_ (M_ r_ (jl_freeze 264 0 rfl rfl (by rw [hc]; simp [hb]) (o_ r_ (ow_bytesToString r_ r_ r_ ?_)))))))))))))))
    rw [bytesOf_bytesI]
    refine E_ r_ (E_ r_ (T_ (ar_ (jq_ret2 rfl rfl rfl [] rfl (fun K h => by rw [e0] at h; exact h)))))
end Go.Proofs.YtlniadfidfmckaaGreatDoor
end

section
namespace Go.Proofs.YtlniadfidfmckaaGreatDoor
set_option maxRecDepth 100000
def laysJoin_ren : Go.Shelf.Ren := ⟨fun | 156 => 50 | 165 => 80 | 166 => 48 | 169 => 25 | 240 => 77 | 241 => 109 | 276 => 105 | 277 => 128 | n => n, fun | 0 => 0 | 3 => 3 | 4 => 4 | 5 => 5 | 9 => 9 | 20 => 20 | 31 => 27 | 37 => 73 | 70 => 72 | 72 => 75 | 75 => 115 | 76 => 116 | 80 => 84 | 127 => 121 | 164 => 160 | n => n, fun  | n => n⟩
theorem laysJoin : Go.Proofs.Lays.n156 Tryz.prog laysJoin_ren := {
  mixed := by kernel_rfl,
  f156 := Tryz.func50.trans (congrArg some (by kernel_rfl)),
  f165 := Tryz.func80.trans (congrArg some (by kernel_rfl)),
  f166 := Tryz.func48.trans (congrArg some (by kernel_rfl)),
  f169 := Tryz.func25.trans (congrArg some (by kernel_rfl)),
  f240 := Tryz.func77.trans (congrArg some (by kernel_rfl)),
  f241 := Tryz.func109.trans (congrArg some (by kernel_rfl)),
  f276 := Tryz.func105.trans (congrArg some (by kernel_rfl)),
  f277 := Tryz.func128.trans (congrArg some (by kernel_rfl)),
  t0 := Tryz.underlying0,
  a0 := Tryz.isAgg0,
  z0 := Tryz.sizeOf0,
  v0 := Tryz.zeroValue0,
  t3 := Tryz.underlying3,
  a3 := Tryz.isAgg3,
  z3 := Tryz.sizeOf3,
  v3 := Tryz.zeroValue3,
  t4 := Tryz.underlying4,
  a4 := Tryz.isAgg4,
  z4 := Tryz.sizeOf4,
  v4 := Tryz.zeroValue4,
  t9 := Tryz.underlying9,
  a9 := Tryz.isAgg9,
  z9 := Tryz.sizeOf9,
  v9 := Tryz.zeroValue9,
  t20 := Tryz.underlying20,
  a20 := Tryz.isAgg20,
  z20 := Tryz.sizeOf20,
  v20 := Tryz.zeroValue20,
  t31 := Tryz.underlying27,
  a31 := Tryz.isAgg27,
  z31 := Tryz.sizeOf27,
  v31 := Tryz.zeroValue27,
  t37 := Tryz.underlying73,
  a37 := Tryz.isAgg73,
  z37 := Tryz.sizeOf73,
  v37 := Tryz.zeroValue73,
  t70 := Tryz.underlying72,
  a70 := Tryz.isAgg72,
  z70 := Tryz.sizeOf72,
  v70 := Tryz.zeroValue72,
  t72 := Tryz.underlying75,
  a72 := Tryz.isAgg75,
  z72 := Tryz.sizeOf75,
  v72 := Tryz.zeroValue75,
  t75 := Tryz.underlying115,
  a75 := Tryz.isAgg115,
  z75 := Tryz.sizeOf115,
  v75 := Tryz.zeroValue115,
  t76 := Tryz.underlying116,
  a76 := Tryz.isAgg116,
  z76 := Tryz.sizeOf116,
  v76 := Tryz.zeroValue116,
  t127 := Tryz.underlying121,
  a127 := Tryz.isAgg121,
  z127 := Tryz.sizeOf121,
  v127 := Tryz.zeroValue121,
  t164 := Tryz.underlying160,
  a164 := Tryz.isAgg160,
  z164 := Tryz.sizeOf160,
  v164 := Tryz.zeroValue160 }
theorem laysJoinX : Go.Proofs.Builder.Extra Tryz.prog laysJoin_ren := {
  sizeBuilder := by kernel_rfl,
  liesBuilder := by kernel_rfl,
  t5 := Tryz.underlying5,
  a5 := Tryz.isAgg5,
  z5 := Tryz.sizeOf5,
  v5 := Tryz.zeroValue5,
  infoByte := by kernel_rfl,
  cellsByte := by kernel_rfl,
  sizeByte := by kernel_rfl,
  neB5 := by decide }
def laysRepeat_ren : Go.Shelf.Ren := ⟨fun | 99 => 79 | 105 => 49 | 165 => 80 | 166 => 48 | 169 => 25 | 170 => 24 | 206 => 108 | 212 => 78 | 240 => 77 | 241 => 109 | 263 => 106 | 264 => 107 | 276 => 105 | 277 => 128 | n => n, fun | 0 => 0 | 3 => 3 | 4 => 4 | 5 => 5 | 9 => 9 | 20 => 20 | 37 => 73 | 46 => 104 | 51 => 162 | 53 => 165 | 70 => 72 | 72 => 75 | 75 => 115 | 76 => 116 | 80 => 84 | 109 => 139 | 127 => 121 | 146 => 163 | 148 => 166 | 164 => 160 | n => n, fun  | n => n⟩
theorem laysRepeat : Go.Proofs.Lays.n105 Tryz.prog laysRepeat_ren := {
  mixed := by kernel_rfl,
  f99 := Tryz.func79.trans (congrArg some (by kernel_rfl)),
  f105 := Tryz.func49.trans (congrArg some (by kernel_rfl)),
  f165 := Tryz.func80.trans (congrArg some (by kernel_rfl)),
  f166 := Tryz.func48.trans (congrArg some (by kernel_rfl)),
  f169 := Tryz.func25.trans (congrArg some (by kernel_rfl)),
  f170 := Tryz.func24.trans (congrArg some (by kernel_rfl)),
  f206 := Tryz.func108.trans (congrArg some (by kernel_rfl)),
  f212 := Tryz.func78.trans (congrArg some (by kernel_rfl)),
  f240 := Tryz.func77.trans (congrArg some (by kernel_rfl)),
  f241 := Tryz.func109.trans (congrArg some (by kernel_rfl)),
  f263 := Tryz.func106.trans (congrArg some (by kernel_rfl)),
  f264 := Tryz.func107.trans (congrArg some (by kernel_rfl)),
  f276 := Tryz.func105.trans (congrArg some (by kernel_rfl)),
  f277 := Tryz.func128.trans (congrArg some (by kernel_rfl)),
  t0 := Tryz.underlying0,
  a0 := Tryz.isAgg0,
  z0 := Tryz.sizeOf0,
  v0 := Tryz.zeroValue0,
  t3 := Tryz.underlying3,
  a3 := Tryz.isAgg3,
  z3 := Tryz.sizeOf3,
  v3 := Tryz.zeroValue3,
  t4 := Tryz.underlying4,
  a4 := Tryz.isAgg4,
  z4 := Tryz.sizeOf4,
  v4 := Tryz.zeroValue4,
  t5 := Tryz.underlying5,
  a5 := Tryz.isAgg5,
  z5 := Tryz.sizeOf5,
  v5 := Tryz.zeroValue5,
  t9 := Tryz.underlying9,
  a9 := Tryz.isAgg9,
  z9 := Tryz.sizeOf9,
  v9 := Tryz.zeroValue9,
  t20 := Tryz.underlying20,
  a20 := Tryz.isAgg20,
  z20 := Tryz.sizeOf20,
  v20 := Tryz.zeroValue20,
  t37 := Tryz.underlying73,
  a37 := Tryz.isAgg73,
  z37 := Tryz.sizeOf73,
  v37 := Tryz.zeroValue73,
  t46 := Tryz.underlying104,
  a46 := Tryz.isAgg104,
  z46 := Tryz.sizeOf104,
  v46 := Tryz.zeroValue104,
  t51 := Tryz.underlying162,
  a51 := Tryz.isAgg162,
  z51 := Tryz.sizeOf162,
  v51 := Tryz.zeroValue162,
  t53 := Tryz.underlying165,
  a53 := Tryz.isAgg165,
  z53 := Tryz.sizeOf165,
  v53 := Tryz.zeroValue165,
  t70 := Tryz.underlying72,
  a70 := Tryz.isAgg72,
  z70 := Tryz.sizeOf72,
  v70 := Tryz.zeroValue72,
  t72 := Tryz.underlying75,
  a72 := Tryz.isAgg75,
  z72 := Tryz.sizeOf75,
  v72 := Tryz.zeroValue75,
  t75 := Tryz.underlying115,
  a75 := Tryz.isAgg115,
  z75 := Tryz.sizeOf115,
  v75 := Tryz.zeroValue115,
  t76 := Tryz.underlying116,
  a76 := Tryz.isAgg116,
  z76 := Tryz.sizeOf116,
  v76 := Tryz.zeroValue116,
  t109 := Tryz.underlying139,
  a109 := Tryz.isAgg139,
  z109 := Tryz.sizeOf139,
  v109 := Tryz.zeroValue139,
  t127 := Tryz.underlying121,
  a127 := Tryz.isAgg121,
  z127 := Tryz.sizeOf121,
  v127 := Tryz.zeroValue121,
  t146 := Tryz.underlying163,
  a146 := Tryz.isAgg163,
  z146 := Tryz.sizeOf163,
  v146 := Tryz.zeroValue163,
  t148 := Tryz.underlying166,
  a148 := Tryz.isAgg166,
  z148 := Tryz.sizeOf166,
  v148 := Tryz.zeroValue166,
  t164 := Tryz.underlying160,
  a164 := Tryz.isAgg160,
  z164 := Tryz.sizeOf160,
  v164 := Tryz.zeroValue160 }
theorem laysRepeatX : Go.Proofs.Builder.Extra Tryz.prog laysRepeat_ren := {
  sizeBuilder := by kernel_rfl,
  liesBuilder := by kernel_rfl,
  t5 := Tryz.underlying5,
  a5 := Tryz.isAgg5,
  z5 := Tryz.sizeOf5,
  v5 := Tryz.zeroValue5,
  infoByte := by kernel_rfl,
  cellsByte := by kernel_rfl,
  sizeByte := by kernel_rfl,
  neB5 := by decide }
end Go.Proofs.YtlniadfidfmckaaGreatDoor
end

section
namespace Go.Proofs.YtlniadfidfmckaaGreatDoor
open Go.Vc
set_option maxHeartbeats 4000000
set_option maxRecDepth 20000

def spN : Nat → ByteArray
  | 0 => ⟨#[]⟩
  | n + 1 => spN n ++ Ksp
theorem spN_size : ∀ n, (spN n).size = 2 * n
  | 0 => rfl
  | n + 1 => by rw [spN, ByteArray.size_append, spN_size n]; show _ + 2 = _; omega
theorem spN_rep : ∀ n : Nat, (⟨(Lib.repeatL [32, 32] n).toArray⟩ : ByteArray) = spN n
  | 0 => rfl
  | n + 1 => by
    rw [spN, ← spN_rep n, Lib.repeatL_add, Lib.repeatL_one]
    apply ByteArray.ext
    simp
/-- Words with a space between them. -/
def joinB : List ByteArray → ByteArray
  | [] => ⟨#[]⟩
  | [x] => x
  | x :: y :: l => x ++ (⟨#[32]⟩ : ByteArray) ++ joinB (y :: l)
theorem joinB_lib : ∀ l : List ByteArray, (⟨(Lib.join (l.map (·.data.toList)) [32]).toArray⟩ : ByteArray) = joinB l
  | [] => rfl
  | [x] => by
    simp only [List.map_cons, List.map_nil, Lib.join_one, joinB]
  | x :: y :: l => by
    have ih := joinB_lib (y :: l)
    rw [joinB, ← ih]
    simp only [List.map_cons, Lib.join_cons]
    apply ByteArray.ext
    simp [Lib.joinTail]
theorem repeat_c (n : Nat) (hn : n ≤ 1000) : Con Tryz.prog 49 [.cell (.val (.string Ksp)), In .i64 (n : Int)] [] (fun K => K (Str (spN n)) []) := by
  rintro vs w A _ _ _ ⟨v, r, rfl, ⟨rfl, _⟩, v2, r2, rfl, ⟨rfl, _⟩, hr⟩ _ _
  simp only [SOks] at hr
  subst hr
  refine (Any.strings_Repeat laysRepeat laysRepeatX Ksp n w g_ (by show 2 * n ≤ _; omega)).mono ?_
  rintro e w' ⟨rfl, hb⟩
  exact ⟨_, _, [], rfl, fun K h => h, ⟨congrArg Value.string (spN_rep n), rfl⟩, by simp, by simp [Go.Vc.hb], by simp [Go.Vc.hb], ⟨hb.os, hb.tape, hb.output, hb.size, fun k hk _ => hb.block k hk⟩⟩
theorem wrow_cells {w : World} {A : Nat → Prop} {k : Nat} : ∀ {L : List ByteArray} {vs : List Value}, RdRows w A k (L.map Wrow) vs → vs = L.map Value.string
  | [], vs, h => by simpa [RdRows] using h
  | n :: L, vs, h => by
    obtain ⟨cc, r, rfl, _, h2, h3⟩ := h
    obtain ⟨v, r', rfl, h4, h5⟩ := h2
    simp only [RdRow] at h5
    subst h5
    rw [wrow_cells h3]
    obtain ⟨rfl, _⟩ := h4
    rfl
theorem join_c (L : List ByteArray) (hL : L ≠ []) (hl : L.length ≤ 1000) (hn : (joinB L).size ≤ 140737488355328) : Con Tryz.prog 50 [.cell (.list (L.map Wrow)), .cell (.val (.string ⟨#[32]⟩))] [] (fun K => K (Str (joinB L)) []) := by
  have hlen : (L.map Wrow).length = L.length := List.length_map _
  rintro vs w A _ _ _ ⟨v, r, rfl, ⟨a, cap, rfl, h1, h2, h3⟩, v2, r2, rfl, ⟨rfl, _⟩, hr⟩ _ _
  simp only [SOks] at hr
  subst hr
  have h0 : L.length ≠ 0 := fun h => hL (List.eq_nil_of_length_eq_zero h)
  rcases h3 with h3 | ⟨b, off, vs, k, rfl, _, hc, hk, hrd⟩
  · omega
  have hvs := wrow_cells hrd
  have hjl : (Lib.join (L.map (·.data.toList)) [32]).length = (joinB L).size := by
    rw [← joinB_lib]
    show _ = (Lib.join (L.map (·.data.toList)) [32]).toArray.size
    simp
  have hbk : b < w.heap.size := cells_lt hc (by rw [hvs, List.length_map]; omega)
  rw [hlen] at h1 ⊢
  refine (Any.strings_Join laysJoin laysJoinX b off cap L ⟨#[32]⟩ w (fun j x hx => hc j _ (by rw [hvs, List.getElem?_map, hx]; rfl)) hbk (by unfold maxLen at h2; omega) h1 (by show (Lib.join (L.map (·.data.toList)) [32]).length ≤ _; omega)).mono ?_
  rintro e w' ⟨rfl, hb⟩
  exact ⟨_, _, [], rfl, fun K h => h, ⟨congrArg Value.string (joinB_lib L), rfl⟩, by simp, by simp [Go.Vc.hb], by simp [Go.Vc.hb], ⟨hb.os, hb.tape, hb.output, hb.size, fun k hk _ => hb.block k hk⟩⟩

attribute [local irreducible] JL JC JQ OpWp Con ConN HOk
/-- The writer's block: its own address once it was used, and its bytes. -/
abbrev Wblk (b : Nat) (p : Option Addr) (v : Value) : Ch := .blk b 77 [.val (.pointer p), .val v]
abbrev Wptr (b : Nat) : S := .cell (.val (.pointer (some ⟨b, 0, none⟩)))
def WP (b : Nat) (p : Option Addr) : Prop := p = none ∨ p = some ⟨b, 0, none⟩
theorem noEscape_run (v : Value) (w : World) : (callFunc 105 #[v]).run Tryz.prog w = .ok (.value v) w := by
  rw [run_callFunc_extern Tryz.func105 (by kernel_rfl) (by kernel_rfl) (by kernel_rfl) (e := Extern.AbiNoEscape.same) (by kernel_rfl), Lib.run_noEscape]
  rfl
theorem copyCheck_c (b : Nat) (v : Value) (p : Option Addr) (hp : WP b p) : Con Tryz.prog 77 [Wptr b] [Wblk b p v] (fun K => K (.tup []) [Wblk b (some ⟨b, 0, none⟩) v]) := by
  refine con_intro Tryz.func77 rfl rfl (Nat.le_of_ble_eq_true rfl) (fun c hc => ?_)
  rcases hp with rfl | rfl
  · refine R_ (M_ r_ (N_ r_ (F_ r_ (L_ 0 r_ (o_ r_ (ow_ptrNil r_ r_ r_ (T_ (aq_ r_ r_ (an_ (M_ r_ (M_ r_ (o_ r_ (ow_toUnsafe (te := 75) 0 rfl rfl (by decide) rfl rfl b_ (o_ r_ (ow_noEscape (noEscape_run _) r_ r_ (o_ r_ (ow_fromUnsafe (u := 75) 0 r_ r_ r_ r_ k_ (N_ r_ (F_ r_ ?_)))))))))))))))))))
    refine W_ 0 r_ (ak_ (jq_ret0 (.inr rfl) rfl [0] rfl (fun K h => h)))
  · refine R_ (M_ r_ (N_ r_ (F_ r_ (L_ 0 r_ (o_ r_ (ow_ptrNotNil r_ r_ r_ (T_ (ap_ r_ r_ (R_ (M_ r_ (N_ r_ (F_ r_ (L_ 0 r_ (M_ r_ (o_ r_ (ow_ptrSame (te := 75) r_ r_ r_ (T_ ?_)))))))))))))))))
    refine ap_ r_ r_ (as_ (jq_ret0 (.inr rfl) rfl [0] rfl (fun K h => h)))
theorem writeString_c (b : Nat) (v : Value) (p : Option Addr) (X s : ByteArray) (hp : WP b p) (hX : X.size + s.size ≤ 140737488355328) : Con Tryz.prog 48 [Wptr b, Str s] [Wblk b p v, Bw v X]
    (fun K => ∀ v' : Value, True → K (.tup [In .i64 s.size, .cell (.val .nilIface)]) [Wblk b (some ⟨b, 0, none⟩) v', Bw v' (X ++ s)]) := by
  have hcc := copyCheck_c b v p hp
  refine con_intro Tryz.func48 rfl rfl (Nat.le_of_ble_eq_true rfl) (fun c hc => R_ (E_ r_ (E_ r_ (T_ (R_ (M_ r_ (o_ r_ (bi_ [0] r_ r_ (hcc) (T_ (R_ (M_ r_ (M_ r_ (N_ r_ (F_ r_ (L_ 0 r_ (M_ r_ ?_))))))))))))))))
  refine o_ r_ (ow_appendS 1 rfl rfl rfl rfl rfl rfl rfl rfl g_ (fun v1 _ => N_ r_ (F_ r_ (W_ 1 r_ (T_ (R_ (M_ r_ (o_ r_ (co_ r_ r_ (E_ r_ (E_ r_ (T_ (ar_ (jq_ret2 rfl rfl rfl [0, 0] rfl (fun K h => h _ trivial)))))))))))))))
theorem builderLen_c (b : Nat) (p : Option Addr) (v : Value) (X : ByteArray) : Con Tryz.prog 24 [Wptr b] [Wblk b p v, Bw v X] (fun K => K (In .i64 (X.size : Int)) [Wblk b p v, Bw v X]) := by
  have hl : ((bytesI X).map Brow).length = X.size := by rw [List.length_map, bytesI_len]
  refine con_intro Tryz.func24 rfl rfl (Nat.le_of_ble_eq_true rfl) (fun c hc => R_ (E_ r_ (T_ (R_ (M_ r_ (N_ r_ (F_ r_ (L_ 0 r_ (o_ r_ (cw_ 1 r_ r_ (fun hlen => E_ r_ (T_ (ar_ (jq_ret1 rfl rfl [0, 0] rfl (fun K h => by rw [← hl] at h; exact h)))))))))))))))
theorem builderString_c (b : Nat) (p : Option Addr) (v : Value) (X : ByteArray) (h0 : 0 < X.size) (h63 : X.size ≤ 140737488355328) : Con Tryz.prog 25 [Wptr b] [Wblk b p v, Bw v X] (fun K => K (Str X) [Wblk b p v]) := by
  have hl : ((bytesI X).map Brow).length = X.size := by rw [List.length_map, bytesI_len]
  refine con_intro Tryz.func25 rfl rfl (Nat.le_of_ble_eq_true rfl) (fun c hc => jc_ownSome 1 rfl g_ (fun g cap hv h1 h2 => ?_))
  rw [hl] at hv h1
  subst hv
  refine R_ (E_ r_ (T_ (am_ (jc_hpV 11 (n := 12) rfl 0 [.pointer p, .slice (some ⟨g, 0, none⟩) X.size cap] k_ rfl rfl (df_ (i := 0) rfl k_ k_ k_ b_ (by (repeat (first | refine pani_then ?_ | refine pani_block ?_)); exact pani_body) (dk_ rfl) ?_)))))
  refine df_ (i := 1) rfl k_ k_ k_ b_ (by (repeat (first | refine pani_then ?_ | refine pani_block ?_)); exact pani_body) (dr_ rfl) ?_
  refine df_ (i := 2) rfl k_ k_ k_ b_ (by (repeat (first | refine pani_then ?_ | refine pani_block ?_)); exact pani_body) (dl_ rfl rfl rfl b_) ?_
  refine df_ (i := 3) rfl k_ k_ k_ b_ (by (repeat (first | refine pani_then ?_ | refine pani_block ?_)); exact pani_body) (dm_ 0 rfl rfl rfl mem0 rfl) ?_
  refine df_ (i := 4) rfl k_ k_ k_ b_ (by (repeat (first | refine pani_then ?_ | refine pani_block ?_)); exact pani_body) (hok_sliceData rfl g_) ?_
  refine df_ (i := 5) rfl k_ k_ k_ b_ (by (repeat (first | refine pani_then ?_ | refine pani_block ?_)); exact pani_body) (dk_ rfl) ?_
  refine df_ (i := 6) rfl k_ k_ k_ b_ (by (repeat (first | refine pani_then ?_ | refine pani_block ?_)); exact pani_body) (dr_ rfl) ?_
  refine df_ (i := 7) rfl k_ k_ k_ b_ (by (repeat (first | refine pani_then ?_ | refine pani_block ?_)); exact pani_body) (dl_ rfl rfl rfl b_) ?_
  refine df_ (i := 8) rfl k_ k_ k_ b_ (by (repeat (first | refine pani_then ?_ | refine pani_block ?_)); exact pani_body) (dm_ 0 rfl rfl rfl mem0 rfl) ?_
  refine df_ (i := 9) rfl k_ k_ k_ b_ (by (repeat (first | refine pani_then ?_ | refine pani_block ?_)); exact pani_body) (hok_lenV rfl g_) ?_
  refine dg_ (i := 10) r_ k_ b_ (ow_unsafeString 1 r_ r_ r_ r_ r_ r_ h0 g_ ⟨?_, ?_⟩)
  exact keep1 0 rfl
  refine hp_tail (di_ (i := 11) rfl k_ b_ (by decide) (be_ rfl (ht_done k_ (al_ (ar_ (jq_ret1 rfl rfl [0] rfl (fun K h => h)))))))
theorem builderString0_c (b : Nat) (p : Option Addr) : Con Tryz.prog 25 [Wptr b] [Wblk b p NilV, Bw NilV ⟨#[]⟩] (fun K => K (Str ⟨#[]⟩) [Wblk b p NilV]) := by
  refine con_intro Tryz.func25 rfl rfl (Nat.le_of_ble_eq_true rfl) (fun c hc => R_ (E_ r_ (T_ (am_ (jc_hpV 11 (n := 12) rfl 0 [.pointer p, .slice none 0 0] k_ rfl rfl (df_ (i := 0) rfl k_ k_ k_ b_ (by (repeat (first | refine pani_then ?_ | refine pani_block ?_)); exact pani_body) (dk_ rfl) ?_))))))
  refine df_ (i := 1) rfl k_ k_ k_ b_ (by (repeat (first | refine pani_then ?_ | refine pani_block ?_)); exact pani_body) (dr_ rfl) ?_
  refine df_ (i := 2) rfl k_ k_ k_ b_ (by (repeat (first | refine pani_then ?_ | refine pani_block ?_)); exact pani_body) (dl_ rfl rfl rfl b_) ?_
  refine df_ (i := 3) rfl k_ k_ k_ b_ (by (repeat (first | refine pani_then ?_ | refine pani_block ?_)); exact pani_body) (dm_ 0 rfl rfl rfl mem0 rfl) ?_
  refine df_ (i := 4) rfl k_ k_ k_ b_ (by (repeat (first | refine pani_then ?_ | refine pani_block ?_)); exact pani_body) (hok_sliceDataNil rfl) ?_
  refine df_ (i := 5) rfl k_ k_ k_ b_ (by (repeat (first | refine pani_then ?_ | refine pani_block ?_)); exact pani_body) (dk_ rfl) ?_
  refine df_ (i := 6) rfl k_ k_ k_ b_ (by (repeat (first | refine pani_then ?_ | refine pani_block ?_)); exact pani_body) (dr_ rfl) ?_
  refine df_ (i := 7) rfl k_ k_ k_ b_ (by (repeat (first | refine pani_then ?_ | refine pani_block ?_)); exact pani_body) (dl_ rfl rfl rfl b_) ?_
  refine df_ (i := 8) rfl k_ k_ k_ b_ (by (repeat (first | refine pani_then ?_ | refine pani_block ?_)); exact pani_body) (dm_ 0 rfl rfl rfl mem0 rfl) ?_
  refine df_ (i := 9) rfl k_ k_ k_ b_ (by (repeat (first | refine pani_then ?_ | refine pani_block ?_)); exact pani_body) (hok_lenV rfl g_) ?_
  refine dg_ (i := 10) r_ k_ b_ (ow_unsafeString0 r_ r_ ⟨?_, ?_⟩)
  exact keep1 0 rfl
  refine hp_tail (di_ (i := 11) rfl k_ b_ (by decide) (be_ rfl (ht_done k_ (al_ (ar_ (jq_ret1 rfl rfl [0] rfl (fun K h => h)))))))
/-- A line, within n blocks. -/
def lnT (n : Nat) (L : List ByteArray) : ByteArray := (spN n ++ joinB L) ++ (⟨#[10]⟩ : ByteArray)
theorem line_c (b : Nat) (v : Value) (p : Option Addr) (X : ByteArray) (n : Nat) (L : List ByteArray) (hp : WP b p) (hn : n ≤ 1000) (hL : L ≠ []) (hl : L.length ≤ 1000) (hj : (joinB L).size ≤ 100000000) (hX : X.size ≤ 140000000000000) :
    Con Tryz.prog 21 [Wptr b, In .i64 (n : Int), .cell (.list (L.map Wrow))] [Wblk b p v, Bw v X]
      (fun K => ∀ v' : Value, True → K (.tup []) [Wblk b (some ⟨b, 0, none⟩) v', Bw v' (X ++ lnT n L)]) := by
  have hs := spN_size n
  have hR := repeat_c n hn
  have hJ := join_c L hL hl (by omega)
  have hsz : (lnT n L).size = (spN n).size + (joinB L).size + 1 := by unfold lnT; rw [ByteArray.size_append, ByteArray.size_append]; rfl
  have hW := writeString_c b v p X (lnT n L) hp (by omega)
  refine con_intro Tryz.func21 rfl rfl (Nat.le_of_ble_eq_true rfl) (fun c hc => jc_anyB 9 none rfl k_ k_ (yM_ r_ (yN_ r_ (yF_ r_ (yM_ r_ (aa_ (fun c => bm_ r_ (hR) p_) (yM_ r_ (aa_ (fun c => bm_ r_ (hJ) p_) (aa_ (fun c => ow_strcat r_ r_ g_ p_) (aa_ (fun c => ow_strcat rfl rfl (by simp only [ByteArray.size_append, ba_lit, List.length_cons, List.length_nil] ; omega) p_) (ae_ (afin_none ?_))))))))))))
  refine o_ r_ (bt_ [0, 0] rfl rfl (hW) (fun pp hpp => ak_ ?_))
  trace_state
  refine jq_ret0 (.inr rfl) rfl [0, 0] rfl (fun K h => h _ trivial)
end Go.Proofs.YtlniadfidfmckaaGreatDoor
end

section
namespace Go.Proofs.YtlniadfidfmckaaGreatDoor
open Go.Vc
attribute [local irreducible] JL JC JQ OpWp Con ConN HOk
attribute [local irreducible] nameB plainB smallB shpF okSs rightB
set_option maxHeartbeats 4000000

def declB (t : Tk) : Bool := hdB t && t.inputs.all inB && t.vars.all nameB && t.arrays.all arB && t.modes.all mdB && t.claims.all clB
theorem okTk_decl (t : Tk) : okTk t = (declB t && okSs 20 t.body) := by
  unfold okTk declB
  cases hdB t <;> cases okSs 20 t.body <;> simp
theorem all_step {α : Type} {p : α → Bool} {l : List α} {k : Nat} {z : Bool} (h : k < l.length) : (z && (l.take (k + 1)).all p) = ((z && (l.take k).all p) && p l[k]) := by
  rw [List.take_succ_eq_append_getElem h, List.all_append, Bool.and_assoc]
  simp
theorem declared_c (t : Tk) : Con Tryz.prog 42 [.row t.row] [] (fun K => K (Bl (declB t)) []) := by
  have hres : declB t = (((((hdB t && t.inputs.all inB) && t.vars.all nameB) && t.arrays.all arB) && t.modes.all mdB) && t.claims.all clB) := rfl
  refine con_intro Tryz.func42 rfl rfl (Nat.le_of_ble_eq_true rfl) (fun c hc => R_ (o_ r_ (ci_ r_ (fun bx => E_ r_ (T_ (R_ (F_ r_ (L_ 0 r_ (o_ r_ (bm_ r_ (namedB_c _) (M_ r_ (jl_and 10 3 rfl rfl rfl rfl (nb rfl) ?_))))))))))))
  apply Exists.intro
  refine ⟨fun hb1 => ?_, ?_⟩
  exact ah_ r_ h_ b_ (bf_ r_ r_ r_ b_ (ah_ r_ h_ b_ (bg_ 0 r_ r_ r_ r_ (ah_ r_ h_ b_ (bf_ r_ r_ r_ b_ (ah_ r_ h_ b_ (bg_ 0 r_ r_ r_ r_ (ah_ r_ h_ b_ (bf_ r_ r_ r_ b_ (ah_ r_ h_ b_ (bg_ 0 r_ r_ r_ r_ (ah_ r_ h_ b_ (bf_ r_ r_ r_ b_ (ah_ r_ h_ b_ (bg_ 0 r_ r_ r_ r_ (ah_ r_ h_ b_ (bq_ r_ r_ b_ r_ r_ b_ (ah_ r_ h_ b_ (bm_ r_ (plainL_c [t.period, t.deadline, t.priority, t.jitter]) (ak_ (jq_seg 10 rfl rfl rfl (List.Perm.refl _))))))))))))))))))))))
  refine E_ r_ (T_ (am_ (R_ (F_ r_ (L_ 0 r_ (o_ r_ (br_ r_ (fun hlen => M_ r_ (T_ ?_)))))))))
  have hz0 : (nameB t.name && [t.period, t.deadline, t.priority, t.jitter].all plainB) = hdB t := by simp [hdB, Bool.and_assoc]
  rw [hz0]
  rw [hres]
  clear hres
  generalize hz1 : hdB t = z0 at *
  refine au_ ?_
  have eL0 : ((t.inputs).map InRow).length = (t.inputs).length := List.length_map _
  refine jc_loopS (ι := Nat) [] (fun k => k ≤ (t.inputs).length) (fun k => [(1, .cell (.val (.pointer (some ⟨bx, 0, none⟩)))), (3, Bl (z0 && ((t.inputs).take k).all inB)), (30, .cell (.list ((t.inputs).map InRow))), (31, In .i64 (((t.inputs).map InRow).length : Int)), (32, In .i64 (k : Int))]) (fun _ => [.blk bx 41 t.row]) (fun k => (t.inputs).length - k) 0 (Nat.zero_le _) ?_ ?_ ?_
  · exact bc_ 0 r_ sub_end
  · rw [show (z0 && ((t.inputs).take 0).all inB) = z0 by simp]
    (repeat (first | exact True.intro | refine ⟨rfl, ?_⟩))
  intro k hk
  by_cases hlt : k < (t.inputs).length
  · have hlt2 : (k : Int) < (((t.inputs).map InRow).length : Int) := by omega
    have e1 := all_step (p := inB) (z := z0) hlt
    generalize (z0 && ((t.inputs).take k).all inB) = zz at e1 ⊢
    refine R_ (o_ r_ (bw_ r_ r_ (T_ (am_ (aq_ r_ u_ (as_ (al_ (B_ (R_ (o_ r_ (cc_ r_ r_ g_ r_ r_ b_ (o_ r_ (cr_ r_ r_ r_ (o_ r_ (bl_ r_ r_ (fun bl => S_ 0 r_ (T_ (an_ (M_ r_ ?_)))))))))))))))))))
    refine M_ r_ (jl_and 3 1 rfl rfl rfl rfl (nb rfl) ?_)
    apply Exists.intro
    refine ⟨fun hb1 => ?_, ?_⟩
    exact ah_ r_ h_ b_ (bf_ r_ r_ r_ b_ (ah_ r_ h_ b_ (bg_ 0 r_ r_ r_ r_ (ah_ r_ h_ b_ (bm_ r_ (namedB_c _) (ak_ (jq_seg 3 rfl rfl rfl (List.Perm.refl _))))))))
    refine M_ r_ (jl_and 6 6 rfl rfl rfl rfl (nb rfl) ?_)
    apply Exists.intro
    refine ⟨fun hb1 => ?_, ?_⟩
    exact ah_ r_ h_ b_ (bf_ r_ r_ r_ b_ (ah_ r_ h_ b_ (bg_ 0 r_ r_ r_ r_ (ah_ r_ h_ b_ (bf_ r_ r_ r_ b_ (ah_ r_ h_ b_ (bg_ 0 r_ r_ r_ r_ (ah_ r_ h_ b_ (bq_ r_ r_ b_ r_ r_ b_ (ah_ r_ h_ b_ (bm_ r_ (signedL_c [(t.inputs[k]).2.1, (t.inputs[k]).2.2]) (ak_ (jq_seg 6 rfl rfl rfl (List.Perm.refl _))))))))))))))
    refine E_ r_ (ak_ (ay_ (al_ (an_ (o_ r_ (bj_ r_ r_ g_ (M_ r_ (ak_ (jq_bl 3 rfl (b' := zz && inB (t.inputs)[k]) (by simp [inB, Bool.and_assoc]) (jq_againS (k + 1) hlt g_ ?_ ?_))))))))))
    · exact bc_ 1 r_ sub_end
    · rw [e1]
      (repeat (first | exact True.intro | refine ⟨rfl, ?_⟩))
  have hlt2 : ¬ (k : Int) < (((t.inputs).map InRow).length : Int) := by omega
  rw [List.take_of_length_le (show (t.inputs).length ≤ k by omega)]
  clear hlt hk
  refine R_ (o_ r_ (bw_ r_ r_ (T_ (am_ (ap_ r_ w_ (av_ (ax_ (ax_ (ba_ (al_ (am_ (R_ (F_ r_ (L_ 0 r_ (o_ r_ (br_ r_ (fun hlen => M_ r_ ?_)))))))))))))))))
  refine T_ ?_
  generalize hz2 : (z0 && (t.inputs).all inB) = z1 at *
  refine au_ ?_
  have eL1 : ((t.vars).map Wrow).length = (t.vars).length := List.length_map _
  refine jc_loopS (ι := Nat) [] (fun k => k ≤ (t.vars).length) (fun k => [(1, .cell (.val (.pointer (some ⟨bx, 0, none⟩)))), (3, Bl (z1 && ((t.vars).take k).all nameB)), (52, .cell (.list ((t.vars).map Wrow))), (53, In .i64 (((t.vars).map Wrow).length : Int)), (54, In .i64 (k : Int))]) (fun _ => [.blk bx 41 t.row]) (fun k => (t.vars).length - k) 0 (Nat.zero_le _) ?_ ?_ ?_
  · exact bc_ 0 r_ sub_end
  · rw [show (z1 && ((t.vars).take 0).all nameB) = z1 by simp]
    (repeat (first | exact True.intro | refine ⟨rfl, ?_⟩))
  intro k hk
  by_cases hlt : k < (t.vars).length
  · have hlt2 : (k : Int) < (((t.vars).map Wrow).length : Int) := by omega
    have e1 := all_step (p := nameB) (z := z1) hlt
    generalize (z1 && ((t.vars).take k).all nameB) = zz at e1 ⊢
    refine R_ (o_ r_ (bw_ r_ r_ (T_ (am_ (aq_ r_ u_ (as_ (al_ (B_ (R_ (o_ r_ (cc_ r_ r_ g_ r_ r_ b_ (o_ r_ (cb_ r_ r_ (E_ r_ (T_ (an_ (M_ r_ (M_ r_ ?_))))))))))))))))))
    refine jl_and 2 1 rfl rfl rfl rfl (nb rfl) ?_
    apply Exists.intro
    refine ⟨fun hb1 => ?_, ?_⟩
    exact ah_ r_ h_ b_ (bd_ r_ (ah_ r_ h_ b_ (bm_ r_ (namedB_c _) (ak_ (jq_seg 2 rfl rfl rfl (List.Perm.refl _))))))
    refine E_ r_ (ak_ (ay_ (al_ (an_ (o_ r_ (bj_ r_ r_ g_ (M_ r_ (ak_ (jq_bl 3 rfl (b' := zz && nameB (t.vars)[k]) (rfl) (jq_againS (k + 1) hlt g_ ?_ ?_))))))))))
    · exact bc_ 0 r_ sub_end
    · rw [e1]
      (repeat (first | exact True.intro | refine ⟨rfl, ?_⟩))
  have hlt2 : ¬ (k : Int) < (((t.vars).map Wrow).length : Int) := by omega
  rw [List.take_of_length_le (show (t.vars).length ≤ k by omega)]
  clear hlt hk
  refine R_ (o_ r_ (bw_ r_ r_ (T_ (am_ (ap_ r_ w_ (av_ (ax_ (ax_ (ba_ (al_ (am_ (R_ (F_ r_ (L_ 0 r_ (o_ r_ (br_ r_ (fun hlen => M_ r_ ?_)))))))))))))))))
  refine T_ ?_
  generalize hz3 : (z1 && (t.vars).all nameB) = z2 at *
  refine au_ ?_
  have eL2 : ((t.arrays).map ArRow).length = (t.arrays).length := List.length_map _
  refine jc_loopS (ι := Nat) [] (fun k => k ≤ (t.arrays).length) (fun k => [(1, .cell (.val (.pointer (some ⟨bx, 0, none⟩)))), (3, Bl (z2 && ((t.arrays).take k).all arB)), (65, .cell (.list ((t.arrays).map ArRow))), (66, In .i64 (((t.arrays).map ArRow).length : Int)), (67, In .i64 (k : Int))]) (fun _ => [.blk bx 41 t.row]) (fun k => (t.arrays).length - k) 0 (Nat.zero_le _) ?_ ?_ ?_
  · exact bc_ 0 r_ sub_end
  · rw [show (z2 && ((t.arrays).take 0).all arB) = z2 by simp]
    (repeat (first | exact True.intro | refine ⟨rfl, ?_⟩))
  intro k hk
  by_cases hlt : k < (t.arrays).length
  · have hlt2 : (k : Int) < (((t.arrays).map ArRow).length : Int) := by omega
    have e1 := all_step (p := arB) (z := z2) hlt
    generalize (z2 && ((t.arrays).take k).all arB) = zz at e1 ⊢
    refine R_ (o_ r_ (bw_ r_ r_ (T_ (am_ (aq_ r_ u_ (as_ (al_ (B_ (R_ (o_ r_ (cc_ r_ r_ g_ r_ r_ b_ (o_ r_ (cr_ r_ r_ r_ (o_ r_ (bl_ r_ r_ (fun bl => S_ 0 r_ (T_ (an_ (M_ r_ ?_)))))))))))))))))))
    refine M_ r_ (jl_and 3 1 rfl rfl rfl rfl (nb rfl) ?_)
    apply Exists.intro
    refine ⟨fun hb1 => ?_, ?_⟩
    exact ah_ r_ h_ b_ (bf_ r_ r_ r_ b_ (ah_ r_ h_ b_ (bg_ 0 r_ r_ r_ r_ (ah_ r_ h_ b_ (bm_ r_ (namedB_c _) (ak_ (jq_seg 3 rfl rfl rfl (List.Perm.refl _))))))))
    refine M_ r_ (jl_and 4 6 rfl rfl rfl rfl (nb rfl) ?_)
    apply Exists.intro
    refine ⟨fun hb1 => ?_, ?_⟩
    exact ah_ r_ h_ b_ (bf_ r_ r_ r_ b_ (ah_ r_ h_ b_ (bg_ 0 r_ r_ r_ r_ (ah_ r_ h_ b_ (bq_ r_ r_ b_ r_ r_ b_ (ah_ r_ h_ b_ (bm_ r_ (plainL_c [(t.arrays[k]).2]) (ak_ (jq_seg 4 rfl rfl rfl (List.Perm.refl _))))))))))
    refine E_ r_ (ak_ (ay_ (al_ (an_ (o_ r_ (bj_ r_ r_ g_ (M_ r_ (ak_ (jq_bl 3 rfl (b' := zz && arB (t.arrays)[k]) (by simp [arB, Bool.and_assoc]) (jq_againS (k + 1) hlt g_ ?_ ?_))))))))))
    · exact bc_ 1 r_ sub_end
    · rw [e1]
      (repeat (first | exact True.intro | refine ⟨rfl, ?_⟩))
  have hlt2 : ¬ (k : Int) < (((t.arrays).map ArRow).length : Int) := by omega
  rw [List.take_of_length_le (show (t.arrays).length ≤ k by omega)]
  clear hlt hk
  refine R_ (o_ r_ (bw_ r_ r_ (T_ (am_ (ap_ r_ w_ (av_ (ax_ (ax_ (ba_ (al_ (am_ (R_ (F_ r_ (L_ 0 r_ (o_ r_ (br_ r_ (fun hlen => M_ r_ ?_)))))))))))))))))
  refine T_ ?_
  generalize hz4 : (z2 && (t.arrays).all arB) = z3 at *
  refine au_ ?_
  have eL3 : ((t.modes).map MdRow).length = (t.modes).length := List.length_map _
  refine jc_loopS (ι := Nat) [] (fun k => k ≤ (t.modes).length) (fun k => [(1, .cell (.val (.pointer (some ⟨bx, 0, none⟩)))), (3, Bl (z3 && ((t.modes).take k).all mdB)), (85, .cell (.list ((t.modes).map MdRow))), (86, In .i64 (((t.modes).map MdRow).length : Int)), (87, In .i64 (k : Int))]) (fun _ => [.blk bx 41 t.row]) (fun k => (t.modes).length - k) 0 (Nat.zero_le _) ?_ ?_ ?_
  · exact bc_ 0 r_ sub_end
  · rw [show (z3 && ((t.modes).take 0).all mdB) = z3 by simp]
    (repeat (first | exact True.intro | refine ⟨rfl, ?_⟩))
  intro k hk
  by_cases hlt : k < (t.modes).length
  · have hlt2 : (k : Int) < (((t.modes).map MdRow).length : Int) := by omega
    have e1 := all_step (p := mdB) (z := z3) hlt
    generalize (z3 && ((t.modes).take k).all mdB) = zz at e1 ⊢
    refine R_ (o_ r_ (bw_ r_ r_ (T_ (am_ (aq_ r_ u_ (as_ (al_ (B_ (R_ (o_ r_ (cc_ r_ r_ g_ r_ r_ b_ (o_ r_ (cr_ r_ r_ r_ (o_ r_ (bl_ r_ r_ (fun bl => S_ 0 r_ (T_ (an_ (M_ r_ ?_)))))))))))))))))))
    refine M_ r_ (jl_and 3 1 rfl rfl rfl rfl (nb rfl) ?_)
    apply Exists.intro
    refine ⟨fun hb1 => ?_, ?_⟩
    exact ah_ r_ h_ b_ (bf_ r_ r_ r_ b_ (ah_ r_ h_ b_ (bg_ 0 r_ r_ r_ r_ (ah_ r_ h_ b_ (bm_ r_ (namedB_c _) (ak_ (jq_seg 3 rfl rfl rfl (List.Perm.refl _))))))))
    refine M_ r_ (jl_and 3 6 rfl rfl rfl rfl (nb rfl) ?_)
    apply Exists.intro
    refine ⟨fun hb1 => ?_, ?_⟩
    exact ah_ r_ h_ b_ (bf_ r_ r_ r_ b_ (ah_ r_ h_ b_ (bg_ 0 r_ r_ r_ r_ (ah_ r_ h_ b_ (bm_ r_ (namedB_c _) (ak_ (jq_seg 3 rfl rfl rfl (List.Perm.refl _))))))))
    refine M_ r_ (jl_and 6 11 rfl rfl rfl rfl (nb rfl) ?_)
    apply Exists.intro
    refine ⟨fun hb1 => ?_, ?_⟩
    exact ah_ r_ h_ b_ (bf_ r_ r_ r_ b_ (ah_ r_ h_ b_ (bg_ 0 r_ r_ r_ r_ (ah_ r_ h_ b_ (bf_ r_ r_ r_ b_ (ah_ r_ h_ b_ (bg_ 0 r_ r_ r_ r_ (ah_ r_ h_ b_ (bq_ r_ r_ b_ r_ r_ b_ (ah_ r_ h_ b_ (bm_ r_ (signedL_c [(t.modes[k]).2.2.1, (t.modes[k]).2.2.2]) (ak_ (jq_seg 6 rfl rfl rfl (List.Perm.refl _))))))))))))))
    refine E_ r_ (ak_ (ay_ (al_ (an_ (o_ r_ (bj_ r_ r_ g_ (M_ r_ (ak_ (jq_bl 3 rfl (b' := zz && mdB (t.modes)[k]) (by simp [mdB, Bool.and_assoc]) (jq_againS (k + 1) hlt g_ ?_ ?_))))))))))
    · exact bc_ 1 r_ sub_end
    · rw [e1]
      (repeat (first | exact True.intro | refine ⟨rfl, ?_⟩))
  have hlt2 : ¬ (k : Int) < (((t.modes).map MdRow).length : Int) := by omega
  rw [List.take_of_length_le (show (t.modes).length ≤ k by omega)]
  clear hlt hk
  refine R_ (o_ r_ (bw_ r_ r_ (T_ (am_ (ap_ r_ w_ (av_ (ax_ (ax_ (ba_ (al_ (am_ (R_ (F_ r_ (L_ 0 r_ (o_ r_ (br_ r_ (fun hlen => M_ r_ ?_)))))))))))))))))
  refine T_ ?_
  generalize hz5 : (z3 && (t.modes).all mdB) = z4 at *
  refine au_ ?_
  have eL4 : ((t.claims).map ClRow).length = (t.claims).length := List.length_map _
  refine jc_loopS (ι := Nat) [] (fun k => k ≤ (t.claims).length) (fun k => [(1, .cell (.val (.pointer (some ⟨bx, 0, none⟩)))), (3, Bl (z4 && ((t.claims).take k).all clB)), (112, .cell (.list ((t.claims).map ClRow))), (113, In .i64 (((t.claims).map ClRow).length : Int)), (114, In .i64 (k : Int))]) (fun _ => [.blk bx 41 t.row]) (fun k => (t.claims).length - k) 0 (Nat.zero_le _) ?_ ?_ ?_
  · exact bc_ 0 r_ sub_end
  · rw [show (z4 && ((t.claims).take 0).all clB) = z4 by simp]
    (repeat (first | exact True.intro | refine ⟨rfl, ?_⟩))
  intro k hk
  by_cases hlt : k < (t.claims).length
  · have hlt2 : (k : Int) < (((t.claims).map ClRow).length : Int) := by omega
    have e1 := all_step (p := clB) (z := z4) hlt
    generalize (z4 && ((t.claims).take k).all clB) = zz at e1 ⊢
    refine R_ (o_ r_ (bw_ r_ r_ (T_ (am_ (aq_ r_ u_ (as_ (al_ (B_ (R_ (o_ r_ (cc_ r_ r_ g_ r_ r_ b_ (o_ r_ (cr_ r_ r_ r_ (o_ r_ (bl_ r_ r_ (fun bl => S_ 0 r_ (T_ (an_ (M_ r_ ?_)))))))))))))))))))
    refine M_ r_ (jl_and 6 1 rfl rfl rfl rfl (nb rfl) ?_)
    apply Exists.intro
    refine ⟨fun hb1 => ?_, ?_⟩
    exact ah_ r_ h_ b_ (bf_ r_ r_ r_ b_ (ah_ r_ h_ b_ (bg_ 0 r_ r_ r_ r_ (ah_ r_ h_ b_ (bf_ r_ r_ r_ b_ (ah_ r_ h_ b_ (bg_ 0 r_ r_ r_ r_ (ah_ r_ h_ b_ (bq_ r_ r_ b_ r_ r_ b_ (ah_ r_ h_ b_ (bm_ r_ (plainL_c [(t.claims[k]).1, (t.claims[k]).2]) (ak_ (jq_seg 6 rfl rfl rfl (List.Perm.refl _))))))))))))))
    refine E_ r_ (ak_ (ay_ (al_ (an_ (o_ r_ (bj_ r_ r_ g_ (M_ r_ (ak_ (jq_bl 3 rfl (b' := zz && clB (t.claims)[k]) (by simp [clB, Bool.and_assoc]) (jq_againS (k + 1) hlt g_ ?_ ?_))))))))))
    · exact bc_ 1 r_ sub_end
    · rw [e1]
      (repeat (first | exact True.intro | refine ⟨rfl, ?_⟩))
  have hlt2 : ¬ (k : Int) < (((t.claims).map ClRow).length : Int) := by omega
  rw [List.take_of_length_le (show (t.claims).length ≤ k by omega)]
  clear hlt hk
  refine R_ (o_ r_ (bw_ r_ r_ (T_ (am_ (ap_ r_ w_ (av_ (ax_ (ax_ (ba_ (al_ (R_ (M_ r_ (E_ r_ (T_ (ar_ (jq_ret1 rfl rfl [] rfl (fun K h => h)))))))))))))))))
theorem printable_c (p : Pg) (hls : ∀ t ∈ p.tasks, lsS 20 t.body) : Con Tryz.prog 19 [.row p.row] [] (fun K => K (Bl (okPg p)) []) := by
  refine con_intro Tryz.func19 rfl rfl (Nat.le_of_ble_eq_true rfl) (fun c hc => ?_)
  skip
  refine R_ (o_ r_ (ci_ r_ (fun bx => E_ r_ (T_ (am_ (jc_cut (ι := Unit) [] (fun _ => (p.res).all nameB = true) (fun _ => [(1, .cell (.val (.pointer (some ⟨bx, 0, none⟩))))]) (fun _ => [.blk bx 31 p.row]) ?_ ?_))))))
  · refine R_ (F_ r_ (L_ 0 r_ (o_ r_ (br_ r_ (fun hlen => M_ r_ (T_ (au_ ?_)))))))
    have eL : ((p.res).map Wrow).length = (p.res).length := List.length_map _
    refine jc_loopS (ι := Nat) [] (fun k => k ≤ (p.res).length ∧ ((p.res).take k).all nameB = true) (fun k => [(1, .cell (.val (.pointer (some ⟨bx, 0, none⟩)))), (10, .cell (.list ((p.res).map Wrow))), (11, In .i64 (((p.res).map Wrow).length : Int)), (12, In .i64 (k : Int))]) (fun _ => [.blk bx 31 p.row]) (fun k => (p.res).length - k) 0 ⟨Nat.zero_le _, rfl⟩ ?_ ?_ ?_
    · exact bc_ 0 r_ sub_end
    · (repeat (first | exact True.intro | refine ⟨rfl, ?_⟩))
    rintro k ⟨hk, hall⟩
    by_cases hlt : k < (p.res).length
    · have hlt2 : (k : Int) < (((p.res).map Wrow).length : Int) := by omega
      refine R_ (o_ r_ (bw_ r_ r_ (T_ (am_ (aq_ r_ u_ (as_ (al_ (B_ (R_ (o_ r_ (cc_ r_ r_ g_ r_ r_ b_ (o_ r_ (cb_ r_ r_ (E_ r_ (T_ (R_ (M_ r_ (o_ r_ (bm_ r_ (namedB_c _) ?_)))))))))))))))))))
      refine o_ r_ (cd_ r_ (T_ (jc_cond rfl (fun hn => ?_) (fun hy => ?_))))
      · have hp : nameB (p.res)[k] = false := by
          simpa using hn
        have hno : (p.res).all nameB = false := all_no hlt hp
        have hres : okPg p = false := by unfold okPg; simp [hno]
        refine R_ (E_ r_ (T_ (ar_ (az_ (aw_ (aw_ (az_ (aw_ (jq_ret1 rfl rfl [] rfl (fun K h => by rw [hres] at h; exact h))))))))))
      · have hp : nameB (p.res)[k] = true := by
          simpa using hy
        refine as_ (ay_ (al_ (an_ (o_ r_ (bj_ r_ r_ g_ (M_ r_ (ak_ (jq_againS (k + 1) ⟨hlt, all_snoc hlt hall hp⟩ g_ ?_ ?_))))))))
        · exact bc_ 0 r_ sub_end
        · (repeat (first | exact True.intro | refine ⟨rfl, ?_⟩))
    · have hlt2 : ¬ (k : Int) < (((p.res).map Wrow).length : Int) := by omega
      refine R_ (o_ r_ (bw_ r_ r_ (T_ (am_ (ap_ r_ w_ (av_ (ax_ (ax_ (ba_ (jq_cutS () (by rw [List.take_of_length_le g_] at hall; exact hall) ?_ ?_))))))))))
      · exact bc_ 0 r_ sub_end
      · (repeat (first | exact True.intro | refine ⟨rfl, ?_⟩))
  intro _ h1
  refine am_ (jc_cut (ι := Unit) [] (fun _ => (p.shared).all shB = true) (fun _ => [(1, .cell (.val (.pointer (some ⟨bx, 0, none⟩))))]) (fun _ => [.blk bx 31 p.row]) ?_ ?_)
  · refine R_ (F_ r_ (L_ 0 r_ (o_ r_ (br_ r_ (fun hlen => M_ r_ (T_ (au_ ?_)))))))
    have eL : ((p.shared).map ShRow).length = (p.shared).length := List.length_map _
    refine jc_loopS (ι := Nat) [] (fun k => k ≤ (p.shared).length ∧ ((p.shared).take k).all shB = true) (fun k => [(1, .cell (.val (.pointer (some ⟨bx, 0, none⟩)))), (21, .cell (.list ((p.shared).map ShRow))), (22, In .i64 (((p.shared).map ShRow).length : Int)), (23, In .i64 (k : Int))]) (fun _ => [.blk bx 31 p.row]) (fun k => (p.shared).length - k) 0 ⟨Nat.zero_le _, rfl⟩ ?_ ?_ ?_
    · exact bc_ 0 r_ sub_end
    · (repeat (first | exact True.intro | refine ⟨rfl, ?_⟩))
    rintro k ⟨hk, hall⟩
    by_cases hlt : k < (p.shared).length
    · have hlt2 : (k : Int) < (((p.shared).map ShRow).length : Int) := by omega
      refine R_ (o_ r_ (bw_ r_ r_ (T_ (am_ (aq_ r_ u_ (as_ (al_ (B_ (R_ (o_ r_ (cc_ r_ r_ g_ r_ r_ b_ (o_ r_ (cr_ r_ r_ r_ (o_ r_ (bl_ r_ r_ (fun bl => S_ 0 r_ (T_ (R_ (F_ r_ ?_)))))))))))))))))))
      refine F_ r_ (L_ 0 r_ (o_ r_ (bm_ r_ (namedB_c _) (o_ r_ (cd_ r_ (M_ r_ (jl_or 6 5 rfl rfl rfl rfl (nb rfl) ?_)))))))
      apply Exists.intro
      refine ⟨fun hb1 => ?_, ?_⟩
      exact ah_ r_ h_ b_ (bf_ r_ r_ r_ b_ (ah_ r_ h_ b_ (bf_ r_ r_ r_ b_ (ah_ r_ h_ b_ (bg_ 0 r_ r_ r_ r_ (ah_ r_ h_ b_ (bq_ r_ r_ b_ r_ r_ b_ (ah_ r_ h_ b_ (bm_ r_ (plainL_c [(p.shared[k]).2.1]) (ah_ r_ h_ b_ (cd_ r_ (ak_ (jq_seg 6 rfl rfl rfl (List.Perm.refl _))))))))))))))
      refine M_ r_ (jl_or 4 13 rfl rfl rfl rfl (nb rfl) ?_)
      apply Exists.intro
      refine ⟨fun hb1 => ?_, ?_⟩
      exact ah_ r_ h_ b_ (bf_ r_ r_ r_ b_ (ah_ r_ h_ b_ (bg_ 0 r_ r_ r_ r_ (ah_ r_ h_ b_ (bm_ r_ (namedB_c _) (ah_ r_ h_ b_ (cd_ r_ (ak_ (jq_seg 4 rfl rfl rfl (List.Perm.refl _))))))))))
      refine T_ (jc_cond rfl (fun hn => ?_) (fun hy => ?_))
      · have hp : shB (p.shared)[k] = false := by
          unfold shB; cases q1 : nameB (p.shared[k]).1 <;> cases q2 : plainB (p.shared[k]).2.1 <;> cases q3 : nameB (p.shared[k]).2.2 <;> simp_all
        have hno : (p.shared).all shB = false := all_no hlt hp
        have hres : okPg p = false := by unfold okPg; simp [hno]
        refine R_ (E_ r_ (T_ (ar_ (az_ (aw_ (aw_ (az_ (aw_ (jq_ret1 rfl rfl [] rfl (fun K h => by rw [hres] at h; exact h))))))))))
      · have hp : shB (p.shared)[k] = true := by
          unfold shB; cases q1 : nameB (p.shared[k]).1 <;> cases q2 : plainB (p.shared[k]).2.1 <;> cases q3 : nameB (p.shared[k]).2.2 <;> simp_all
        refine as_ (ay_ (al_ (an_ (o_ r_ (bj_ r_ r_ g_ (M_ r_ (ak_ (jq_againS (k + 1) ⟨hlt, all_snoc hlt hall hp⟩ g_ ?_ ?_))))))))
        · exact bc_ 1 r_ sub_end
        · (repeat (first | exact True.intro | refine ⟨rfl, ?_⟩))
    · have hlt2 : ¬ (k : Int) < (((p.shared).map ShRow).length : Int) := by omega
      refine R_ (o_ r_ (bw_ r_ r_ (T_ (am_ (ap_ r_ w_ (av_ (ax_ (ax_ (ba_ (jq_cutS () (by rw [List.take_of_length_le g_] at hall; exact hall) ?_ ?_))))))))))
      · exact bc_ 0 r_ sub_end
      · (repeat (first | exact True.intro | refine ⟨rfl, ?_⟩))
  intro _ h2
  refine am_ (jc_cut (ι := Unit) [] (fun _ => (p.tasks).all okTk = true) (fun _ => [(1, .cell (.val (.pointer (some ⟨bx, 0, none⟩))))]) (fun _ => [.blk bx 31 p.row]) ?_ ?_)
  · refine R_ (F_ r_ (L_ 0 r_ (o_ r_ (br_ r_ (fun hlen => M_ r_ (T_ (au_ ?_)))))))
    have eL : ((p.tasks).map Tk.row).length = (p.tasks).length := List.length_map _
    refine jc_loopS (ι := Nat) [] (fun k => k ≤ (p.tasks).length ∧ ((p.tasks).take k).all okTk = true) (fun k => [(1, .cell (.val (.pointer (some ⟨bx, 0, none⟩)))), (48, .cell (.list ((p.tasks).map Tk.row))), (49, In .i64 (((p.tasks).map Tk.row).length : Int)), (50, In .i64 (k : Int))]) (fun _ => [.blk bx 31 p.row]) (fun k => (p.tasks).length - k) 0 ⟨Nat.zero_le _, rfl⟩ ?_ ?_ ?_
    · exact bc_ 0 r_ sub_end
    · (repeat (first | exact True.intro | refine ⟨rfl, ?_⟩))
    rintro k ⟨hk, hall⟩
    by_cases hlt : k < (p.tasks).length
    · have hlt2 : (k : Int) < (((p.tasks).map Tk.row).length : Int) := by omega
      have hF := formed_c 20 (p.tasks[k]).body (by omega) (hls _ (List.getElem_mem hlt))
      refine R_ (o_ r_ (bw_ r_ r_ (T_ (am_ (aq_ r_ u_ (as_ (al_ (B_ (R_ (o_ r_ (cc_ r_ r_ g_ r_ r_ b_ (o_ r_ (cr_ r_ r_ r_ (o_ r_ (bl_ r_ r_ (fun bl => S_ 0 r_ (T_ (R_ (A_ 0 r_ ?_)))))))))))))))))))
      refine o_ r_ (bm_ r_ (declared_c _) (o_ r_ (cd_ r_ (M_ r_ (jl_or 4 3 rfl rfl rfl rfl (nb rfl) ?_)))))
      apply Exists.intro
      refine ⟨fun hb1 => ?_, ?_⟩
      exact ah_ r_ h_ b_ (bf_ r_ r_ r_ b_ (ah_ r_ h_ b_ (bg_ 0 r_ r_ r_ r_ (ah_ r_ h_ b_ (bm_ r_ (hF) (ah_ r_ h_ b_ (cd_ r_ (ak_ (jq_seg 4 rfl rfl rfl (List.Perm.refl _))))))))))
      refine T_ (jc_cond rfl (fun hn => ?_) (fun hy => ?_))
      · have hp : okTk (p.tasks)[k] = false := by
          rw [okTk_decl]; cases q1 : declB (p.tasks[k]) <;> cases q2 : okSs 20 (p.tasks[k]).body <;> simp_all
        have hno : (p.tasks).all okTk = false := all_no hlt hp
        have hres : okPg p = false := by unfold okPg; simp [hno]
        refine R_ (E_ r_ (T_ (ar_ (az_ (aw_ (aw_ (az_ (aw_ (jq_ret1 rfl rfl [] rfl (fun K h => by rw [hres] at h; exact h))))))))))
      · have hp : okTk (p.tasks)[k] = true := by
          rw [okTk_decl]; cases q1 : declB (p.tasks[k]) <;> cases q2 : okSs 20 (p.tasks[k]).body <;> simp_all
        refine as_ (ay_ (al_ (an_ (o_ r_ (bj_ r_ r_ g_ (M_ r_ (ak_ (jq_againS (k + 1) ⟨hlt, all_snoc hlt hall hp⟩ g_ ?_ ?_))))))))
        · exact bc_ 1 r_ sub_end
        · (repeat (first | exact True.intro | refine ⟨rfl, ?_⟩))
    · have hlt2 : ¬ (k : Int) < (((p.tasks).map Tk.row).length : Int) := by omega
      refine R_ (o_ r_ (bw_ r_ r_ (T_ (am_ (ap_ r_ w_ (av_ (ax_ (ax_ (ba_ (jq_cutS () (by rw [List.take_of_length_le g_] at hall; exact hall) ?_ ?_))))))))))
      · exact bc_ 0 r_ sub_end
      · (repeat (first | exact True.intro | refine ⟨rfl, ?_⟩))
  intro _ h3
  have hres : okPg p = true := by unfold okPg; rw [h1, h2, h3]; rfl
  refine R_ (E_ r_ (T_ (ar_ (jq_ret1 rfl rfl [] rfl (fun K h => by rw [hres] at h; exact h)))))
end Go.Proofs.YtlniadfidfmckaaGreatDoor
end

section
namespace Go.Proofs.YtlniadfidfmckaaGreatDoor
open Go.Vc
attribute [local irreducible] JL JC JQ OpWp Con ConN HOk
attribute [local irreducible] nameB plainB smallB shpF okSs rightB
set_option maxHeartbeats 4000000

def mxS (f : Sm → Nat) (l : List Sm) : Nat := l.foldl (fun m s => max m (f s)) 0
theorem mxS_snoc (f : Sm → Nat) (l : List Sm) (s : Sm) : mxS f (l ++ [s]) = max (mxS f l) (f s) := by simp [mxS]
theorem mxS_take {f : Sm → Nat} {l : List Sm} {k : Nat} (h : k < l.length) : mxS f (l.take (k + 1)) = max (mxS f (l.take k)) (f l[k]) := by
  rw [List.take_succ_eq_append_getElem h, mxS_snoc]
theorem mxS_lt {f : Sm → Nat} {n : Nat} : ∀ {l : List Sm}, n < mxS f l ↔ ∃ s ∈ l, n < f s := by
  intro l
  unfold mxS
  have : ∀ (l : List Sm) (m : Nat), n < l.foldl (fun m s => max m (f s)) m ↔ n < m ∨ ∃ s ∈ l, n < f s := by
    intro l
    induction l with
    | nil => intro m; simp
    | cons a l ih =>
      intro m
      rw [List.foldl_cons, ih]
      constructor
      · rintro (h | ⟨s, hs, h⟩)
        · by_cases h1 : n < m
          · exact .inl h1
          · exact .inr ⟨a, by simp, by omega⟩
        · exact .inr ⟨s, by simp [hs], h⟩
      · rintro (h | ⟨s, hs, h⟩)
        · exact .inl g_
        · rcases List.mem_cons.1 hs with rfl | hs
          · exact .inl g_
          · exact .inr ⟨s, hs, h⟩
  rw [this]
  simp
def tdOne (rec : List Sm → Nat) (s : Sm) : Nat := 1 + max (rec s.thn) (rec s.els)
def tdS : Nat → List Sm → Nat
  | 0, l => mxS (fun _ => 1) l
  | L + 1, l => mxS (tdOne (tdS L)) l
theorem tdS_le : ∀ (L : Nat) (l : List Sm), tdS L l ≤ L + 1
  | 0, l => by
    have h : ¬ 1 < tdS 0 l := by unfold tdS; rw [mxS_lt]; simp
    omega
  | L + 1, l => by
    have h : ¬ L + 2 < tdS (L + 1) l := by
      unfold tdS
      rw [mxS_lt]
      rintro ⟨s, _, h⟩
      unfold tdOne at h
      have := tdS_le L s.thn
      have := tdS_le L s.els
      omega
    omega
def DeepP (L : Nat) : Prop := ∀ l : List Sm, Con Tryz.prog 44 [.cell (.list (l.map Sm.row)), In .i64 (L : Int)] [] (fun K => K (In .i64 (tdS L l : Int)) [])
theorem deep_zero : DeepP 0 := by
  intro l
  have eL : (l.map Sm.row).length = l.length := List.length_map _
  refine con_intro Tryz.func44 rfl rfl (Nat.le_of_ble_eq_true rfl) (fun c hc => R_ (E_ r_ (T_ (R_ (E_ r_ (T_ (am_ (R_ (M_ r_ (o_ r_ (br_ r_ (fun hlen => M_ r_ (T_ (au_ ?_))))))))))))))
  refine jc_loopS (ι := Nat) [] (fun k => k ≤ l.length) (fun k => [(1, In .i64 ((0 : Nat) : Int)), (5, In .i64 (mxS (fun _ => 1) (l.take k) : Int)), (9, .cell (.list (l.map Sm.row))), (10, In .i64 ((l.map Sm.row).length : Int)), (11, In .i64 (k : Int))]) (fun _ => []) (fun k => l.length - k) 0 (Nat.zero_le _) ?_ ?_ ?_
  · exact sub_end
  · (repeat (first | exact True.intro | refine ⟨rfl, ?_⟩))
  intro k hk
  by_cases hlt : k < l.length
  · have hlt2 : (k : Int) < ((l.map Sm.row).length : Int) := by omega
    refine R_ (o_ r_ (bw_ r_ r_ (T_ (am_ (aq_ r_ u_ (as_ (al_ (B_ (R_ (o_ r_ (cc_ r_ r_ g_ (Sm.row_eq _) r_ b_ (o_ r_ (cr_ r_ r_ r_ (o_ r_ (bl_ r_ r_ (fun bl => S_ 0 r_ (T_ (R_ (E_ r_ ?_)))))))))))))))))))
    refine T_ (am_ (R_ (M_ r_ (o_ r_ (bz_ r_ r_ (T_ (ap_ r_ r_ (as_ (al_ (an_ (M_ r_ (M_ r_ (o_ r_ (ck_ r_ r_ (E_ r_ (ak_ (ay_ ?_)))))))))))))))))
    refine al_ (an_ (o_ r_ (bj_ r_ r_ g_ (M_ r_ (ak_ (jq_againS (k + 1) hlt g_ ?_ ?_))))))
    · exact sub_end
    · rw [mxS_take hlt, show ((max (mxS (fun _ => 1) (l.take k)) 1 : Nat) : Int) = max (mxS (fun _ => 1) (l.take k) : Int) 1 by omega]
      (repeat (first | exact True.intro | refine ⟨rfl, ?_⟩))
  · have hlt2 : ¬ (k : Int) < ((l.map Sm.row).length : Int) := by omega
    rw [List.take_of_length_le (show l.length ≤ k by omega)]
    refine R_ (o_ r_ (bw_ r_ r_ (T_ (am_ (ap_ r_ w_ (av_ (ax_ (ax_ (ba_ (al_ (R_ (M_ r_ (E_ r_ (T_ (ar_ (jq_ret1 rfl rfl [] rfl (fun K h => h)))))))))))))))))
theorem deep_succ (L : Nat) (hL : L ≤ 1000) (ih : DeepP L) : DeepP (L + 1) := by
  intro l
  have eL : (l.map Sm.row).length = l.length := List.length_map _
  have hp : (0 : Int) < ((L + 1 : Nat) : Int) := by omega
  have hI : ∀ m : List Sm, Con Tryz.prog 44 [.cell (.list (m.map Sm.row)), In .i64 (((L + 1 : Nat) : Int) - 1)] [] (fun K => K (In .i64 (tdS L m : Int)) []) := by
    rw [show (((L + 1 : Nat) : Int) - 1) = (L : Int) by omega]
    exact ih
  have hd : ((L + 1 : Nat) : Int) ≤ 1001 := by omega
  have e0 : tdS (L + 1) l = mxS (tdOne (tdS L)) l := rfl
  rw [e0]
  generalize ((L + 1 : Nat) : Int) = d at hp hI hd ⊢
  refine con_intro Tryz.func44 rfl rfl (Nat.le_of_ble_eq_true rfl) (fun c hc => R_ (E_ r_ (T_ (R_ (E_ r_ (T_ (am_ (R_ (M_ r_ (o_ r_ (br_ r_ (fun hlen => M_ r_ (T_ (au_ ?_))))))))))))))
  refine jc_loopS (ι := Nat) [] (fun k => k ≤ l.length) (fun k => [(1, In .i64 d), (5, In .i64 (mxS (tdOne (tdS L)) (l.take k) : Int)), (9, .cell (.list (l.map Sm.row))), (10, In .i64 ((l.map Sm.row).length : Int)), (11, In .i64 (k : Int))]) (fun _ => []) (fun k => l.length - k) 0 (Nat.zero_le _) ?_ ?_ ?_
  · exact sub_end
  · (repeat (first | exact True.intro | refine ⟨rfl, ?_⟩))
  intro k hk
  by_cases hlt : k < l.length
  · have hlt2 : (k : Int) < ((l.map Sm.row).length : Int) := by omega
    have t1 := tdS_le L l[k].thn
    have t2 := tdS_le L l[k].els
    refine R_ (o_ r_ (bw_ r_ r_ (T_ (am_ (aq_ r_ u_ (as_ (al_ (B_ (R_ (o_ r_ (cc_ r_ r_ g_ (Sm.row_eq _) r_ b_ (o_ r_ (cr_ r_ r_ r_ (o_ r_ (bl_ r_ r_ (fun bl => S_ 0 r_ (T_ (R_ (E_ r_ ?_)))))))))))))))))))
    refine T_ (am_ (R_ (M_ r_ (o_ r_ (bz_ r_ r_ (T_ (aq_ r_ u_ (ao_ r_ r_ k_ k_ (yM_ r_ (yF_ r_ (yL_ 0 r_ (yM_ r_ (aa_ (fun c => cg_ r_ r_ g_ p_) (aa_ (fun c => bm_ r_ (hI _) p_) (yF_ r_ (yL_ 0 r_ ?_))))))))))))))))
    refine yM_ r_ (aa_ (fun c => cg_ r_ r_ g_ p_) (aa_ (fun c => bm_ r_ (hI _) p_) (aa_ (fun c => ck_ r_ r_ p_) (aa_ (fun c => bj_ r_ r_ g_ p_) (yE_ r_ (ae_ (al_ (an_ (M_ r_ (M_ r_ (o_ r_ (ck_ r_ r_ (E_ r_ (ak_ (ay_ (al_ ?_))))))))))))))))
    refine an_ (o_ r_ (bj_ r_ r_ g_ (M_ r_ (ak_ (jq_againS (k + 1) hlt g_ ?_ ?_)))))
    · exact sub_end
    · rw [mxS_take hlt, show ((max (mxS (tdOne (tdS L)) (l.take k)) (tdOne (tdS L) l[k]) : Nat) : Int) = max (mxS (tdOne (tdS L)) (l.take k) : Int) (1 + max (tdS L l[k].thn : Int) (tdS L l[k].els : Int)) by unfold tdOne; omega]
      (repeat (first | exact True.intro | refine ⟨rfl, ?_⟩))
  · have hlt2 : ¬ (k : Int) < ((l.map Sm.row).length : Int) := by omega
    rw [List.take_of_length_le (show l.length ≤ k by omega)]
    refine R_ (o_ r_ (bw_ r_ r_ (T_ (am_ (ap_ r_ w_ (av_ (ax_ (ax_ (ba_ (al_ (R_ (M_ r_ (E_ r_ (T_ (ar_ (jq_ret1 rfl rfl [] rfl (fun K h => h)))))))))))))))))
theorem deepS_c : ∀ L : Nat, L ≤ 1000 → DeepP L
  | 0, _ => deep_zero
  | L + 1, h => deep_succ L (by omega) (deepS_c L (by omega))

def dd : Nat → List Sm → Bool
  | 0, l => !l.isEmpty
  | n + 1, l => l.any (fun s => dd n s.thn || dd n s.els)
theorem tdS_dd : ∀ (n : Nat) (l : List Sm), n < tdS n l ↔ dd n l = true
  | 0, l => by
    unfold tdS dd
    rw [mxS_lt]
    cases l <;> simp
  | n + 1, l => by
    unfold tdS dd
    rw [mxS_lt, List.any_eq_true]
    constructor
    · rintro ⟨s, hs, h⟩
      refine ⟨s, hs, ?_⟩
      unfold tdOne at h
      rw [Bool.or_eq_true, ← tdS_dd n, ← tdS_dd n]
      omega
    · rintro ⟨s, hs, h⟩
      refine ⟨s, hs, ?_⟩
      rw [Bool.or_eq_true, ← tdS_dd n, ← tdS_dd n] at h
      unfold tdOne
      omega
def exOne (rec : List Sm → Bool) (s : Sm) : Bool := (s.index.any dpx || s.value.any dpx) || rec s.thn || rec s.els
def exS : Nat → List Sm → Bool
  | 0, _ => false
  | n + 1, l => l.any (exOne (exS n))
theorem dpF_split : ∀ (n : Nat) (l : List Sm), dpF n l = (dd n l || exS n l)
  | 0, l => by simp [dpF, dd, exS]
  | n + 1, l => by
    have h1 : ∀ s : Sm, dpS (dpF n) s = ((dd n s.thn || dd n s.els) || exOne (exS n) s) := by
      intro s
      unfold dpS exOne
      rw [dpF_split n, dpF_split n]
      cases dd n s.thn <;> cases dd n s.els <;> cases exS n s.thn <;> cases exS n s.els <;> simp
    rw [Bool.eq_iff_iff]
    unfold dpF dd exS
    simp only [Bool.or_eq_true, List.any_eq_true, h1]
    constructor
    · rintro ⟨s, hs, h | h⟩
      · exact .inl ⟨s, hs, h⟩
      · exact .inr ⟨s, hs, h⟩
    · rintro (⟨s, hs, h⟩ | ⟨s, hs, h⟩)
      · exact ⟨s, hs, .inl h⟩
      · exact ⟨s, hs, .inr h⟩
theorem lsS_mono : ∀ {n m : Nat} {l : List Sm}, n ≤ m → lsS m l → lsS n l
  | 0, _, _, _, _ => trivial
  | n + 1, 0, _, h, _ => by omega
  | n + 1, m + 1, l, h, hl => fun s hs => by
    obtain ⟨h1, h2, h3, h4⟩ := hl s hs
    exact ⟨h1, h2, lsS_mono g_ h3, lsS_mono g_ h4⟩
theorem any_app {α : Type} (p : α → Bool) (l m : List α) : (l ++ m).any p = (l.any p || m.any p) := List.any_append
theorem deep1_c (s : Sm) (hI : s.index.length ≤ 1000) (hV : s.value.length ≤ 1000) : Con Tryz.prog 46 [.row s.row'] [] (fun K => K (Bl (!(s.index.any dpx || s.value.any dpx))) []) := by
  have hE := exprs_c s hI hV
  rw [← any_app]
  generalize s.index ++ s.value = E at hE ⊢
  have eE : (E.map T.row).length = E.length := List.length_map _
  refine con_intro Tryz.func46 rfl rfl (Nat.le_of_ble_eq_true rfl) (fun c hc => R_ (o_ r_ (ci_ r_ (fun bx => E_ r_ (T_ (am_ (R_ (A_ 0 r_ (o_ r_ (bm_ r_ (hE) (o_ r_ (br_ r_ (fun hlen => M_ r_ (T_ (au_ ?_)))))))))))))))
  refine jc_loopS (ι := Nat) [] (fun k => k ≤ E.length ∧ (E.take k).any dpx = false) (fun k => [(6, .cell (.list (E.map T.row))), (7, In .i64 ((E.map T.row).length : Int)), (8, In .i64 (k : Int))]) (fun _ => []) (fun k => E.length - k) 0 ⟨Nat.zero_le _, rfl⟩ ?_ ?_ ?_
  · exact sub_end
  · (repeat (first | exact True.intro | refine ⟨rfl, ?_⟩))
  rintro k ⟨hk, hall⟩
  by_cases hlt : k < E.length
  · have hlt2 : (k : Int) < ((E.map T.row).length : Int) := by omega
    have hD := Depth_c 8 E[k] (by omega)
    have hdl := dl_eq 8 E[k]
    by_cases hd : 8 < E[k].dep
    · have hd2 : (8 : Int) < (dl 8 E[k] : Int) := by omega
      have hres : E.any dpx = true := any_yes hlt (by unfold dpx; exact decide_eq_true hd)
      refine R_ (o_ r_ (bw_ r_ r_ (T_ (am_ (aq_ r_ u_ (as_ (al_ (B_ (R_ (o_ r_ (cc_ r_ r_ g_ (T.row_eq _) r_ b_ (o_ r_ (cr_ r_ r_ r_ (o_ r_ (bl_ r_ r_ (fun bl => S_ 0 r_ (T_ (R_ (A_ 0 r_ ?_)))))))))))))))))))
      refine o_ r_ (bm_ r_ (hD) (o_ r_ (bz_ r_ r_ (T_ (aq_ r_ u_ (R_ (E_ r_ (T_ (ar_ (az_ (aw_ (aw_ (az_ (aw_ (jq_ret1 rfl rfl [] rfl (fun K h => by rw [hres] at h; exact h))))))))))))))))
    · have hd2 : ¬ (8 : Int) < (dl 8 E[k] : Int) := by omega
      refine R_ (o_ r_ (bw_ r_ r_ (T_ (am_ (aq_ r_ u_ (as_ (al_ (B_ (R_ (o_ r_ (cc_ r_ r_ g_ (T.row_eq _) r_ b_ (o_ r_ (cr_ r_ r_ r_ (o_ r_ (bl_ r_ r_ (fun bl => S_ 0 r_ (T_ (R_ (A_ 0 r_ ?_)))))))))))))))))))
      refine o_ r_ (bm_ r_ (hD) (o_ r_ (bz_ r_ r_ (T_ (ap_ r_ w_ (as_ (ay_ (al_ (an_ (o_ r_ (bj_ r_ r_ g_ (M_ r_ (ak_ (jq_againS (k + 1) ⟨hlt, any_snoc hlt hall (by unfold dpx; exact decide_eq_false hd)⟩ g_ ?_ ?_))))))))))))))
      · exact sub_end
      · (repeat (first | exact True.intro | refine ⟨rfl, ?_⟩))
  · have hlt2 : ¬ (k : Int) < ((E.map T.row).length : Int) := by omega
    rw [List.take_of_length_le (by omega)] at hall
    refine R_ (o_ r_ (bw_ r_ r_ (T_ (am_ (ap_ r_ w_ (av_ (ax_ (ax_ (ba_ (al_ (R_ (E_ r_ (T_ (ar_ (jq_ret1 rfl rfl [] rfl (fun K h => by rw [hall] at h; exact h))))))))))))))))
abbrev Fn1 : S := .cell (.val (.func (.func 46) #[] #[]))
def EachP (n : Nat) : Prop := ∀ l : List Sm, dd n l = false → lsS n l → Con Tryz.prog 45 [.cell (.list (l.map Sm.row)), Fn1] [] (fun K => K (Bl (!exS n l)) [])
theorem each_step (n : Nat) (hrec : ∀ n', n = n' + 1 → EachP n') : EachP n := by
  intro l hdd hls
  have eL : (l.map Sm.row).length = l.length := List.length_map _
  refine con_intro Tryz.func45 rfl rfl (Nat.le_of_ble_eq_true rfl) (fun c hc => R_ (E_ r_ (T_ (am_ (R_ (M_ r_ (o_ r_ (br_ r_ (fun hlen => M_ r_ (T_ (au_ ?_)))))))))))
  refine jc_loopS (ι := Nat) [] (fun k => k ≤ l.length ∧ ∀ n', n = n' + 1 → (l.take k).any (exOne (exS n')) = false) (fun k => [(1, Fn1), (7, .cell (.list (l.map Sm.row))), (8, In .i64 ((l.map Sm.row).length : Int)), (9, In .i64 (k : Int))]) (fun _ => []) (fun k => l.length - k) 0 ⟨Nat.zero_le _, fun _ _ => rfl⟩ ?_ ?_ ?_
  · exact sub_end
  · (repeat (first | exact True.intro | refine ⟨rfl, ?_⟩))
  rintro k ⟨hk, hall⟩
  by_cases hlt : k < l.length
  · have hlt2 : (k : Int) < ((l.map Sm.row).length : Int) := by omega
    obtain ⟨n', rfl⟩ : ∃ n', n = n' + 1 := by
      cases n with
      | zero =>
        cases l with
        | nil => simp at hlt
        | cons a l => cases hdd
      | succ n => exact ⟨n, rfl⟩
    have hall := hall n' rfl
    obtain ⟨q1, q2, q3, q4⟩ := hls _ (List.getElem_mem hlt)
    have hds : dd n' l[k].thn = false ∧ dd n' l[k].els = false := by
      have h1 := List.any_eq_false.1 hdd l[k] (List.getElem_mem hlt)
      simpa using h1
    have i1 := hrec n' rfl _ hds.1 q3
    have i2 := hrec n' rfl _ hds.2 q4
    have hF := deep1_c _ q1 q2
    have eo : exOne (exS n') l[k] = ((l[k].index.any dpx || l[k].value.any dpx) || exS n' l[k].thn || exS n' l[k].els) := rfl
    refine R_ (o_ r_ (bw_ r_ r_ (T_ (am_ (aq_ r_ u_ (as_ (al_ (B_ (R_ (o_ r_ (cc_ r_ r_ g_ (Sm.row_eq _) r_ b_ (o_ r_ (cr_ r_ r_ r_ (o_ r_ (bl_ r_ r_ (fun bl => S_ 0 r_ (T_ (R_ (M_ r_ ?_)))))))))))))))))))
    refine A_ 0 r_ (o_ r_ (ow_callv0 r_ r_ (hF) (o_ r_ (cd_ r_ (M_ r_ (jl_or 5 4 rfl rfl rfl rfl (nb rfl) ?_))))))
    apply Exists.intro
    refine ⟨fun hb1 => ?_, ?_⟩
    exact ah_ r_ h_ b_ (bf_ r_ r_ r_ b_ (ah_ r_ h_ b_ (bg_ 0 r_ r_ r_ r_ (ah_ r_ h_ b_ (bd_ r_ (ah_ r_ h_ b_ (bm_ r_ (i1) (ah_ r_ h_ b_ (cd_ r_ (ak_ (jq_seg 5 rfl rfl rfl (List.Perm.refl _))))))))))))
    refine M_ r_ (jl_or 5 11 rfl rfl rfl rfl (nb rfl) ?_)
    apply Exists.intro
    refine ⟨fun hb1 => ?_, ?_⟩
    exact ah_ r_ h_ b_ (bf_ r_ r_ r_ b_ (ah_ r_ h_ b_ (bg_ 0 r_ r_ r_ r_ (ah_ r_ h_ b_ (bd_ r_ (ah_ r_ h_ b_ (bm_ r_ (i2) (ah_ r_ h_ b_ (cd_ r_ (ak_ (jq_seg 5 rfl rfl rfl (List.Perm.refl _))))))))))))
    refine T_ (jc_cond rfl (fun hn => ?_) (fun hy => ?_))
    · have hp : exOne (exS n') l[k] = true := by
        rw [eo]
        cases h1 : (l[k].index.any dpx || l[k].value.any dpx) <;> cases h2 : exS n' l[k].thn <;> cases h3 : exS n' l[k].els <;> simp_all
      have hres : exS (n' + 1) l = true := any_yes hlt hp
      refine R_ (E_ r_ (T_ (ar_ (az_ (aw_ (aw_ (az_ (aw_ (jq_ret1 rfl rfl [] rfl (fun K h => by rw [hres] at h; exact h))))))))))
    · have hp : exOne (exS n') l[k] = false := by
        rw [eo]
        cases h1 : (l[k].index.any dpx || l[k].value.any dpx) <;> cases h2 : exS n' l[k].thn <;> cases h3 : exS n' l[k].els <;> simp_all
      refine as_ (ay_ (al_ (an_ (o_ r_ (bj_ r_ r_ g_ (M_ r_ (ak_ ?_)))))))
      refine jq_againS (k + 1) ⟨hlt, fun n2 e2 => by obtain rfl : n' = n2 := by omega
                                                     exact any_snoc hlt hall hp⟩ (by omega) ?_ ?_
      · exact sub_end
      · (repeat (first | exact True.intro | refine ⟨rfl, ?_⟩))
  · have hlt2 : ¬ (k : Int) < ((l.map Sm.row).length : Int) := by omega
    have hres : exS n l = false := by
      cases n with
      | zero => rfl
      | succ n =>
        have := hall n rfl
        rw [List.take_of_length_le (by omega)] at this
        exact this
    refine R_ (o_ r_ (bw_ r_ r_ (T_ (am_ (ap_ r_ w_ (av_ (ax_ (ax_ (ba_ (al_ (R_ (E_ r_ (T_ (ar_ (jq_ret1 rfl rfl [] rfl (fun K h => by rw [hres] at h; exact h))))))))))))))))
theorem each_c : ∀ n : Nat, EachP n
  | 0 => each_step 0 (fun n' h => by omega)
  | n + 1 => each_step (n + 1) (fun n' h => by obtain rfl : n = n' := by omega
                                               exact each_c n)
theorem pdeep_c (l : List Sm) (hl : lsS 20 l) : Con Tryz.prog 20 [.cell (.list (l.map Sm.row))] [] (fun K => K (Bl (dpF 8 l)) []) := by
  have hD := deepS_c 8 (by omega) l
  have hs := tdS_dd 8 l
  have e := dpF_split 8 l
  refine con_intro Tryz.func20 rfl rfl (Nat.le_of_ble_eq_true rfl) (fun c hc => ?_)
  cases hdd : dd 8 l with
  | true =>
    have h8 : (8 : Int) < (tdS 8 l : Int) := by have := hs.2 hdd; omega
    have hres : dpF 8 l = true := by rw [e, hdd]; rfl
    refine R_ (E_ r_ (T_ (am_ (R_ (M_ r_ (o_ r_ (bm_ r_ (hD) (o_ r_ (bz_ r_ r_ (T_ (aq_ r_ u_ (R_ (E_ r_ (T_ (ar_ (aw_ (jq_ret1 rfl rfl [] rfl (fun K h => by rw [hres] at h; exact h))))))))))))))))))
  | false =>
    have h8 : ¬ (8 : Int) < (tdS 8 l : Int) := by
      intro h
      have := hs.1 (by omega)
      rw [hdd] at this
      cases this
    have hres : dpF 8 l = exS 8 l := by rw [e, hdd]; rfl
    have hE := each_c 8 l hdd (lsS_mono (by omega) hl)
    refine R_ (E_ r_ (T_ (am_ (R_ (M_ r_ (o_ r_ (bm_ r_ (hD) (o_ r_ (bz_ r_ r_ (T_ (ap_ r_ w_ (as_ (al_ (R_ (M_ r_ (o_ r_ (bm_ r_ (hE) (o_ r_ (cd_ r_ ?_)))))))))))))))))))
    refine E_ r_ (T_ (ar_ (jq_ret1 rfl rfl [] rfl (fun K h => by rw [hres, ← Bool.not_not (exS 8 l)] at h; exact h))))
end Go.Proofs.YtlniadfidfmckaaGreatDoor
end

section
namespace Go.Proofs.YtlniadfidfmckaaGreatDoor
open Go.Vc
attribute [local irreducible] JL JC JQ OpWp Con ConN HOk
attribute [local irreducible] byteAt runLen isL isD isName hasW rd fineS numS textT hdT stsT stT
set_option maxHeartbeats 4000000

abbrev Wb (b : Nat) (v : Value) : Ch := Wblk b (some ⟨b, 0, none⟩) v
abbrev Keq : ByteArray := ⟨#[61]⟩
theorem num_c (n : Int) (h : -2147483647 ≤ n ∧ n ≤ 2147483647) : Con Tryz.prog 22 [In .i64 n] [] (fun K => K (Str (numS n)) []) := by
  have hI := itoa_c n h.1 h.2
  refine con_intro Tryz.func22 rfl rfl (Nat.le_of_ble_eq_true rfl) (fun c hc => R_ (E_ r_ (T_ (R_ (M_ r_ (o_ r_ (bm_ r_ (hI) (E_ r_ (T_ (ar_ (jq_ret1 rfl rfl [] rfl (fun K h => h))))))))))))
theorem numF_c {n : Int} (h : Pl n) : Con Tryz.prog 22 [In .i64 n] [] (fun K => K (Str (numS n)) []) := num_c n ⟨by have := h.1; omega, h.2⟩
theorem ptextF_c {t : T} (h : Fx t) : Con Tryz.prog 37 [.row t.row'] [] (fun K => K (Str (textT t)) []) := expr_c t h.1 (text_small h.1 h.2)
theorem ln1 {s : Sm} {x : T} (q : Nat) (hk : s.kind = 1) (hv : s.value = [x]) : lnT q [s.name, Keq, textT x] = spN q ++ hdT s := by
  rw [hdT1 hk hv]
  simp only [lnT, joinB]
  apply ByteArray.ext
  apply Array.ext'
  simp
theorem ln2 {s : Sm} {x y : T} (q : Nat) (hk : s.kind = 2) (hi : s.index = [y]) (hv : s.value = [x]) : lnT q [((s.name ++ Kx1) ++ textT y) ++ (⟨#[93]⟩ : ByteArray), Keq, textT x] = spN q ++ hdT s := by
  rw [hdT2 hk hi hv]
  simp only [lnT, joinB]
  apply ByteArray.ext
  apply Array.ext'
  simp
theorem ln3 {s : Sm} {x : T} (q : Nat) (hk : s.kind = 3) (hv : s.value = [x]) : lnT q [⟨#[105, 102]⟩, textT x, ⟨#[108, 97, 98, 101, 108]⟩, numS s.label, ⟨#[123]⟩] = spN q ++ hdT s := by
  rw [hdT3 hk hv]
  simp only [lnT, joinB]
  apply ByteArray.ext
  apply Array.ext'
  simp
theorem ln4 {s : Sm} {x : T} (q : Nat) (hk : s.kind = 4) (hv : s.value = [x]) : lnT q [⟨#[119, 104, 105, 108, 101]⟩, textT x, ⟨#[109, 97, 120]⟩, numS s.max, ⟨#[108, 97, 98, 101, 108]⟩, numS s.label, ⟨#[123]⟩] = spN q ++ hdT s := by
  rw [hdT4 hk hv]
  simp only [lnT, joinB]
  apply ByteArray.ext
  apply Array.ext'
  simp
theorem ln5 {s : Sm} (q : Nat) (hk : s.kind = 5) : lnT q [⟨#[108, 111, 99, 107]⟩, s.name, ⟨#[123]⟩] = spN q ++ hdT s := by
  rw [hdT5 hk]
  simp only [lnT, joinB]
  apply ByteArray.ext
  apply Array.ext'
  simp
theorem lnElse (q : Nat) : lnT q [⟨#[125]⟩, ⟨#[101, 108, 115, 101]⟩, ⟨#[123]⟩] = spN q ++ Kelse2 := by
  simp only [lnT, joinB]
  apply ByteArray.ext
  apply Array.ext'
  simp
theorem lnClose (q : Nat) : lnT q [⟨#[125]⟩] = spN q ++ Kclose := by
  simp only [lnT, joinB]
  apply ByteArray.ext
  apply Array.ext'
  simp
/-- A line whose text is known. -/
theorem lineT_c {b : Nat} {v : Value} {X : ByteArray} {q : Nat} {L : List ByteArray} {Y : ByteArray} (hY : lnT q L = spN q ++ Y) (hq : q ≤ 1000) (hL : L ≠ []) (hl : L.length ≤ 1000) (hs : Y.size ≤ 1000000) (hX : X.size ≤ 140000000000000) :
    Con Tryz.prog 21 [Wptr b, In .i64 (q : Int), .cell (.list (L.map Wrow))] [Wb b v, Bw v X]
      (fun K => ∀ v' : Value, True → K (.tup []) [Wb b v', Bw v' ((X ++ spN q) ++ Y)]) := by
  have h1 : (lnT q L).size = (spN q).size + (joinB L).size + 1 := by unfold lnT; rw [ByteArray.size_append, ByteArray.size_append]; rfl
  rw [hY, ByteArray.size_append] at h1
  have := line_c b v (some ⟨b, 0, none⟩) X q L (.inr rfl) hq hL hl (by omega) hX
  rw [hY, ← ByteArray.append_assoc] at this
  exact this
def WBody (b : Nat) (n : Nat) : Prop := ∀ (l : List Sm) (q : Nat) (X : ByteArray) (v : Value), (∀ s ∈ l, fineS n s) → q + n ≤ 50 → X.size + 60000 * Sm.szs l ≤ 100000000000000 →
  Con Tryz.prog 52 [Wptr b, .cell (.list (l.map Sm.row)), In .i64 (q : Int)] [Wb b v, Bw v X] (fun K => ∀ v' : Value, True → K (.tup []) [Wb b v', Bw v' (X ++ stsT (spN q) l)])
theorem wbody_step (b : Nat) (n : Nat) (hrec : ∀ n', n = n' + 1 → WBody b n') : WBody b n := by
  intro l q X v0 hfine hsp hX
  have eL : (l.map Sm.row).length = l.length := List.length_map _
  have hq2 := spN_size q
  refine con_intro Tryz.func52 rfl rfl (Nat.le_of_ble_eq_true rfl) (fun c hc => R_ (M_ r_ (o_ r_ (br_ r_ (fun hlen => M_ r_ (T_ (au_ ?_)))))))
  refine jc_loopS (ι := Nat × Value) [] (fun i => i.1 ≤ l.length) (fun i => [(0, Wptr b), (2, In .i64 (q : Int)), (8, .cell (.list (l.map Sm.row))), (9, In .i64 ((l.map Sm.row).length : Int)), (10, In .i64 (i.1 : Int))]) (fun i => [Wb b i.2, Bw i.2 (X ++ stsT (spN q) (l.take i.1))]) (fun i => l.length - i.1) (0, v0) (Nat.zero_le _) ?_ ?_ ?_
  · rw [show X ++ stsT (spN q) (l.take 0) = X by rw [List.take_zero, stsT, ba_nil]]
    exact bc_ 0 r_ (bc_ 0 r_ sub_end)
  · (repeat (first | exact True.intro | refine ⟨rfl, ?_⟩))
  rintro ⟨k, v⟩ hk
  dsimp only at hk ⊢
  by_cases hlt : k < l.length
  · have hlt2 : (k : Int) < ((l.map Sm.row).length : Int) := by omega
    have hfk := hfine l[k] (List.getElem_mem hlt)
    have hszk := szs_take_succ hlt
    have hs0 := sts_size (sp := spN q) (l := l.take k) (fun s hs => hfine s (List.mem_of_mem_take hs)) (by omega)
    have hsk := st_size n (spN q) l[k] hfk (by omega)
    have hYs : (X ++ stsT (spN q) (l.take k)).size + 60000 * l[k].sz ≤ 100000000000000 := by rw [ByteArray.size_append]; omega
    have hnext : X ++ stsT (spN q) (l.take (k + 1)) = (X ++ stsT (spN q) (l.take k)) ++ stT (spN q) l[k] := by rw [stsT_take (spN q) hlt, ByteArray.append_assoc]
    generalize X ++ stsT (spN q) (l.take k) = Y at hYs hnext ⊢
    have hz1 : 1 ≤ l[k].sz := by rw [Sm.sz_eq]; omega
    refine R_ (o_ r_ (bw_ r_ r_ (T_ (am_ (aq_ r_ u_ (as_ (al_ (B_ (R_ (o_ r_ (cc_ r_ r_ g_ (Sm.row_eq _) r_ b_ (o_ r_ (cr_ r_ r_ r_ (o_ r_ (bl_ r_ r_ (fun bl => S_ 0 r_ (T_ (am_ ?_))))))))))))))))))
    obtain ⟨s, hs⟩ : ∃ s, s = l[k] := ⟨_, rfl⟩
    rw [← hs] at hfk hsk hYs hnext hz1 ⊢
    have hhd := hd_size hfk
    have hY2 : (Y ++ spN q).size = Y.size + (spN q).size := ByteArray.size_append ..
    obtain ⟨n', rfl⟩ : ∃ n', n = n' + 1 := by
      cases n with
      | zero => exact absurd hfk (by unfold fineS; exact id)
      | succ n => exact ⟨n, rfl⟩
    have hrec := hrec n' rfl
    unfold fineS at hfk
    refine jc_cut (ι := Value) [] (fun _ => 3 ≤ s.kind) (fun v => [(0, Wptr b), (2, In .i64 (q : Int)), (8, .cell (.list (l.map Sm.row))), (9, In .i64 ((l.map Sm.row).length : Int)), (10, In .i64 (k : Int)), (7, .cell (.val (.pointer (some ⟨bl, 0, none⟩))))]) (fun v => [Wb b v, Bw v ((Y ++ spN q) ++ hdT s), .blk bl 51 s.row']) ?_ ?_
    · rcases hfk with ⟨hk1, hn, x, hv, fx⟩ | ⟨hk1, hn, y, x, hi, hv, fy, fx⟩ | ⟨hk1, ⟨x, hv, fx⟩, hl, _⟩ | ⟨hk1, ⟨x, hv, fx⟩, hm, hl, _⟩ | ⟨hk1, hn, _⟩
      · have hln := lineT_c (b := b) (v := v) (X := Y) (ln1 q hk1 hv) (by omega) (by simp) (by simp) (by omega) (by omega)
        rw [row1 hv]
        have e1 : [x].length = 1 := rfl
        have ht := ptextF_c fx
        refine R_ (F_ r_ (L_ 0 r_ (T_ (au_ (R_ (o_ r_ (bn_ r_ r_ (E_ r_ (T_ (aq_ r_ u_ (am_ (jc_anyB 10 none rfl k_ k_ (yM_ r_ (yM_ r_ (yF_ r_ (yL_ 0 r_ ?_))))))))))))))))
        refine yF_ r_ (yL_ 0 r_ (aa_ (fun c => cv_ r_ r_ g_ g_ (T.row_eq _) r_ b_ p_) (aa_ (fun c => cr_ r_ r_ r_ p_) (aa_ (fun c => bm_ r_ (ht) p_) (aa_ (fun c => bq_ r_ r_ b_ r_ r_ b_ p_) (ae_ (afin_none (o_ r_ (bt_ [1, 1] rfl rfl (hln) (fun pp hpp => T_ (av_ (bb_ r_ (ax_ (ba_ (al_ (an_ ?_))))))))))))))))
        refine o_ r_ (bj_ r_ r_ g_ (M_ r_ (ak_ (jq_againS (i := (k, v)) (k + 1, pp) hlt (by dsimp only; omega) ?_ ?_))))
        · dsimp only
          rw [hnext, stT_leaf (spN q) (.inl hk1), ← ByteArray.append_assoc]
          exact bc_ 0 r_ (bc_ 0 r_ sub_end)
        · (repeat (first | exact True.intro | refine ⟨rfl, ?_⟩))
      · have hln := lineT_c (b := b) (v := v) (X := Y) (ln2 q hk1 hi hv) (by omega) (by simp) (by simp) (by omega) (by omega)
        have hxs := fx.size
        have hys := fy.size
        have hns := name_size hn
        rw [row2 hi hv]
        have e1 : [x].length = 1 := rfl
        have e2 : [y].length = 1 := rfl
        have ht := ptextF_c fx
        have ht2 := ptextF_c fy
        refine R_ (F_ r_ (L_ 0 r_ (T_ (au_ (R_ (o_ r_ (bn_ r_ r_ (E_ r_ (T_ (ap_ r_ v_ (R_ (o_ r_ (bn_ r_ r_ (E_ r_ (T_ (aq_ r_ u_ (am_ ?_)))))))))))))))))
        refine jc_anyB 18 none rfl k_ k_ (yM_ r_ (yM_ r_ (yF_ r_ (yL_ 0 r_ (aa_ (fun c => ow_strcat rfl rfl (by simp only [ByteArray.size_append, ba_lit, List.length_cons, List.length_nil] ; omega) p_) (yF_ r_ (yL_ 0 r_ (aa_ (fun c => cv_ r_ r_ g_ g_ (T.row_eq _) r_ b_ p_) (aa_ (fun c => cr_ r_ r_ r_ p_) (aa_ (fun c => bm_ r_ (ht2) p_) ?_))))))))))
        refine aa_ (fun c => ow_strcat rfl rfl (by simp only [ByteArray.size_append, ba_lit, List.length_cons, List.length_nil] ; omega) p_) (aa_ (fun c => ow_strcat rfl rfl (by simp only [ByteArray.size_append, ba_lit, List.length_cons, List.length_nil] ; omega) p_) (yF_ r_ (yL_ 0 r_ (aa_ (fun c => cv_ r_ r_ g_ g_ (T.row_eq _) r_ b_ p_) (aa_ (fun c => cr_ r_ r_ r_ p_) (aa_ (fun c => bm_ r_ (ht) p_) ?_))))))
        refine aa_ (fun c => bq_ r_ r_ b_ r_ r_ b_ p_) (ae_ (afin_none (o_ r_ (bt_ [1, 1] rfl rfl (hln) (fun pp hpp => T_ (av_ (bb_ r_ (ax_ (ba_ (al_ (an_ (o_ r_ (bj_ r_ r_ g_ (M_ r_ (ak_ (jq_againS (i := (k, v)) (k + 1, pp) hlt (by dsimp only; omega) ?_ ?_))))))))))))))))
        · dsimp only
          rw [hnext, stT_leaf (spN q) (.inr hk1), ← ByteArray.append_assoc]
          exact bc_ 0 r_ (bc_ 0 r_ sub_end)
        · (repeat (first | exact True.intro | refine ⟨rfl, ?_⟩))
      · have hln := lineT_c (b := b) (v := v) (X := Y) (ln3 q hk1 hv) (by omega) (by simp) (by simp) (by omega) (by omega)
        rw [row1 hv]
        have e1 : [x].length = 1 := rfl
        have ht := ptextF_c fx
        have hN := numF_c hl
        refine R_ (F_ r_ (L_ 0 r_ (T_ (au_ (R_ (o_ r_ (bn_ r_ r_ (E_ r_ (T_ (ap_ r_ v_ (R_ (o_ r_ (bn_ r_ r_ (E_ r_ (T_ (ap_ r_ v_ (R_ ?_)))))))))))))))))
        refine o_ r_ (bn_ r_ r_ (E_ r_ (T_ (aq_ r_ u_ (jc_anyB 11 none rfl k_ k_ (yM_ r_ (yM_ r_ (yF_ r_ (yL_ 0 r_ (aa_ (fun c => cv_ r_ r_ g_ g_ (T.row_eq _) r_ b_ p_) (aa_ (fun c => cr_ r_ r_ r_ p_) (aa_ (fun c => bm_ r_ (ht) p_) (yF_ r_ (yL_ 0 r_ (aa_ (fun c => bm_ r_ (hN) p_) (aa_ (fun c => bq_ r_ r_ b_ r_ r_ b_ p_) ?_))))))))))))))))
        refine ae_ (afin_none (o_ r_ (bt_ [1, 1] rfl rfl (hln) (fun pp hpp => ak_ (ay_ ?_)))))
        rw [← row1 hv]
        refine jq_cutS pp g_ ?_ ?_
        · exact bc_ 0 r_ (bc_ 0 r_ (bc_ 0 r_ sub_end))
        · (repeat (first | exact True.intro | refine ⟨rfl, ?_⟩))
      · have hln := lineT_c (b := b) (v := v) (X := Y) (ln4 q hk1 hv) (by omega) (by simp) (by simp) (by omega) (by omega)
        rw [row1 hv]
        have e1 : [x].length = 1 := rfl
        have ht := ptextF_c fx
        have hN := numF_c hl
        have hM := numF_c hm
        refine R_ (F_ r_ (L_ 0 r_ (T_ (au_ (R_ (o_ r_ (bn_ r_ r_ (E_ r_ (T_ (ap_ r_ v_ (R_ (o_ r_ (bn_ r_ r_ (E_ r_ (T_ (ap_ r_ v_ (R_ ?_)))))))))))))))))
        refine o_ r_ (bn_ r_ r_ (E_ r_ (T_ (ap_ r_ v_ (R_ (o_ r_ (bn_ r_ r_ (E_ r_ (T_ (aq_ r_ u_ (jc_anyB 14 none rfl k_ k_ (yM_ r_ (yM_ r_ (yF_ r_ (yL_ 0 r_ (aa_ (fun c => cv_ r_ r_ g_ g_ (T.row_eq _) r_ b_ p_) (aa_ (fun c => cr_ r_ r_ r_ p_) ?_)))))))))))))))))
        refine aa_ (fun c => bm_ r_ (ht) p_) (yF_ r_ (yL_ 0 r_ (aa_ (fun c => bm_ r_ (hM) p_) (yF_ r_ (yL_ 0 r_ (aa_ (fun c => bm_ r_ (hN) p_) (aa_ (fun c => bq_ r_ r_ b_ r_ r_ b_ p_) (ae_ (afin_none (o_ r_ (bt_ [1, 1] rfl rfl (hln) (fun pp hpp => ak_ (ay_ ?_)))))))))))))
        rw [← row1 hv]
        refine jq_cutS pp g_ ?_ ?_
        · exact bc_ 0 r_ (bc_ 0 r_ (bc_ 0 r_ sub_end))
        · (repeat (first | exact True.intro | refine ⟨rfl, ?_⟩))
      · have hln := lineT_c (b := b) (v := v) (X := Y) (ln5 q hk1) (by omega) (by simp) (by simp) (by omega) (by omega)
        refine R_ (F_ r_ (L_ 0 r_ (T_ (au_ (R_ (o_ r_ (bn_ r_ r_ (E_ r_ (T_ (ap_ r_ v_ (R_ (o_ r_ (bn_ r_ r_ (E_ r_ (T_ (ap_ r_ v_ (R_ ?_)))))))))))))))))
        refine o_ r_ (bn_ r_ r_ (E_ r_ (T_ (ap_ r_ v_ (R_ (o_ r_ (bn_ r_ r_ (E_ r_ (T_ (ap_ r_ v_ (R_ (o_ r_ (bn_ r_ r_ (E_ r_ (T_ (aq_ r_ u_ (an_ (M_ r_ ?_))))))))))))))))))
        refine M_ r_ (F_ r_ (L_ 0 r_ (o_ r_ (bq_ r_ r_ b_ r_ r_ b_ (o_ r_ (bt_ [1, 1] rfl rfl (hln) (fun pp hpp => ak_ (ay_ (jq_cutS pp g_ ?_ ?_)))))))))
        · exact bc_ 0 r_ (bc_ 0 r_ (bc_ 0 r_ sub_end))
        · (repeat (first | exact True.intro | refine ⟨rfl, ?_⟩))
    intro v3 hk3
    have hk12 : ¬ (s.kind = 1 ∨ s.kind = 2) := by omega
    have hthn : ∀ t ∈ s.thn, fineS n' t := by
      rcases hfk with h | h | h | h | h
      · exact absurd (.inl h.1) hk12
      · exact absurd (.inr h.1) hk12
      · exact h.2.2.2.1
      · exact h.2.2.2.2.1
      · exact h.2.2.1
    have hels : ∀ t ∈ s.els, fineS n' t := by
      rcases hfk with h | h | h | h | h
      · exact absurd (.inl h.1) hk12
      · exact absurd (.inr h.1) hk12
      · exact h.2.2.2.2
      · rw [h.2.2.2.2.2]; simp
      · rw [h.2.2.2]; simp
    have ez := Sm.sz_eq s
    have hZ : ((Y ++ spN q) ++ hdT s).size = (Y ++ spN q).size + (hdT s).size := ByteArray.size_append ..
    have e1 : stT (spN q) s = (spN q ++ hdT s) ++ stsT (spN (q + 1)) s.thn ++ (if s.els = [] then ⟨#[]⟩ else (spN q ++ Kelse2) ++ stsT (spN (q + 1)) s.els) ++ (spN q ++ Kclose) := stT_node (spN q) hk12
    have hq3 := spN_size (q + 1)
    have hT := sts_size hthn (sp := spN (q + 1)) (by omega)
    have hE := sts_size hels (sp := spN (q + 1)) (by omega)
    clear hfk
    generalize hZe : (Y ++ spN q) ++ hdT s = Zt at hZ ⊢
    have con1 := hrec s.thn (q + 1) Zt v3 hthn (by omega) (by omega)
    rw [show ((q + 1 : Nat) : Int) = (q : Int) + 1 by omega] at con1
    have hZ2 : (Zt ++ stsT (spN (q + 1)) s.thn).size = Zt.size + (stsT (spN (q + 1)) s.thn).size := ByteArray.size_append ..
    have eE : (s.els.map Sm.row).length = s.els.length := List.length_map _
    refine R_ (M_ r_ (F_ r_ (L_ 2 r_ (M_ r_ (o_ r_ (bj_ r_ r_ g_ (o_ r_ (bt_ [0, 0] rfl rfl (con1) (fun pp hpp => T_ (am_ ?_))))))))))
    generalize hZ2e : Zt ++ stsT (spN (q + 1)) s.thn = Z2 at hZ2 ⊢
    by_cases hnil : s.els = []
    · have hz : ¬ (0 : Int) < ((s.els.map Sm.row).length : Int) := by rw [hnil]; simp
      have hcl := fun v => lineT_c (b := b) (v := v) (X := Z2) (lnClose q) (by omega) (by simp) (by simp) (by show 2 ≤ _; omega) (by omega)
      refine R_ (F_ r_ (L_ 2 r_ (o_ r_ (br_ r_ (fun hlen => o_ r_ (bz_ r_ r_ (T_ (ap_ r_ w_ (as_ (al_ (an_ (M_ r_ (M_ r_ (o_ r_ (bq_ r_ r_ b_ r_ r_ b_ (o_ r_ (bt_ [0, 0] rfl rfl (hcl _) (fun pp hpp => ak_ (ay_ ?_)))))))))))))))))))
      refine al_ (an_ (o_ r_ (bj_ r_ r_ g_ (M_ r_ (ak_ (jq_againS (i := (k, v)) (k + 1, pp) hlt (by dsimp only; omega) ?_ ?_))))))
      · dsimp only
        rw [hnext, e1, if_pos hnil, ba_nil, ← hZ2e, ← hZe]
        simp only [ByteArray.append_assoc]
        exact bc_ 0 r_ (bc_ 0 r_ sub_end)
      · (repeat (first | exact True.intro | refine ⟨rfl, ?_⟩))
    · have hz : (0 : Int) < ((s.els.map Sm.row).length : Int) := by
        have := List.length_pos_iff.2 hnil
        omega
      have hel := fun v => lineT_c (b := b) (v := v) (X := Z2) (lnElse q) (by omega) (by simp) (by simp) (by show 9 ≤ _; omega) (by omega)
      have hZ3 : ((Z2 ++ spN q) ++ Kelse2).size = Z2.size + (spN q).size + 9 := by rw [ByteArray.size_append, ByteArray.size_append]; rfl
      have con2 := fun v => hrec s.els (q + 1) ((Z2 ++ spN q) ++ Kelse2) v hels (by omega) (by omega)
      rw [show ((q + 1 : Nat) : Int) = (q : Int) + 1 by omega] at con2
      have hZ4 : (((Z2 ++ spN q) ++ Kelse2) ++ stsT (spN (q + 1)) s.els).size = ((Z2 ++ spN q) ++ Kelse2).size + (stsT (spN (q + 1)) s.els).size := ByteArray.size_append ..
      have hcl := fun v => lineT_c (b := b) (v := v) (X := ((Z2 ++ spN q) ++ Kelse2) ++ stsT (spN (q + 1)) s.els) (lnClose q) (by omega) (by simp) (by simp) (by show 2 ≤ _; omega) (by omega)
      refine R_ (F_ r_ (L_ 2 r_ (o_ r_ (br_ r_ (fun hlen => o_ r_ (bz_ r_ r_ (T_ (aq_ r_ u_ (R_ (M_ r_ (M_ r_ (o_ r_ (bq_ r_ r_ b_ r_ r_ b_ (o_ r_ (bt_ [0, 0] rfl rfl (hel _) (fun pp hpp => T_ (an_ (M_ r_ (F_ r_ ?_)))))))))))))))))))
      refine L_ 2 r_ (M_ r_ (o_ r_ (bj_ r_ r_ g_ (o_ r_ (bt_ [0, 0] rfl rfl (con2 _) (fun pp hpp => T_ (an_ (M_ r_ (M_ r_ (o_ r_ (bq_ r_ r_ b_ r_ r_ b_ (o_ r_ (bt_ [0, 0] rfl rfl (hcl _) (fun pp hpp => ak_ (ay_ (al_ (an_ (o_ r_ (bj_ r_ r_ g_ (M_ r_ ?_))))))))))))))))))))
      refine ak_ (jq_againS (i := (k, v)) (k + 1, pp) hlt (by dsimp only; omega) ?_ ?_)
      · dsimp only
        rw [hnext, e1, if_neg hnil, ← hZ2e, ← hZe]
        simp only [ByteArray.append_assoc]
        exact bc_ 0 r_ (bc_ 0 r_ sub_end)
      · (repeat (first | exact True.intro | refine ⟨rfl, ?_⟩))
  · have hlt2 : ¬ (k : Int) < ((l.map Sm.row).length : Int) := by omega
    rw [List.take_of_length_le (by omega)]
    refine R_ (o_ r_ (bw_ r_ r_ (T_ (am_ (ap_ r_ w_ (av_ (ax_ (ax_ (ba_ (jq_ret0 (.inr rfl) rfl [0, 0] rfl (fun K h => h v trivial)))))))))))
theorem wbody_c (b : Nat) : ∀ n : Nat, WBody b n
  | 0 => wbody_step b 0 (fun n' h => by omega)
  | n + 1 => wbody_step b (n + 1) (fun n' h => by obtain rfl : n' = n := by omega
                                                  exact wbody_c b n')
end Go.Proofs.YtlniadfidfmckaaGreatDoor
end

section
namespace Go.Proofs.YtlniadfidfmckaaGreatDoor
open Go.Vc
attribute [local irreducible] JL JC JQ OpWp Con ConN HOk
attribute [local irreducible] byteAt runLen isL isD isName hasW rd fineS numS textT hdT stsT stT
set_option maxHeartbeats 4000000

theorem lw_resT (x : ByteArray) : lnT 0 [(⟨#[114, 101, 115, 111, 117, 114, 99, 101]⟩ : ByteArray), x] = resT x := by
  unfold resT
  simp only [lnT, joinB, spN]
  apply ByteArray.ext
  apply Array.ext'
  simp
theorem lw_shT (x : Shd) : lnT 0 [(⟨#[115, 104, 97, 114, 101, 100]⟩ : ByteArray), x.1, numS x.2.1, x.2.2] = shT x := by
  unfold shT
  simp only [lnT, joinB, spN]
  apply ByteArray.ext
  apply Array.ext'
  simp
theorem lw_inT (x : Inp) : lnT 0 [(⟨#[105, 110, 112, 117, 116]⟩ : ByteArray), x.1, numS x.2.1, numS x.2.2] = inT x := by
  unfold inT
  simp only [lnT, joinB, spN]
  apply ByteArray.ext
  apply Array.ext'
  simp
theorem lw_vaT (x : ByteArray) : lnT 0 [(⟨#[118, 97, 114]⟩ : ByteArray), x] = vaT x := by
  unfold vaT
  simp only [lnT, joinB, spN]
  apply ByteArray.ext
  apply Array.ext'
  simp
theorem lw_arT (x : Arr) : lnT 0 [(⟨#[97, 114, 114, 97, 121]⟩ : ByteArray), x.1, numS x.2] = arT x := by
  unfold arT
  simp only [lnT, joinB, spN]
  apply ByteArray.ext
  apply Array.ext'
  simp
theorem lw_mdT (x : Md) : lnT 0 [(⟨#[109, 111, 100, 101]⟩ : ByteArray), x.1, x.2.1, numS x.2.2.1, numS x.2.2.2] = mdT x := by
  unfold mdT
  simp only [lnT, joinB, spN]
  apply ByteArray.ext
  apply Array.ext'
  simp
theorem lw_clT (x : Clm) : lnT 0 [(⟨#[110, 101, 118, 101, 114]⟩ : ByteArray), numS x.1, numS x.2] = clT x := by
  unfold clT
  simp only [lnT, joinB, spN]
  apply ByteArray.ext
  apply Array.ext'
  simp
theorem lw_tkHd (x : Tk) : lnT 0 [(⟨#[116, 97, 115, 107]⟩ : ByteArray), x.name, (⟨#[112, 101, 114, 105, 111, 100]⟩ : ByteArray), numS x.period, (⟨#[100, 101, 97, 100, 108, 105, 110, 101]⟩ : ByteArray), numS x.deadline, (⟨#[112, 114, 105, 111, 114, 105, 116, 121]⟩ : ByteArray), numS x.priority, (⟨#[106, 105, 116, 116, 101, 114]⟩ : ByteArray), numS x.jitter] = tkHd x := by
  unfold tkHd
  simp only [lnT, joinB, spN]
  apply ByteArray.ext
  apply Array.ext'
  simp
theorem lwBody : lnT 0 [(⟨#[98, 111, 100, 121]⟩ : ByteArray)] = (⟨#[98, 111, 100, 121, 10]⟩ : ByteArray) := rfl
theorem lwEnd : lnT 0 [(⟨#[101, 110, 100]⟩ : ByteArray)] = (⟨#[101, 110, 100, 10]⟩ : ByteArray) := rfl
/-- A line at the left edge. -/
theorem line0_c {b : Nat} {v : Value} {p : Option Addr} {X : ByteArray} {L : List ByteArray} {Y : ByteArray} (hp : WP b p) (hY : lnT 0 L = Y) (hL : L ≠ []) (hl : L.length ≤ 1000) (hs : Y.size ≤ 1000000) (hX : X.size ≤ 140000000000000) :
    Con Tryz.prog 21 [Wptr b, In .i64 0, .cell (.list (L.map Wrow))] [Wblk b p v, Bw v X]
      (fun K => ∀ v' : Value, True → K (.tup []) [Wb b v', Bw v' (X ++ Y)]) := by
  have h1 : (lnT 0 L).size = (spN 0).size + (joinB L).size + 1 := by unfold lnT; rw [ByteArray.size_append, ByteArray.size_append]; rfl
  rw [hY] at h1
  have := line_c b v p X 0 L hp (by omega) hL hl (by omega) hX
  rw [hY] at this
  exact this
theorem wtask_c (b : Nat) (p : Option Addr) (v : Value) (X : ByteArray) (t : Tk) (hp : WP b p) (hok : okTk t = true) (hdt : dpF 8 t.body = false) (hts : TkSz t) (hX : X.size ≤ 90000000000000) :
    Con Tryz.prog 23 [Wptr b, .row t.row] [Wblk b p v, Bw v X] (fun K => ∀ v' : Value, True → K (.tup []) [Wb b v', Bw v' (X ++ tkT t)]) := by
  obtain ⟨h0, hb, h1, h2, h3, h4, h5⟩ := hd_of hok
  have z1 := hts.inputs
  have z2 := hts.vars
  have z3 := hts.arrays
  have z4 := hts.modes
  have z5 := hts.claims
  have z6 := hts.body
  have e0 := tk1_size h0
  have hln := line0_c (b := b) (v := v) (p := p) (X := X) hp (lw_tkHd t) (by simp) (by simp) (by omega) (by omega)
  obtain ⟨g0, g1, g2, g3, g4⟩ := tk1_ok h0
  have hY0 : (X ++ tkHd t).size = X.size + (tkHd t).size := ByteArray.size_append ..
  refine con_intro Tryz.func23 rfl rfl (Nat.le_of_ble_eq_true rfl) (fun c hc => R_ (o_ r_ (ci_ r_ (fun bx => T_ (am_ (jc_anyB 16 none rfl k_ k_ (yM_ r_ (yF_ r_ (yL_ 0 r_ (yF_ r_ (yL_ 0 r_ (aa_ (fun c => bm_ r_ (numF_c g1) p_) (yF_ r_ (yL_ 0 r_ (aa_ (fun c => bm_ r_ (numF_c g2) p_) (yF_ r_ ?_))))))))))))))))
  refine yL_ 0 r_ (aa_ (fun c => bm_ r_ (numF_c g3) p_) (yF_ r_ (yL_ 0 r_ (aa_ (fun c => bm_ r_ (numF_c g4) p_) (aa_ (fun c => bq_ r_ r_ b_ r_ r_ b_ p_) (ae_ (afin_none (o_ r_ (bt_ [1, 1] rfl rfl (hln) (fun pp hpp => T_ ?_))))))))))
  generalize hE0 : X ++ tkHd t = Y0 at hY0 ⊢
  have hY0 : Y0.size ≤ 90000000000200 := by omega
  refine am_ (jc_cut (ι := Value) [] (fun _ => True) (fun _ => [(0, Wptr b), (3, .cell (.val (.pointer (some ⟨bx, 0, none⟩))))]) (fun v => [Wb b v, Bw v (Y0 ++ catL inT (t.inputs)), .blk bx 41 t.row]) ?_ ?_)
  · refine R_ (F_ r_ (L_ 2 r_ (o_ r_ (br_ r_ (fun hlen => M_ r_ (T_ (au_ ?_)))))))
    have eL : ((t.inputs).map InRow).length = (t.inputs).length := List.length_map _
    refine jc_loopS (ι := Nat × Value) [] (fun i => i.1 ≤ (t.inputs).length) (fun i => (32, .cell (.list ((t.inputs).map InRow))) :: (33, In .i64 (((t.inputs).map InRow).length : Int)) :: (34, In .i64 (i.1 : Int)) :: [(0, Wptr b), (3, .cell (.val (.pointer (some ⟨bx, 0, none⟩))))]) (fun i => [Wb b i.2, Bw i.2 (Y0 ++ catL inT ((t.inputs).take i.1)), .blk bx 41 t.row]) (fun i => (t.inputs).length - i.1) (0, pp) (Nat.zero_le _) ?_ ?_ ?_
    · rw [show Y0 ++ catL inT ((t.inputs).take 0) = Y0 by rw [List.take_zero, catL, ba_nil]]
      exact bc_ 0 r_ (bc_ 0 r_ (bc_ 0 r_ sub_end))
    · (repeat (first | exact True.intro | refine ⟨rfl, ?_⟩))
    rintro ⟨k, v⟩ hk
    dsimp only at hk ⊢
    by_cases hlt : k < (t.inputs).length
    · have hlt2 : (k : Int) < (((t.inputs).map InRow).length : Int) := by omega
      have hsz := catL_takeS (f := inT) (l := t.inputs) (fun x hx => inT_size (h1 x hx)) k
      have hnx := catL_take inT (Y0) hlt
      have hfs := inT_size (h1 _ (List.getElem_mem hlt))
      have hYs : (Y0 ++ catL inT ((t.inputs).take k)).size ≤ 90000000000200 + 200000 := by rw [ByteArray.size_append]; omega
      generalize Y0 ++ catL inT ((t.inputs).take k) = Z at hYs hnx ⊢
      have hlk := line0_c (b := b) (v := v) (X := Z) (.inr rfl) (lw_inT (t.inputs)[k]) (by simp) (by simp) (by omega) (by omega)
      have gk := inT_ok (h1 _ (List.getElem_mem hlt))
      obtain ⟨g0, g1, g2⟩ := gk
      refine R_ (o_ r_ (bw_ r_ r_ (T_ (am_ (aq_ r_ u_ (as_ (al_ (B_ (R_ (o_ r_ (cc_ r_ r_ g_ r_ r_ b_ (o_ r_ (cr_ r_ r_ r_ (o_ r_ (bl_ r_ r_ (fun bl => S_ 0 r_ (T_ (jc_anyB 10 none rfl k_ k_ (yM_ r_ ?_)))))))))))))))))))
      refine yF_ r_ (yL_ 0 r_ (yF_ r_ (yL_ 0 r_ (aa_ (fun c => bm_ r_ (num_c _ g1) p_) (yF_ r_ (yL_ 0 r_ (aa_ (fun c => bm_ r_ (num_c _ g2) p_) (aa_ (fun c => bq_ r_ r_ b_ r_ r_ b_ p_) (ae_ (afin_none (o_ r_ (bt_ [1, 1] rfl rfl (hlk) (fun pp hpp => ak_ (ay_ (al_ (an_ ?_))))))))))))))))
      refine o_ r_ (bj_ r_ r_ g_ (M_ r_ (ak_ (jq_againS (i := (k, v)) (k + 1, pp) hlt (by dsimp only; omega) ?_ ?_))))
      · dsimp only
        rw [hnx]
        exact bc_ 0 r_ (bc_ 0 r_ (bc_ 1 r_ sub_end))
      · (repeat (first | exact True.intro | refine ⟨rfl, ?_⟩))
    · have hlt2 : ¬ (k : Int) < (((t.inputs).map InRow).length : Int) := by omega
      rw [List.take_of_length_le (show (t.inputs).length ≤ k by omega)]
      refine R_ (o_ r_ (bw_ r_ r_ (T_ (am_ (ap_ r_ w_ (av_ (ax_ (ax_ (ba_ (jq_cutS v trivial ?_ ?_))))))))))
      · exact bc_ 0 r_ (bc_ 0 r_ (bc_ 0 r_ sub_end))
      · (repeat (first | exact True.intro | refine ⟨rfl, ?_⟩))
  intro vN0 _
  have hS := catL_size (f := inT) (l := t.inputs) (fun x hx => inT_size (h1 x hx))
  generalize hE1 : Y0 ++ catL inT (t.inputs) = Y1 at *
  have hY1 : Y1.size ≤ 90000000200200 := by rw [← hE1, ByteArray.size_append]; omega
  clear hS hY0
  refine am_ (jc_cut (ι := Value) [] (fun _ => True) (fun _ => [(0, Wptr b), (3, .cell (.val (.pointer (some ⟨bx, 0, none⟩))))]) (fun v => [Wb b v, Bw v (Y1 ++ catL vaT (t.vars)), .blk bx 41 t.row]) ?_ ?_)
  · refine R_ (F_ r_ (L_ 2 r_ (o_ r_ (br_ r_ (fun hlen => M_ r_ (T_ (au_ ?_)))))))
    have eL : ((t.vars).map Wrow).length = (t.vars).length := List.length_map _
    refine jc_loopS (ι := Nat × Value) [] (fun i => i.1 ≤ (t.vars).length) (fun i => (51, .cell (.list ((t.vars).map Wrow))) :: (52, In .i64 (((t.vars).map Wrow).length : Int)) :: (53, In .i64 (i.1 : Int)) :: [(0, Wptr b), (3, .cell (.val (.pointer (some ⟨bx, 0, none⟩))))]) (fun i => [Wb b i.2, Bw i.2 (Y1 ++ catL vaT ((t.vars).take i.1)), .blk bx 41 t.row]) (fun i => (t.vars).length - i.1) (0, vN0) (Nat.zero_le _) ?_ ?_ ?_
    · rw [show Y1 ++ catL vaT ((t.vars).take 0) = Y1 by rw [List.take_zero, catL, ba_nil]]
      exact bc_ 0 r_ (bc_ 0 r_ (bc_ 0 r_ sub_end))
    · (repeat (first | exact True.intro | refine ⟨rfl, ?_⟩))
    rintro ⟨k, v⟩ hk
    dsimp only at hk ⊢
    by_cases hlt : k < (t.vars).length
    · have hlt2 : (k : Int) < (((t.vars).map Wrow).length : Int) := by omega
      have hsz := catL_takeS (f := vaT) (l := t.vars) (fun x hx => vaT_size (h2 x hx)) k
      have hnx := catL_take vaT (Y1) hlt
      have hfs := vaT_size (h2 _ (List.getElem_mem hlt))
      have hYs : (Y1 ++ catL vaT ((t.vars).take k)).size ≤ 90000000200200 + 200000 := by rw [ByteArray.size_append]; omega
      generalize Y1 ++ catL vaT ((t.vars).take k) = Z at hYs hnx ⊢
      have hlk := line0_c (b := b) (v := v) (X := Z) (.inr rfl) (lw_vaT (t.vars)[k]) (by simp) (by simp) (by omega) (by omega)
      have gk := vaT_ok (h2 _ (List.getElem_mem hlt))
      skip
      refine R_ (o_ r_ (bw_ r_ r_ (T_ (am_ (aq_ r_ u_ (as_ (al_ (B_ (R_ (o_ r_ (cc_ r_ r_ g_ r_ r_ b_ (o_ r_ (cb_ r_ r_ (E_ r_ (T_ (an_ (M_ r_ (M_ r_ ?_))))))))))))))))))
      refine o_ r_ (bq_ r_ r_ b_ r_ r_ b_ (o_ r_ (bt_ [0, 0] rfl rfl (hlk) (fun pp hpp => ak_ (ay_ (al_ (an_ (o_ r_ (bj_ r_ r_ g_ (M_ r_ (ak_ (jq_againS (i := (k, v)) (k + 1, pp) hlt (by dsimp only; omega) ?_ ?_))))))))))))
      · dsimp only
        rw [hnx]
        exact bc_ 0 r_ (bc_ 0 r_ (bc_ 0 r_ sub_end))
      · (repeat (first | exact True.intro | refine ⟨rfl, ?_⟩))
    · have hlt2 : ¬ (k : Int) < (((t.vars).map Wrow).length : Int) := by omega
      rw [List.take_of_length_le (show (t.vars).length ≤ k by omega)]
      refine R_ (o_ r_ (bw_ r_ r_ (T_ (am_ (ap_ r_ w_ (av_ (ax_ (ax_ (ba_ (jq_cutS v trivial ?_ ?_))))))))))
      · exact bc_ 0 r_ (bc_ 0 r_ (bc_ 0 r_ sub_end))
      · (repeat (first | exact True.intro | refine ⟨rfl, ?_⟩))
  intro vN1 _
  have hS := catL_size (f := vaT) (l := t.vars) (fun x hx => vaT_size (h2 x hx))
  generalize hE2 : Y1 ++ catL vaT (t.vars) = Y2 at *
  have hY2 : Y2.size ≤ 90000000400200 := by rw [← hE2, ByteArray.size_append]; omega
  clear hS hY1
  refine am_ (jc_cut (ι := Value) [] (fun _ => True) (fun _ => [(0, Wptr b), (3, .cell (.val (.pointer (some ⟨bx, 0, none⟩))))]) (fun v => [Wb b v, Bw v (Y2 ++ catL arT (t.arrays)), .blk bx 41 t.row]) ?_ ?_)
  · refine R_ (F_ r_ (L_ 2 r_ (o_ r_ (br_ r_ (fun hlen => M_ r_ (T_ (au_ ?_)))))))
    have eL : ((t.arrays).map ArRow).length = (t.arrays).length := List.length_map _
    refine jc_loopS (ι := Nat × Value) [] (fun i => i.1 ≤ (t.arrays).length) (fun i => (63, .cell (.list ((t.arrays).map ArRow))) :: (64, In .i64 (((t.arrays).map ArRow).length : Int)) :: (65, In .i64 (i.1 : Int)) :: [(0, Wptr b), (3, .cell (.val (.pointer (some ⟨bx, 0, none⟩))))]) (fun i => [Wb b i.2, Bw i.2 (Y2 ++ catL arT ((t.arrays).take i.1)), .blk bx 41 t.row]) (fun i => (t.arrays).length - i.1) (0, vN1) (Nat.zero_le _) ?_ ?_ ?_
    · rw [show Y2 ++ catL arT ((t.arrays).take 0) = Y2 by rw [List.take_zero, catL, ba_nil]]
      exact bc_ 0 r_ (bc_ 0 r_ (bc_ 0 r_ sub_end))
    · (repeat (first | exact True.intro | refine ⟨rfl, ?_⟩))
    rintro ⟨k, v⟩ hk
    dsimp only at hk ⊢
    by_cases hlt : k < (t.arrays).length
    · have hlt2 : (k : Int) < (((t.arrays).map ArRow).length : Int) := by omega
      have hsz := catL_takeS (f := arT) (l := t.arrays) (fun x hx => arT_size (h3 x hx)) k
      have hnx := catL_take arT (Y2) hlt
      have hfs := arT_size (h3 _ (List.getElem_mem hlt))
      have hYs : (Y2 ++ catL arT ((t.arrays).take k)).size ≤ 90000000400200 + 200000 := by rw [ByteArray.size_append]; omega
      generalize Y2 ++ catL arT ((t.arrays).take k) = Z at hYs hnx ⊢
      have hlk := line0_c (b := b) (v := v) (X := Z) (.inr rfl) (lw_arT (t.arrays)[k]) (by simp) (by simp) (by omega) (by omega)
      have gk := arT_ok (h3 _ (List.getElem_mem hlt))
      obtain ⟨g0, g1⟩ := gk
      refine R_ (o_ r_ (bw_ r_ r_ (T_ (am_ (aq_ r_ u_ (as_ (al_ (B_ (R_ (o_ r_ (cc_ r_ r_ g_ r_ r_ b_ (o_ r_ (cr_ r_ r_ r_ (o_ r_ (bl_ r_ r_ (fun bl => S_ 0 r_ (T_ (jc_anyB 7 none rfl k_ k_ (yM_ r_ ?_)))))))))))))))))))
      refine yF_ r_ (yL_ 0 r_ (yF_ r_ (yL_ 0 r_ (aa_ (fun c => bm_ r_ (numF_c g1) p_) (aa_ (fun c => bq_ r_ r_ b_ r_ r_ b_ p_) (ae_ (afin_none (o_ r_ (bt_ [1, 1] rfl rfl (hlk) (fun pp hpp => ak_ (ay_ (al_ (an_ (o_ r_ (bj_ r_ r_ g_ (M_ r_ (ak_ ?_)))))))))))))))))
      refine jq_againS (i := (k, v)) (k + 1, pp) hlt (by dsimp only; omega) ?_ ?_
      · dsimp only
        rw [hnx]
        exact bc_ 0 r_ (bc_ 0 r_ (bc_ 1 r_ sub_end))
      · (repeat (first | exact True.intro | refine ⟨rfl, ?_⟩))
    · have hlt2 : ¬ (k : Int) < (((t.arrays).map ArRow).length : Int) := by omega
      rw [List.take_of_length_le (show (t.arrays).length ≤ k by omega)]
      refine R_ (o_ r_ (bw_ r_ r_ (T_ (am_ (ap_ r_ w_ (av_ (ax_ (ax_ (ba_ (jq_cutS v trivial ?_ ?_))))))))))
      · exact bc_ 0 r_ (bc_ 0 r_ (bc_ 0 r_ sub_end))
      · (repeat (first | exact True.intro | refine ⟨rfl, ?_⟩))
  intro vN2 _
  have hS := catL_size (f := arT) (l := t.arrays) (fun x hx => arT_size (h3 x hx))
  generalize hE3 : Y2 ++ catL arT (t.arrays) = Y3 at *
  have hY3 : Y3.size ≤ 90000000600200 := by rw [← hE3, ByteArray.size_append]; omega
  clear hS hY2
  refine am_ (jc_cut (ι := Value) [] (fun _ => True) (fun _ => [(0, Wptr b), (3, .cell (.val (.pointer (some ⟨bx, 0, none⟩))))]) (fun v => [Wb b v, Bw v (Y3 ++ catL mdT (t.modes)), .blk bx 41 t.row]) ?_ ?_)
  · refine R_ (F_ r_ (L_ 2 r_ (o_ r_ (br_ r_ (fun hlen => M_ r_ (T_ (au_ ?_)))))))
    have eL : ((t.modes).map MdRow).length = (t.modes).length := List.length_map _
    refine jc_loopS (ι := Nat × Value) [] (fun i => i.1 ≤ (t.modes).length) (fun i => (79, .cell (.list ((t.modes).map MdRow))) :: (80, In .i64 (((t.modes).map MdRow).length : Int)) :: (81, In .i64 (i.1 : Int)) :: [(0, Wptr b), (3, .cell (.val (.pointer (some ⟨bx, 0, none⟩))))]) (fun i => [Wb b i.2, Bw i.2 (Y3 ++ catL mdT ((t.modes).take i.1)), .blk bx 41 t.row]) (fun i => (t.modes).length - i.1) (0, vN2) (Nat.zero_le _) ?_ ?_ ?_
    · rw [show Y3 ++ catL mdT ((t.modes).take 0) = Y3 by rw [List.take_zero, catL, ba_nil]]
      exact bc_ 0 r_ (bc_ 0 r_ (bc_ 0 r_ sub_end))
    · (repeat (first | exact True.intro | refine ⟨rfl, ?_⟩))
    rintro ⟨k, v⟩ hk
    dsimp only at hk ⊢
    by_cases hlt : k < (t.modes).length
    · have hlt2 : (k : Int) < (((t.modes).map MdRow).length : Int) := by omega
      have hsz := catL_takeS (f := mdT) (l := t.modes) (fun x hx => mdT_size (h4 x hx)) k
      have hnx := catL_take mdT (Y3) hlt
      have hfs := mdT_size (h4 _ (List.getElem_mem hlt))
      have hYs : (Y3 ++ catL mdT ((t.modes).take k)).size ≤ 90000000600200 + 200000 := by rw [ByteArray.size_append]; omega
      generalize Y3 ++ catL mdT ((t.modes).take k) = Z at hYs hnx ⊢
      have hlk := line0_c (b := b) (v := v) (X := Z) (.inr rfl) (lw_mdT (t.modes)[k]) (by simp) (by simp) (by omega) (by omega)
      have gk := mdT_ok (h4 _ (List.getElem_mem hlt))
      obtain ⟨g0, g1, g2, g3⟩ := gk
      refine R_ (o_ r_ (bw_ r_ r_ (T_ (am_ (aq_ r_ u_ (as_ (al_ (B_ (R_ (o_ r_ (cc_ r_ r_ g_ r_ r_ b_ (o_ r_ (cr_ r_ r_ r_ (o_ r_ (bl_ r_ r_ (fun bl => S_ 0 r_ (T_ (jc_anyB 12 none rfl k_ k_ (yM_ r_ ?_)))))))))))))))))))
      refine yF_ r_ (yL_ 0 r_ (yF_ r_ (yL_ 0 r_ (yF_ r_ (yL_ 0 r_ (aa_ (fun c => bm_ r_ (num_c _ g2) p_) (yF_ r_ (yL_ 0 r_ (aa_ (fun c => bm_ r_ (num_c _ g3) p_) (aa_ (fun c => bq_ r_ r_ b_ r_ r_ b_ p_) (ae_ (afin_none (o_ r_ (bt_ [1, 1] rfl rfl (hlk) (fun pp hpp => ak_ (ay_ ?_))))))))))))))))
      refine al_ (an_ (o_ r_ (bj_ r_ r_ g_ (M_ r_ (ak_ (jq_againS (i := (k, v)) (k + 1, pp) hlt (by dsimp only; omega) ?_ ?_))))))
      · dsimp only
        rw [hnx]
        exact bc_ 0 r_ (bc_ 0 r_ (bc_ 1 r_ sub_end))
      · (repeat (first | exact True.intro | refine ⟨rfl, ?_⟩))
    · have hlt2 : ¬ (k : Int) < (((t.modes).map MdRow).length : Int) := by omega
      rw [List.take_of_length_le (show (t.modes).length ≤ k by omega)]
      refine R_ (o_ r_ (bw_ r_ r_ (T_ (am_ (ap_ r_ w_ (av_ (ax_ (ax_ (ba_ (jq_cutS v trivial ?_ ?_))))))))))
      · exact bc_ 0 r_ (bc_ 0 r_ (bc_ 0 r_ sub_end))
      · (repeat (first | exact True.intro | refine ⟨rfl, ?_⟩))
  intro vN3 _
  have hS := catL_size (f := mdT) (l := t.modes) (fun x hx => mdT_size (h4 x hx))
  generalize hE4 : Y3 ++ catL mdT (t.modes) = Y4 at *
  have hY4 : Y4.size ≤ 90000000800200 := by rw [← hE4, ByteArray.size_append]; omega
  clear hS hY3
  refine am_ (jc_cut (ι := Value) [] (fun _ => True) (fun _ => [(0, Wptr b), (3, .cell (.val (.pointer (some ⟨bx, 0, none⟩))))]) (fun v => [Wb b v, Bw v (Y4 ++ catL clT (t.claims)), .blk bx 41 t.row]) ?_ ?_)
  · refine R_ (F_ r_ (L_ 2 r_ (o_ r_ (br_ r_ (fun hlen => M_ r_ (T_ (au_ ?_)))))))
    have eL : ((t.claims).map ClRow).length = (t.claims).length := List.length_map _
    refine jc_loopS (ι := Nat × Value) [] (fun i => i.1 ≤ (t.claims).length) (fun i => (100, .cell (.list ((t.claims).map ClRow))) :: (101, In .i64 (((t.claims).map ClRow).length : Int)) :: (102, In .i64 (i.1 : Int)) :: [(0, Wptr b), (3, .cell (.val (.pointer (some ⟨bx, 0, none⟩))))]) (fun i => [Wb b i.2, Bw i.2 (Y4 ++ catL clT ((t.claims).take i.1)), .blk bx 41 t.row]) (fun i => (t.claims).length - i.1) (0, vN3) (Nat.zero_le _) ?_ ?_ ?_
    · rw [show Y4 ++ catL clT ((t.claims).take 0) = Y4 by rw [List.take_zero, catL, ba_nil]]
      exact bc_ 0 r_ (bc_ 0 r_ (bc_ 0 r_ sub_end))
    · (repeat (first | exact True.intro | refine ⟨rfl, ?_⟩))
    rintro ⟨k, v⟩ hk
    dsimp only at hk ⊢
    by_cases hlt : k < (t.claims).length
    · have hlt2 : (k : Int) < (((t.claims).map ClRow).length : Int) := by omega
      have hsz := catL_takeS (f := clT) (l := t.claims) (fun x hx => clT_size (h5 x hx)) k
      have hnx := catL_take clT (Y4) hlt
      have hfs := clT_size (h5 _ (List.getElem_mem hlt))
      have hYs : (Y4 ++ catL clT ((t.claims).take k)).size ≤ 90000000800200 + 200000 := by rw [ByteArray.size_append]; omega
      generalize Y4 ++ catL clT ((t.claims).take k) = Z at hYs hnx ⊢
      have hlk := line0_c (b := b) (v := v) (X := Z) (.inr rfl) (lw_clT (t.claims)[k]) (by simp) (by simp) (by omega) (by omega)
      have gk := clT_ok (h5 _ (List.getElem_mem hlt))
      obtain ⟨g0, g1⟩ := gk
      refine R_ (o_ r_ (bw_ r_ r_ (T_ (am_ (aq_ r_ u_ (as_ (al_ (B_ (R_ (o_ r_ (cc_ r_ r_ g_ r_ r_ b_ (o_ r_ (cr_ r_ r_ r_ (o_ r_ (bl_ r_ r_ (fun bl => S_ 0 r_ (T_ (jc_anyB 8 none rfl k_ k_ (yM_ r_ ?_)))))))))))))))))))
      refine yF_ r_ (yL_ 0 r_ (aa_ (fun c => bm_ r_ (numF_c g0) p_) (yF_ r_ (yL_ 0 r_ (aa_ (fun c => bm_ r_ (numF_c g1) p_) (aa_ (fun c => bq_ r_ r_ b_ r_ r_ b_ p_) (ae_ (afin_none (o_ r_ (bt_ [1, 1] rfl rfl (hlk) (fun pp hpp => ak_ (ay_ (al_ (an_ (o_ r_ (bj_ r_ r_ g_ (M_ r_ ?_)))))))))))))))))
      refine ak_ (jq_againS (i := (k, v)) (k + 1, pp) hlt (by dsimp only; omega) ?_ ?_)
      · dsimp only
        rw [hnx]
        exact bc_ 0 r_ (bc_ 0 r_ (bc_ 1 r_ sub_end))
      · (repeat (first | exact True.intro | refine ⟨rfl, ?_⟩))
    · have hlt2 : ¬ (k : Int) < (((t.claims).map ClRow).length : Int) := by omega
      rw [List.take_of_length_le (show (t.claims).length ≤ k by omega)]
      refine R_ (o_ r_ (bw_ r_ r_ (T_ (am_ (ap_ r_ w_ (av_ (ax_ (ax_ (ba_ (jq_cutS v trivial ?_ ?_))))))))))
      · exact bc_ 0 r_ (bc_ 0 r_ (bc_ 0 r_ sub_end))
      · (repeat (first | exact True.intro | refine ⟨rfl, ?_⟩))
  intro vN4 _
  have hS := catL_size (f := clT) (l := t.claims) (fun x hx => clT_size (h5 x hx))
  generalize hE5 : Y4 ++ catL clT (t.claims) = Y5 at *
  have hY5 : Y5.size ≤ 90000001000200 := by rw [← hE5, ByteArray.size_append]; omega
  clear hS hY4
  have hfine := fine_of 8 20 t.body (by omega) hb hdt
  have hbs := sts_size (sp := spN 1) hfine (by show 2 + 2 * 8 ≤ 100; omega)
  have hlb := fun v => line0_c (b := b) (v := v) (X := Y5) (.inr rfl) lwBody (by simp) (by simp) (by show 5 ≤ _; omega) (by omega)
  have hX1 : (Y5 ++ (⟨#[98, 111, 100, 121, 10]⟩ : ByteArray)).size = Y5.size + 5 := by rw [ByteArray.size_append]; rfl
  have con1 := fun v => wbody_c b 8 t.body 1 (Y5 ++ (⟨#[98, 111, 100, 121, 10]⟩ : ByteArray)) v hfine (by omega) (by omega)
  have hX3 : ((Y5 ++ (⟨#[98, 111, 100, 121, 10]⟩ : ByteArray)) ++ stsT (spN 1) t.body).size = (Y5 ++ (⟨#[98, 111, 100, 121, 10]⟩ : ByteArray)).size + (stsT (spN 1) t.body).size := ByteArray.size_append ..
  have hle := fun v => line0_c (b := b) (v := v) (X := (Y5 ++ (⟨#[98, 111, 100, 121, 10]⟩ : ByteArray)) ++ stsT (spN 1) t.body) (.inr rfl) lwEnd (by simp) (by simp) (by show 4 ≤ _; omega) (by omega)
  refine R_ (M_ r_ (o_ r_ (bq_ r_ r_ b_ r_ r_ b_ (o_ r_ (bt_ [0, 0] rfl rfl (hlb _) (fun pp hpp => T_ (R_ (M_ r_ (F_ r_ (L_ 2 r_ (o_ r_ (bt_ [0, 0] rfl rfl (con1 _) (fun pp hpp => T_ (an_ (M_ r_ (o_ r_ (bq_ r_ r_ b_ r_ r_ b_ (o_ r_ (bt_ [0, 0] rfl rfl (hle _) (fun pp hpp => ak_ ?_))))))))))))))))))))
  have hspn : spN 1 = Ksp := rfl
  refine jq_ret0 (.inr rfl) rfl [0, 0] rfl (fun K h => by
    have h := h pp trivial
    rw [show X ++ tkT t = ((Y5 ++ (⟨#[98, 111, 100, 121, 10]⟩ : ByteArray)) ++ stsT (spN 1) t.body) ++ (⟨#[101, 110, 100, 10]⟩ : ByteArray) by rw [hspn, ← hE5, ← hE4, ← hE3, ← hE2, ← hE1, ← hE0]; simp only [tkT, ByteArray.append_assoc]] at h
    exact h)
end Go.Proofs.YtlniadfidfmckaaGreatDoor
end

section
namespace Go.Proofs.YtlniadfidfmckaaGreatDoor
open Go.Vc
attribute [local irreducible] JL JC JQ OpWp Con ConN HOk
attribute [local irreducible] byteAt runLen isL isD isName hasW rd fineS numS textT hdT stsT stT
set_option maxHeartbeats 4000000

/-- The writer's state: nothing was written, or it holds what was. -/
def WS (b : Nat) (p : Option Addr) (v : Value) (X : ByteArray) : Prop := WP b p ∧ (X.size = 0 → v = NilV)
theorem WS.used {b : Nat} {v : Value} {X Y : ByteArray} (h : 0 < Y.size) : WS b (some ⟨b, 0, none⟩) v (X ++ Y) := ⟨.inr rfl, fun h0 => by rw [ByteArray.size_append] at h0; omega⟩
theorem size0 {X : ByteArray} (h : X.size = 0) : X = ⟨#[]⟩ := by
  apply ByteArray.ext
  apply Array.eq_empty_of_size_eq_zero
  exact h
theorem pProg_c (p : Pg) (hz : PgSz p) (hls : ∀ t ∈ p.tasks, lsS 20 t.body) : Con Tryz.prog 13 [.row p.row] [] (fun K => K (.tup [Str (progF p).1, In .i64 (progF p).2]) []) := by
  have hPr := printable_c p hls
  refine con_intro Tryz.func13 rfl rfl (Nat.le_of_ble_eq_true rfl) (fun c hc => R_ (o_ r_ (ci_ r_ (fun bx => E_ r_ (E_ r_ (T_ (am_ (R_ (A_ 0 r_ (o_ r_ (bm_ r_ (hPr) (o_ r_ (cd_ r_ (T_ (jc_cond rfl (fun hn => ?_) (fun hy => ?_))))))))))))))))
  · have hok : okPg p = false := by simpa using hn
    have e1 : progF p = (⟨#[]⟩, 10) := by unfold progF; rw [if_pos hok]
    refine R_ (E_ r_ (E_ r_ (T_ (ar_ (aw_ (jq_ret2 rfl rfl rfl [] rfl (fun K h => by rw [e1] at h; exact h)))))))
  have hok : okPg p = true := by simpa using hy
  have hokb : ¬ okPg p = false := by rw [hok]; simp
  refine as_ (al_ ?_)
  -- none is too deep
  have eT : (p.tasks.map Tk.row).length = p.tasks.length := List.length_map _
  refine am_ (jc_cut (ι := Unit) [] (fun _ => p.tasks.any (fun t => dpF 8 t.body) = false) (fun _ => [(1, .cell (.val (.pointer (some ⟨bx, 0, none⟩))))]) (fun _ => [.blk bx 31 p.row]) ?_ ?_)
  · refine R_ (F_ r_ (L_ 0 r_ (o_ r_ (br_ r_ (fun hlen => M_ r_ (T_ (au_ ?_)))))))
    refine jc_loopS (ι := Nat) [] (fun k => k ≤ p.tasks.length ∧ (p.tasks.take k).any (fun t => dpF 8 t.body) = false) (fun k => [(1, .cell (.val (.pointer (some ⟨bx, 0, none⟩)))), (17, .cell (.list (p.tasks.map Tk.row))), (18, In .i64 ((p.tasks.map Tk.row).length : Int)), (19, In .i64 (k : Int))]) (fun _ => [.blk bx 31 p.row]) (fun k => p.tasks.length - k) 0 ⟨Nat.zero_le _, rfl⟩ ?_ ?_ ?_
    · exact bc_ 0 r_ sub_end
    · (repeat (first | exact True.intro | refine ⟨rfl, ?_⟩))
    rintro k ⟨hk, hall⟩
    by_cases hlt : k < p.tasks.length
    · have hlt2 : (k : Int) < ((p.tasks.map Tk.row).length : Int) := by omega
      have hD := pdeep_c p.tasks[k].body (hls _ (List.getElem_mem hlt))
      by_cases hd : dpF 8 p.tasks[k].body = true
      · have hany : p.tasks.any (fun t => dpF 8 t.body) = true := any_yes hlt hd
        have e1 : progF p = (⟨#[]⟩, 4) := by unfold progF; rw [if_neg hokb, if_pos hany]
        rw [hd] at hD
        refine R_ (o_ r_ (bw_ r_ r_ (T_ (am_ (aq_ r_ u_ (as_ (al_ (B_ (R_ (o_ r_ (cc_ r_ r_ g_ r_ r_ b_ (o_ r_ (cr_ r_ r_ r_ (o_ r_ (bl_ r_ r_ (fun bl => S_ 0 r_ (T_ (R_ (F_ r_ ?_)))))))))))))))))))
        refine L_ 0 r_ (o_ r_ (bm_ r_ (hD) (T_ (aq_ r_ r_ (R_ (E_ r_ (E_ r_ (T_ (ar_ (az_ (aw_ (aw_ (az_ (aw_ (jq_ret2 rfl rfl rfl [] rfl (fun K h => by rw [e1] at h; exact h))))))))))))))))
      · have hd : dpF 8 p.tasks[k].body = false := by simpa using hd
        rw [hd] at hD
        refine R_ (o_ r_ (bw_ r_ r_ (T_ (am_ (aq_ r_ u_ (as_ (al_ (B_ (R_ (o_ r_ (cc_ r_ r_ g_ r_ r_ b_ (o_ r_ (cr_ r_ r_ r_ (o_ r_ (bl_ r_ r_ (fun bl => S_ 0 r_ (T_ (R_ (F_ r_ ?_)))))))))))))))))))
        refine L_ 0 r_ (o_ r_ (bm_ r_ (hD) (T_ (ap_ r_ r_ (as_ (ay_ (al_ (an_ (o_ r_ (bj_ r_ r_ g_ (M_ r_ (ak_ (jq_againS (k + 1) ⟨hlt, any_snoc hlt hall hd⟩ g_ ?_ ?_)))))))))))))
        · exact bc_ 1 r_ sub_end
        · (repeat (first | exact True.intro | refine ⟨rfl, ?_⟩))
    · have hlt2 : ¬ (k : Int) < ((p.tasks.map Tk.row).length : Int) := by omega
      refine R_ (o_ r_ (bw_ r_ r_ (T_ (am_ (ap_ r_ w_ (av_ (ax_ (ax_ (ba_ (jq_cutS () (by rw [List.take_of_length_le g_] at hall; exact hall) ?_ ?_))))))))))
      · exact bc_ 0 r_ sub_end
      · (repeat (first | exact True.intro | refine ⟨rfl, ?_⟩))
  intro _ hdeep
  have hok2 := hok
  unfold okPg at hok2
  simp only [Bool.and_eq_true, List.all_eq_true, and_assoc] at hok2
  obtain ⟨hR, hSh, hTk⟩ := hok2
  have zr := hz.res
  have zs := hz.shared
  have zl := hz.len
  have htz : ∀ t ∈ p.tasks, (tkT t).size ≤ 60002000000 := fun t ht => tkT_size (hTk t ht) (by simpa using List.any_eq_false.1 hdeep t ht) (hz.tasks t ht)
  refine jc_ownNil 5 1 g_ ?_
  revert bx
  intro bp
  refine R_ (o_ r_ (bu_ r_ r_ r_ r_ r_ (o_ r_ (ci_ r_ (fun bx => E_ r_ (T_ (am_ (jc_cut (ι := Option Addr × Value) [] (fun i => WS bx i.1 i.2 ((⟨#[]⟩ : ByteArray) ++ catL resT (p.res))) (fun _ => [(1, .cell (.val (.pointer (some ⟨bp, 0, none⟩)))), (6, Wptr bx)]) (fun i => [Wblk bx i.1 i.2, Bw i.2 ((⟨#[]⟩ : ByteArray) ++ catL resT (p.res)), .blk bp 31 p.row]) ?_ ?_))))))))
  · refine R_ (F_ r_ (L_ 2 r_ (o_ r_ (br_ r_ (fun hlen => M_ r_ (T_ (au_ ?_)))))))
    have eL : ((p.res).map Wrow).length = (p.res).length := List.length_map _
    refine jc_loopS (ι := Nat × Option Addr × Value) [] (fun i => i.1 ≤ (p.res).length ∧ WS bx i.2.1 i.2.2 ((⟨#[]⟩ : ByteArray) ++ catL resT ((p.res).take i.1))) (fun i => (30, .cell (.list ((p.res).map Wrow))) :: (31, In .i64 (((p.res).map Wrow).length : Int)) :: (32, In .i64 (i.1 : Int)) :: [(1, .cell (.val (.pointer (some ⟨bp, 0, none⟩)))), (6, Wptr bx)]) (fun i => [Wblk bx i.2.1 i.2.2, Bw i.2.2 ((⟨#[]⟩ : ByteArray) ++ catL resT ((p.res).take i.1)), .blk bp 31 p.row]) (fun i => (p.res).length - i.1) (0, none, NilV) ⟨Nat.zero_le _, .inl rfl, fun _ => rfl⟩ ?_ ?_ ?_
    · rw [show (⟨#[]⟩ : ByteArray) ++ catL resT ((p.res).take 0) = (⟨#[]⟩ : ByteArray) by rw [List.take_zero, catL, ba_nil]]
      exact bc_ 0 r_ (bc_ 0 r_ (bc_ 0 r_ sub_end))
    · (repeat (first | exact True.intro | refine ⟨rfl, ?_⟩))
    rintro ⟨k, q, v⟩ ⟨hk, hws⟩
    dsimp only at hk hws ⊢
    by_cases hlt : k < (p.res).length
    · have hlt2 : (k : Int) < (((p.res).map Wrow).length : Int) := by omega
      have hsz := catL_takeS (f := resT) (l := p.res) (fun x hx => resT_size (hR x hx)) k
      have hnx := catL_take resT ((⟨#[]⟩ : ByteArray)) hlt
      have hfs := resT_size (hR _ (List.getElem_mem hlt))
      have hmul : (p.res).length * 200 ≤ 1000 * 200 := Nat.mul_le_mul_right _ zr
      have hYs : ((⟨#[]⟩ : ByteArray) ++ catL resT ((p.res).take k)).size ≤ 0 + 1000 * 200 := by rw [ByteArray.size_append]; show 0 + _ ≤ _; omega
      generalize (⟨#[]⟩ : ByteArray) ++ catL resT ((p.res).take k) = Z at hYs hnx hws ⊢
      have hlk := line0_c (b := bx) (v := v) (p := q) (X := Z) hws.1 (lw_resT (p.res)[k]) (by simp) (by simp) (by omega) (by omega)
      have gk := resT_ok (hR _ (List.getElem_mem hlt))
      have hpos : 0 < (resT (p.res)[k]).size := by unfold resT; rw [ByteArray.size_append]; show 0 < _ + 1; omega
      refine R_ (o_ r_ (bw_ r_ r_ (T_ (am_ (aq_ r_ u_ (as_ (al_ (B_ (R_ (o_ r_ (cc_ r_ r_ g_ r_ r_ b_ (o_ r_ (cb_ r_ r_ (E_ r_ (T_ (an_ (M_ r_ (M_ r_ ?_))))))))))))))))))
      refine o_ r_ (bq_ r_ r_ b_ r_ r_ b_ (o_ r_ (bt_ [0, 0] rfl rfl (hlk) (fun pp hpp => ak_ (ay_ (al_ (an_ (o_ r_ (bj_ r_ r_ g_ (M_ r_ (ak_ (jq_againS (i := (k, q, v)) (k + 1, some ⟨bx, 0, none⟩, pp) ⟨hlt, by dsimp only; rw [hnx]; exact WS.used hpos⟩ (by dsimp only; omega) ?_ ?_))))))))))))
      · dsimp only
        rw [hnx]
        exact bc_ 0 r_ (bc_ 0 r_ (bc_ 0 r_ sub_end))
      · (repeat (first | exact True.intro | refine ⟨rfl, ?_⟩))
    · have hlt2 : ¬ (k : Int) < (((p.res).map Wrow).length : Int) := by omega
      rw [List.take_of_length_le (show (p.res).length ≤ k by omega)] at hws ⊢
      refine R_ (o_ r_ (bw_ r_ r_ (T_ (am_ (ap_ r_ w_ (av_ (ax_ (ax_ (ba_ (jq_cutS (q, v) hws ?_ ?_))))))))))
      · exact bc_ 0 r_ (bc_ 0 r_ (bc_ 0 r_ sub_end))
      · (repeat (first | exact True.intro | refine ⟨rfl, ?_⟩))
  intro q0 hws0
  have hS := catL_size (f := resT) (l := p.res) (fun x hx => resT_size (hR x hx))
  have hmul : (p.res).length * 200 ≤ 1000 * 200 := Nat.mul_le_mul_right _ zr
  generalize hZ1 : (⟨#[]⟩ : ByteArray) ++ catL resT (p.res) = Z1 at *
  have hY1 : Z1.size ≤ 200000 := by rw [← hZ1, ByteArray.size_append]; show 0 + _ ≤ _; omega
  clear hS hmul
  refine am_ (jc_cut (ι := Option Addr × Value) [] (fun i => WS bx i.1 i.2 (Z1 ++ catL shT (p.shared))) (fun _ => [(1, .cell (.val (.pointer (some ⟨bp, 0, none⟩)))), (6, Wptr bx)]) (fun i => [Wblk bx i.1 i.2, Bw i.2 (Z1 ++ catL shT (p.shared)), .blk bp 31 p.row]) ?_ ?_)
  · refine R_ (F_ r_ (L_ 2 r_ (o_ r_ (br_ r_ (fun hlen => M_ r_ (T_ (au_ ?_)))))))
    have eL : ((p.shared).map ShRow).length = (p.shared).length := List.length_map _
    refine jc_loopS (ι := Nat × Option Addr × Value) [] (fun i => i.1 ≤ (p.shared).length ∧ WS bx i.2.1 i.2.2 (Z1 ++ catL shT ((p.shared).take i.1))) (fun i => (42, .cell (.list ((p.shared).map ShRow))) :: (43, In .i64 (((p.shared).map ShRow).length : Int)) :: (44, In .i64 (i.1 : Int)) :: [(1, .cell (.val (.pointer (some ⟨bp, 0, none⟩)))), (6, Wptr bx)]) (fun i => [Wblk bx i.2.1 i.2.2, Bw i.2.2 (Z1 ++ catL shT ((p.shared).take i.1)), .blk bp 31 p.row]) (fun i => (p.shared).length - i.1) (0, q0.1, q0.2) ⟨Nat.zero_le _, by dsimp only; rw [List.take_zero, catL, ba_nil]; exact hws0⟩ ?_ ?_ ?_
    · rw [show Z1 ++ catL shT ((p.shared).take 0) = Z1 by rw [List.take_zero, catL, ba_nil]]
      exact bc_ 0 r_ (bc_ 0 r_ (bc_ 0 r_ sub_end))
    · (repeat (first | exact True.intro | refine ⟨rfl, ?_⟩))
    rintro ⟨k, q, v⟩ ⟨hk, hws⟩
    dsimp only at hk hws ⊢
    by_cases hlt : k < (p.shared).length
    · have hlt2 : (k : Int) < (((p.shared).map ShRow).length : Int) := by omega
      have hsz := catL_takeS (f := shT) (l := p.shared) (fun x hx => shT_size (hSh x hx)) k
      have hnx := catL_take shT (Z1) hlt
      have hfs := shT_size (hSh _ (List.getElem_mem hlt))
      have hmul : (p.shared).length * 200 ≤ 1000 * 200 := Nat.mul_le_mul_right _ zs
      have hYs : (Z1 ++ catL shT ((p.shared).take k)).size ≤ 200000 + 1000 * 200 := by rw [ByteArray.size_append]; omega
      generalize Z1 ++ catL shT ((p.shared).take k) = Z at hYs hnx hws ⊢
      have hlk := line0_c (b := bx) (v := v) (p := q) (X := Z) hws.1 (lw_shT (p.shared)[k]) (by simp) (by simp) (by omega) (by omega)
      have gk := shT_ok (hSh _ (List.getElem_mem hlt))
      have hpos : 0 < (shT (p.shared)[k]).size := by unfold shT; rw [ByteArray.size_append]; show 0 < _ + 1; omega
      obtain ⟨g0, g1, g2⟩ := gk
      refine R_ (o_ r_ (bw_ r_ r_ (T_ (am_ (aq_ r_ u_ (as_ (al_ (B_ (R_ (o_ r_ (cc_ r_ r_ g_ r_ r_ b_ (o_ r_ (cr_ r_ r_ r_ (o_ r_ (bl_ r_ r_ (fun bl => S_ 0 r_ (T_ (jc_anyB 11 none rfl k_ k_ (yM_ r_ ?_)))))))))))))))))))
      refine yF_ r_ (yF_ r_ (yL_ 0 r_ (yF_ r_ (yF_ r_ (yL_ 0 r_ (aa_ (fun c => bm_ r_ (numF_c g1) p_) (yF_ r_ (yL_ 0 r_ (aa_ (fun c => bq_ r_ r_ b_ r_ r_ b_ p_) (ae_ (afin_none (o_ r_ (bt_ [1, 1] rfl rfl (hlk) (fun pp hpp => ak_ (ay_ (al_ ?_))))))))))))))))
      refine an_ (o_ r_ (bj_ r_ r_ g_ (M_ r_ (ak_ (jq_againS (i := (k, q, v)) (k + 1, some ⟨bx, 0, none⟩, pp) ⟨hlt, by dsimp only; rw [hnx]; exact WS.used hpos⟩ (by dsimp only; omega) ?_ ?_)))))
      · dsimp only
        rw [hnx]
        exact bc_ 0 r_ (bc_ 0 r_ (bc_ 1 r_ sub_end))
      · (repeat (first | exact True.intro | refine ⟨rfl, ?_⟩))
    · have hlt2 : ¬ (k : Int) < (((p.shared).map ShRow).length : Int) := by omega
      rw [List.take_of_length_le (show (p.shared).length ≤ k by omega)] at hws ⊢
      refine R_ (o_ r_ (bw_ r_ r_ (T_ (am_ (ap_ r_ w_ (av_ (ax_ (ax_ (ba_ (jq_cutS (q, v) hws ?_ ?_))))))))))
      · exact bc_ 0 r_ (bc_ 0 r_ (bc_ 0 r_ sub_end))
      · (repeat (first | exact True.intro | refine ⟨rfl, ?_⟩))
  intro q1 hws1
  have hS := catL_size (f := shT) (l := p.shared) (fun x hx => shT_size (hSh x hx))
  have hmul : (p.shared).length * 200 ≤ 1000 * 200 := Nat.mul_le_mul_right _ zs
  generalize hZ2 : Z1 ++ catL shT (p.shared) = Z2 at *
  have hY2 : Z2.size ≤ 400000 := by rw [← hZ2, ByteArray.size_append]; omega
  clear hS hmul hY1
  refine am_ (jc_cut (ι := Option Addr × Value) [] (fun i => WS bx i.1 i.2 (Z2 ++ catL tkT (p.tasks))) (fun _ => [(1, .cell (.val (.pointer (some ⟨bp, 0, none⟩)))), (6, Wptr bx)]) (fun i => [Wblk bx i.1 i.2, Bw i.2 (Z2 ++ catL tkT (p.tasks)), .blk bp 31 p.row]) ?_ ?_)
  · refine R_ (F_ r_ (L_ 2 r_ (o_ r_ (br_ r_ (fun hlen => M_ r_ (T_ (au_ ?_)))))))
    have eL : ((p.tasks).map Tk.row).length = (p.tasks).length := List.length_map _
    refine jc_loopS (ι := Nat × Option Addr × Value) [] (fun i => i.1 ≤ (p.tasks).length ∧ WS bx i.2.1 i.2.2 (Z2 ++ catL tkT ((p.tasks).take i.1))) (fun i => (62, .cell (.list ((p.tasks).map Tk.row))) :: (63, In .i64 (((p.tasks).map Tk.row).length : Int)) :: (64, In .i64 (i.1 : Int)) :: [(1, .cell (.val (.pointer (some ⟨bp, 0, none⟩)))), (6, Wptr bx)]) (fun i => [Wblk bx i.2.1 i.2.2, Bw i.2.2 (Z2 ++ catL tkT ((p.tasks).take i.1)), .blk bp 31 p.row]) (fun i => (p.tasks).length - i.1) (0, q1.1, q1.2) ⟨Nat.zero_le _, by dsimp only; rw [List.take_zero, catL, ba_nil]; exact hws1⟩ ?_ ?_ ?_
    · rw [show Z2 ++ catL tkT ((p.tasks).take 0) = Z2 by rw [List.take_zero, catL, ba_nil]]
      exact bc_ 0 r_ (bc_ 0 r_ (bc_ 0 r_ sub_end))
    · (repeat (first | exact True.intro | refine ⟨rfl, ?_⟩))
    rintro ⟨k, q, v⟩ ⟨hk, hws⟩
    dsimp only at hk hws ⊢
    by_cases hlt : k < (p.tasks).length
    · have hlt2 : (k : Int) < (((p.tasks).map Tk.row).length : Int) := by omega
      have hsz := catL_takeS (f := tkT) (l := p.tasks) (htz) k
      have hnx := catL_take tkT (Z2) hlt
      have hfs := htz _ (List.getElem_mem hlt)
      have hmul : (p.tasks).length * 60002000000 ≤ 1000 * 60002000000 := Nat.mul_le_mul_right _ zl
      have hYs : (Z2 ++ catL tkT ((p.tasks).take k)).size ≤ 400000 + 1000 * 60002000000 := by rw [ByteArray.size_append]; omega
      generalize Z2 ++ catL tkT ((p.tasks).take k) = Z at hYs hnx hws ⊢
      have hdk : dpF 8 p.tasks[k].body = false := by simpa using List.any_eq_false.1 hdeep _ (List.getElem_mem hlt)
      have hlk := wtask_c bx q v Z p.tasks[k] hws.1 (hTk _ (List.getElem_mem hlt)) hdk (hz.tasks _ (List.getElem_mem hlt)) (by omega)
      have hpos : 0 < (tkT p.tasks[k]).size := by unfold tkT; rw [ByteArray.size_append]; show 0 < _ + 4; omega
      refine R_ (o_ r_ (bw_ r_ r_ (T_ (am_ (aq_ r_ u_ (as_ (al_ (B_ (R_ (o_ r_ (cc_ r_ r_ g_ r_ r_ b_ (o_ r_ (cr_ r_ r_ r_ (o_ r_ (bl_ r_ r_ (fun bl => S_ 0 r_ (T_ (an_ (M_ r_ ?_)))))))))))))))))))
      refine A_ 0 r_ (o_ r_ (bt_ [1, 1] rfl rfl (hlk) (fun pp hpp => ak_ (ay_ (al_ (an_ (o_ r_ (bj_ r_ r_ g_ (M_ r_ (ak_ (jq_againS (i := (k, q, v)) (k + 1, some ⟨bx, 0, none⟩, pp) ⟨hlt, by dsimp only; rw [hnx]; exact WS.used hpos⟩ (by dsimp only; omega) ?_ ?_)))))))))))
      · dsimp only
        rw [hnx]
        exact bc_ 0 r_ (bc_ 0 r_ (bc_ 1 r_ sub_end))
      · (repeat (first | exact True.intro | refine ⟨rfl, ?_⟩))
    · have hlt2 : ¬ (k : Int) < (((p.tasks).map Tk.row).length : Int) := by omega
      rw [List.take_of_length_le (show (p.tasks).length ≤ k by omega)] at hws ⊢
      refine R_ (o_ r_ (bw_ r_ r_ (T_ (am_ (ap_ r_ w_ (av_ (ax_ (ax_ (ba_ (jq_cutS (q, v) hws ?_ ?_))))))))))
      · exact bc_ 0 r_ (bc_ 0 r_ (bc_ 0 r_ sub_end))
      · (repeat (first | exact True.intro | refine ⟨rfl, ?_⟩))
  intro q2 hws2
  have hS := catL_size (f := tkT) (l := p.tasks) (htz)
  have hmul : (p.tasks).length * 60002000000 ≤ 1000 * 60002000000 := Nat.mul_le_mul_right _ zl
  generalize hZ3 : Z2 ++ catL tkT (p.tasks) = Z3 at *
  have hY3 : Z3.size ≤ 60002000400000 := by rw [← hZ3, ByteArray.size_append]; omega
  clear hS hmul hY2
  have hprog : Z3 = progT p := by rw [← hZ3, ← hZ2, ← hZ1, nil_ba]; rfl
  subst hprog
  have hLen := builderLen_c bx q2.1 q2.2 (progT p)
  have e0 : progF p = if 8192 < (progT p).size then (⟨#[]⟩, 4) else (progT p, 0) := by unfold progF; rw [if_neg hokb, if_neg (by rw [hdeep]; simp)]
  by_cases hbig : 8192 < (progT p).size
  · have hbig2 : (8192 : Int) < ((progT p).size : Int) := by omega
    rw [if_pos hbig] at e0
    refine am_ (R_ (M_ r_ (N_ r_ (F_ r_ (o_ r_ (bi_ [0, 0] r_ r_ (hLen) (o_ r_ (bz_ r_ r_ (T_ (aq_ r_ u_ (R_ (E_ r_ (E_ r_ (T_ (ar_ (aw_ (jq_ret2 rfl rfl rfl [] rfl (fun K h => by rw [e0] at h; exact h))))))))))))))))))
  · have hbig2 : ¬ (8192 : Int) < ((progT p).size : Int) := by omega
    rw [if_neg hbig] at e0
    by_cases hz0 : (progT p).size = 0
    · have hv := hws2.2 hz0
      have hX := size0 hz0
      rw [hX, hv] at hLen ⊢
      rw [hX] at e0 hbig2
      have hStr := builderString0_c bx q2.1
      refine am_ (R_ (M_ r_ (N_ r_ (F_ r_ (o_ r_ (bi_ [0, 0] r_ r_ (hLen) (o_ r_ (bz_ r_ r_ (T_ (ap_ r_ r_ (as_ (al_ (R_ (M_ r_ (N_ r_ (F_ r_ (o_ r_ (bi_ [0, 0] r_ r_ (hStr) ?_))))))))))))))))))
      refine E_ r_ (E_ r_ (T_ (ar_ (jq_ret2 rfl rfl rfl [] rfl (fun K h => by rw [e0] at h; exact h)))))
    · have hStr := builderString_c bx q2.1 q2.2 (progT p) (by omega) (by omega)
      refine am_ (R_ (M_ r_ (N_ r_ (F_ r_ (o_ r_ (bi_ [0, 0] r_ r_ (hLen) (o_ r_ (bz_ r_ r_ (T_ (ap_ r_ w_ (as_ (al_ (R_ (M_ r_ (N_ r_ (F_ r_ (o_ r_ (bi_ [0, 0] r_ r_ (hStr) ?_))))))))))))))))))
      refine E_ r_ (E_ r_ (T_ (ar_ (jq_ret2 rfl rfl rfl [] rfl (fun K h => by rw [e0] at h; exact h)))))
end Go.Proofs.YtlniadfidfmckaaGreatDoor
end
