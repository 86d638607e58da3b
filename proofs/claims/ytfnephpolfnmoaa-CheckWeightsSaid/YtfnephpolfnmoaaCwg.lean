import Derived.Test.YtfnephpolfnmoaaCwf
import Derived.Test.YtfnephpolfnmoaaVcd
namespace Go.Proofs.Ytfnephpolfnmoaa
open Go.Vc
set_option maxHeartbeats 4000000
attribute [local irreducible] JL JC JQ OpWp Con ConN

/-! The law, in plain words -/
theorem wOne_nn (f : Nat) (s : Sm) : 0 ≤ wOne f s := (wOne_bd f s).1
theorem wAll_lim (f : Nat) : ∀ (l : List Sm) (n : Int), 0 ≤ n → n ≤ 1099511627776 → wAll f l n = lim (n + wAll f l 0)
  | [], n, h, h' => by simp only [wAll, lim]; omega
  | s :: l, n, h, h' => by
    have h1 := wOne_bd f s
    have h2 := wAll_bd f l 0 (by omega)
    have b1 := lim_bd (n + wOne f s) (by omega)
    have b2 := lim_bd (0 + wOne f s) (by omega)
    rw [wAll, wAll, wAll_lim f l _ b1.1 b1.2, wAll_lim f l _ b2.1 b2.2]
    unfold lim
    omega
theorem wAll_app (f : Nat) (b : List Sm) : ∀ (a : List Sm) (n : Int), wAll f (a ++ b) n = wAll f b (wAll f a n)
  | [], n => by simp [wAll]
  | s :: a, n => by simp only [List.cons_append, wAll]; exact wAll_app f b a _
theorem weight_app (a b : List Sm) (ha : weightOf a ≤ 300) (hb : weightOf b ≤ 300) : weightOf (a ++ b) = weightOf a + weightOf b := by
  have h1 := wAll_bd 20 a 0 (by omega)
  have h2 := wAll_bd 20 b 0 (by omega)
  unfold weightOf at *
  rw [wAll_app, wAll_lim 20 b _ h1.1 h1.2]
  unfold lim
  omega
theorem wAll_congr {f f' : Nat} : ∀ {l : List Sm} {n : Int}, (∀ s ∈ l, wOne f s = wOne f' s) → wAll f l n = wAll f' l n
  | [], n, _ => by simp [wAll]
  | s :: l, n, h => by
    rw [wAll, wAll, h s (by simp)]
    exact wAll_congr (fun t ht => h t (by simp [ht]))
theorem wOne_deep : ∀ (d f f' : Nat) (s : Sm), d < f → d < f' → Shal d s → wOne f s = wOne f' s
  | d, 0, _, _, h, _, _ => by omega
  | d, _ + 1, 0, _, _, h, _ => by omega
  | 0, f + 1, f' + 1, s, _, _, h => by
    obtain ⟨h, _, _⟩ := h
    rw [wOne, wOne, if_pos h, if_pos h]
  | d + 1, f + 1, f' + 1, s, h1, h2, h => by
    rcases h with ⟨h, _, _⟩ | ⟨_, _, _, _, h5, h6⟩
    · rw [wOne, wOne, if_pos h, if_pos h]
    · have e1 : wAll f s.thn 0 = wAll f' s.thn 0 := wAll_congr (fun t ht => wOne_deep d f f' t (by omega) (by omega) (h5 t ht))
      have e2 : wAll f s.els 0 = wAll f' s.els 0 := wAll_congr (fun t ht => wOne_deep d f f' t (by omega) (by omega) (h6 t ht))
      rw [wOne, wOne, e1, e2]
theorem body_deep {l : List Sm} (h : ∀ s ∈ l, Shal 3 s) : wAll 19 l 0 = weightOf l :=
  wAll_congr (fun t ht => wOne_deep 3 19 20 t (by omega) (by omega) (h t ht))

abbrev One : Ex := ⟨1, 1, ⟨#[]⟩, 0, []⟩
abbrev Wh (k : Int) (a : List Sm) : Sm := ⟨4, ⟨#[]⟩, [], [One], k, 0, a, []⟩
theorem one_w : wPartsL [One] 20 0 = 1 := by decide +kernel
theorem while_w (k : Int) (a : List Sm) (hk : 0 ≤ k ∧ k ≤ 32) (h : Good 300 a) : weightOf [Wh k a] = 2 + (k + 1) * (3 + weightOf a) := by
  have h0 := wAll_bd 20 a 0 (by omega)
  have hw := h.weight
  have e : wAll 19 a 0 = weightOf a := body_deep h.shal
  have hn : 0 ≤ weightOf a := h0.1
  have e1 : wOne 20 (Wh k a) = lim (2 + (max 0 (min k 33) + 1) * lim (2 + 1 + wAll 19 a 0)) := by
    rw [wOne, if_neg (show ¬ ((Wh k a).kind = 1 ∨ (Wh k a).kind = 2) by show ¬ ((4 : Int) = 1 ∨ (4 : Int) = 2); decide), if_neg (show ¬ (Wh k a).kind = 3 by show ¬ (4 : Int) = 3; decide), if_pos (show (Wh k a).kind = 4 from rfl)]
    show lim (2 + (max 0 (min k 33) + 1) * lim (2 + wPartsL [One] 20 0 + wAll 19 a 0)) = _
    rw [one_w]
  have e2 : max 0 (min k 33) = k := by omega
  have e3 : lim (2 + 1 + weightOf a) = 3 + weightOf a := by unfold lim; omega
  have e4 : weightOf [Wh k a] = lim (0 + wOne 20 (Wh k a)) := by rw [weightOf, wAll, wAll]
  rw [e4, e1, e, e2, e3]
  have b1 : 0 ≤ (k + 1) * (3 + weightOf a) := Int.mul_nonneg (by omega) (by omega)
  have b2 : (k + 1) * (3 + weightOf a) ≤ 33 * 303 := Int.mul_le_mul (by omega) (by omega) (by omega) (by omega)
  unfold lim
  omega

/-! The sanity check -/
abbrev Ni : Ex := ⟨2, 0, ⟨#[105]⟩, 0, []⟩
abbrev AwIn : Sm := ⟨1, ⟨#[105]⟩, [], [⟨4, 0, ⟨#[]⟩, 1, [Ni, One]⟩], 0, 0, [], []⟩
abbrev Aw : List Sm := [⟨4, ⟨#[]⟩, [], [Ni], 10, 3, [AwIn], []⟩]
theorem aw_w : weightOf Aw = 79 := by
  simp [weightOf, wAll, wOne, wPartsL, wParts, lim, Sm.kind, Sm.index, Sm.value, Sm.max, Sm.thn]
  decide
theorem aw_l : labelsOf Aw = [3] := by decide +kernel

theorem aw_len : (labelsOf Aw).length ≤ 1000000 := by rw [aw_l]; decide

theorem awake_c : Con Try.prog 5 [] [] (fun K => K (Bl true) []) := by
  have hw := aw_w
  refine con_intro Try.func5 rfl rfl (Nat.le_of_ble_eq_true rfl) (fun c hc => ?_)
  refine jc_seq ?_
  refine jc_region ?_
  refine jl_op ?_ (nb rfl)
  refine ow_assign rfl ?_
  refine jl_nil ?_
  refine jq_then ?_
  refine jc_seq ?_
  refine jc_region ?_
  refine jl_op ?_ (nb rfl)
  refine ow_call0 rfl (Name_c _) ?_
  refine jl_op ?_ (nb rfl)
  refine ow_alloc rfl rfl (fun bl => ?_)
  refine jl_op0 ?_
  refine ow_storeAll 0 rfl rfl rfl rfl rfl rfl ?_
  refine jl_nil ?_
  refine jq_then ?_
  refine jc_seq ?_
  refine jc_any rfl rfl (by kernel_rfl) (by kernel_rfl) ?_
  refine any_op (fun c => ow_loadAll 0 rfl rfl rfl rfl ⟨rfl, List.Perm.refl _⟩) ?_
  refine any_op (fun c => ow_buildSlice rfl rfl (nb rfl) rfl rfl (nb rfl) ⟨rfl, List.Perm.refl _⟩) ?_
  refine any_op (fun c => ow_loadAll 0 rfl rfl rfl rfl ⟨rfl, List.Perm.refl _⟩) ?_
  refine any_op (fun c => ow_call0 rfl (Num_c _) ⟨rfl, List.Perm.refl _⟩) ?_
  refine any_op (fun c => ow_call0 rfl (Bin_c _ _ _) ⟨rfl, List.Perm.refl _⟩) ?_
  refine any_op (fun c => ow_buildSlice rfl rfl (nb rfl) rfl rfl (nb rfl) ⟨rfl, List.Perm.refl _⟩) ?_
  refine any_op (fun c => ow_build rfl rfl rfl rfl rfl ⟨rfl, List.Perm.refl _⟩) ?_
  refine any_op (fun c => ow_buildSlice rfl rfl (nb rfl) rfl rfl (nb rfl) ⟨rfl, List.Perm.refl _⟩) ?_
  refine any_op (fun c => ow_build rfl rfl rfl rfl rfl ⟨rfl, List.Perm.refl _⟩) ?_
  refine any_op (fun c => ow_buildSlice rfl rfl (nb rfl) rfl rfl (nb rfl) ⟨rfl, List.Perm.refl _⟩) ?_
  refine any_op (fun c => ow_assign rfl ⟨rfl, List.Perm.refl _⟩) ?_
  refine any_nil ?_
  refine jq_then ?_
  refine jc_seq ?_
  refine jc_sle 2 rfl (SLe.cell (CLe.list (.cons (sm_le 4 ⟨#[]⟩ [] [Ni] 10 3 [AwIn] [] .nil (ex1_le Ni) (CLe.list (.cons (sm_le 1 ⟨#[105]⟩ [] [⟨4, 0, ⟨#[]⟩, 1, [Ni, One]⟩] 0 0 [] [] .nil (ex1_le _) .nil .nil) .nil)) .nil) .nil))) ?_
  refine jc_region ?_
  refine jl_op ?_ (nb rfl)
  refine ow_move rfl ?_
  refine jl_op ?_ (nb rfl)
  refine ow_call0 rfl (Weight_c Aw) ?_
  refine jl_op ?_ (nb rfl)
  refine ow_eql rfl rfl ?_
  refine jl_op ?_ (nb rfl)
  refine ow_move rfl ?_
  refine jl_guardY rfl (by first | assumption | exact decide_eq_true (by first | assumption | omega) | exact decide_eq_false (by first | assumption | omega) | with_reducible rfl) (nb rfl) ?_
  refine ow_move rfl ?_
  refine jl_guardY rfl (by first | assumption | exact decide_eq_true (by first | assumption | omega) | exact decide_eq_false (by first | assumption | omega) | with_reducible rfl) (nb rfl) ?_
  refine ow_call0 rfl (Labels_c Aw aw_len) ?_
  refine jl_guardY rfl (by first | assumption | exact decide_eq_true (by first | assumption | omega) | exact decide_eq_false (by first | assumption | omega) | with_reducible rfl) (nb rfl) ?_
  refine ow_buildSlice rfl rfl (nb rfl) rfl rfl (nb rfl) ?_
  refine jl_guardY rfl (by first | assumption | exact decide_eq_true (by first | assumption | omega) | exact decide_eq_false (by first | assumption | omega) | with_reducible rfl) (nb rfl) ?_
  refine ow_call0 rfl (SameInts_c _ [3]) ?_
  refine jl_op ?_ (nb rfl)
  refine ow_pickT rfl (by first | assumption | exact decide_eq_true (by first | assumption | omega) | exact decide_eq_false (by first | assumption | omega) | with_reducible rfl) rfl ?_
  refine jl_op ?_ (nb rfl)
  refine ow_assign rfl ?_
  refine jl_nil ?_
  refine jq_then ?_
  refine jc_ret ?_
  refine jq_ret1 rfl rfl [] rfl (fun K h => by rw [show decide (labelsOf Aw = [3]) = true from decide_eq_true aw_l]; exact h)

theorem Weight1_c (s : Sm) : Con Try.prog 9 [.cell (.list [s.row'])] [] (fun K => K (In .i64 (weightOf [s])) []) := by
  have := Weight_c [s]
  rwa [List.map_cons, List.map_nil, Sm.row_eq] at this

theorem New_c' (L : List Int) : Con Try.prog 6 [.cell (.list (L.map Irow))] [] (fun K => ∀ b : Nat, True → K (Ptr b) [Dk b L]) := by
  have := New_c L
  simpa using this
theorem inR_of {L : List Int} (h : ∀ n ∈ L, (Lit.int .i64 n).wf = true) : InR L := fun x hx => by
  have := h x hx
  simpa [Lit.wf, IntKind.min, IntKind.max, IntKind.signed, IntKind.bits] using this

theorem law_c (L : List Int) (hL : InR L) (n : Int) (hn : 0 ≤ n ∧ n ≤ 255) : Con Try.prog 3 [.cell (.list (L.map Irow)), .cell (.val (.int .u8 n))] [] (fun K => K (Bl true) []) := by
  by_cases hLn : L.length ≤ 400
  · refine con_intro Try.func3 rfl rfl (Nat.le_of_ble_eq_true rfl) (fun c hc => ?_)
    refine jc_seq ?_
    refine jc_region ?_
    refine jl_op ?_ (nb rfl)
    refine ow_assign rfl ?_
    refine jl_nil ?_
    refine jq_then ?_
    refine jc_seq ?_
    refine jc_seq ?_
    refine jc_region ?_
    refine jl_op ?_ (nb rfl)
    refine ow_move rfl ?_
    refine jl_op ?_ (nb rfl)
    refine ow_call0 rfl (Few_c _) ?_
    refine jl_op ?_ (nb rfl)
    refine ow_notdec rfl ?_
    refine jl_nil ?_
    refine jq_then ?_
    refine jc_condd rfl (fun h => absurd hLn h) (fun _ => ?_)
    refine jc_skip ?_
    refine jq_then ?_
    refine jc_seq ?_
    refine jc_region ?_
    refine jl_op ?_ (nb rfl)
    refine ow_move rfl ?_
    refine jl_op (ow_callP [] rfl rfl (New_c' L) (fun bd hbd => ?_)) (nb rfl)
    refine jl_op ?_ (nb rfl)
    refine ow_assign rfl ?_
    refine jl_nil ?_
    refine jq_then ?_
    refine jc_seq ?_
    refine jc_region ?_
    refine jl_op ?_ (nb rfl)
    refine ow_move rfl ?_
    refine jl_op (ow_callP [0] rfl rfl (Program_c hL hLn _) (fun ls hls => ?_)) (nb rfl)
    obtain ⟨hlen1, hg1⟩ := hls
    obtain ⟨a, rfl⟩ : ∃ a, ls = [a] := List.length_eq_one_iff.1 (by rw [hlen1]; decide)
    have ha := hg1 a (by simp)
    refine jl_op (ow_field1 36 rfl rfl rfl rfl rfl ?_) (nb rfl)
    refine jl_op (ow_indexAddrMapE (f := Trow) (l := [a]) (k := 0) rfl rfl (by simp) rfl rfl (nb rfl) ?_) (nb rfl)
    refine jl_op ?_ (nb rfl)
    refine ow_fieldAddrPlace rfl rfl rfl (nb rfl) rfl (nb rfl) ?_
    refine jl_op ?_ (nb rfl)
    refine ow_loadPlace rfl rfl ?_
    refine jl_op ?_ (nb rfl)
    refine ow_assign rfl ?_
    refine jl_nil ?_
    refine jq_then ?_
    refine jc_seq ?_
    refine jc_region ?_
    refine jl_op ?_ (nb rfl)
    refine ow_move rfl ?_
    refine jl_op (ow_callP [0] rfl rfl (Program_c hL hLn _) (fun ls hls => ?_)) (nb rfl)
    obtain ⟨hlen2, hg2⟩ := hls
    obtain ⟨b, rfl⟩ : ∃ b, ls = [b] := List.length_eq_one_iff.1 (by rw [hlen2]; decide)
    have hb := hg2 b (by simp)
    refine jl_op (ow_field1 36 rfl rfl rfl rfl rfl ?_) (nb rfl)
    refine jl_op (ow_indexAddrMapE (f := Trow) (l := [b]) (k := 0) rfl rfl (by simp) rfl rfl (nb rfl) ?_) (nb rfl)
    have hk : 0 ≤ n.tmod 32 ∧ n.tmod 32 ≤ 31 := by
      have h1 := Int.tmod_nonneg 32 hn.1
      have h2 := Int.tmod_lt_of_pos n (show (0 : Int) < 32 by omega)
      omega
    refine jl_op ?_ (nb rfl)
    refine ow_fieldAddrPlace rfl rfl rfl (nb rfl) rfl (nb rfl) ?_
    refine jl_op ?_ (nb rfl)
    refine ow_loadPlace rfl rfl ?_
    refine jl_op ?_ (nb rfl)
    refine ow_assign rfl ?_
    refine jl_nil ?_
    refine jq_then ?_
    refine jc_seq ?_
    refine jc_region ?_
    refine jl_op ?_ (nb rfl)
    refine ow_move rfl ?_
    refine jl_op ?_ (nb rfl)
    refine ow_convI64 rfl rfl rfl (by omega) ?_
    refine jl_op ?_ (nb rfl)
    refine ow_rem rfl rfl (by omega) ?_
    refine jl_op ?_ (nb rfl)
    refine ow_assign rfl ?_
    refine jl_nil ?_
    refine jq_then ?_
    refine jc_seq ?_
    refine jc_sle (s' := .cell (.list (a.map Sm.row))) 6 rfl (fun _ _ _ h => h) ?_
    refine jc_sle (s' := .cell (.list (b.map Sm.row))) 7 rfl (fun _ _ _ h => h) ?_
    generalize n.tmod 32 = k at hk ⊢
    refine jc_region ?_
    refine jl_op ?_ (nb rfl)
    refine ow_move rfl ?_
    refine jl_op ?_ (nb rfl)
    refine ow_call0 rfl (Num_c _) ?_
    refine jl_op ?_ (nb rfl)
    refine ow_buildSlice rfl rfl (nb rfl) rfl rfl (nb rfl) ?_
    refine jl_op ?_ (nb rfl)
    refine ow_move rfl ?_
    refine jl_op ?_ (nb rfl)
    refine ow_build rfl rfl rfl rfl rfl ?_
    refine jl_op (ow_alloc rfl rfl (fun b9 => ?_)) (nb rfl)
    refine jl_op0 ?_
    refine ow_storeAll 0 rfl rfl rfl rfl rfl rfl ?_
    refine jl_nil ?_
    refine jq_then ?_
    refine jc_seq ?_
    refine jc_region ?_
    refine jl_op ?_ (nb rfl)
    refine ow_loadAll 0 rfl rfl rfl rfl ?_
    refine jl_op (ow_alloc rfl rfl (fun b10 => ?_)) (nb rfl)
    refine jl_op0 ?_
    refine ow_storeAll 0 rfl rfl rfl rfl rfl rfl ?_
    refine jl_nil ?_
    refine jq_then ?_
    refine jc_seq ?_
    refine jc_region ?_
    refine jl_op ?_ (nb rfl)
    refine ow_move rfl ?_
    refine jl_op ?_ (nb rfl)
    refine ow_add64 rfl rfl (by omega) ?_
    refine jl_op ?_ (nb rfl)
    refine ow_fieldAddr rfl rfl rfl (nb rfl) ?_
    refine jl_op0 ?_
    refine ow_store1 0 rfl rfl rfl rfl (nb rfl) ?_
    refine jl_nil ?_
    refine jq_then ?_
    refine jc_seq ?_
    have r9 := sm_le' 4 ⟨#[]⟩ [] [One] k 0 a [] .nil (ex1_le One) (.refl _) .nil
    have r10 := sm_le' 4 ⟨#[]⟩ [] [One] (k + 1) 0 a [] .nil (ex1_le One) (.refl _) .nil
    (first | refine jc_row 0 (Sm.row' (Wh (k + 1) a)) rfl r10 ?_ | refine jc_row 1 (Sm.row' (Wh (k + 1) a)) rfl r10 ?_ | refine jc_row 2 (Sm.row' (Wh (k + 1) a)) rfl r10 ?_)
    (first | refine jc_row 0 (Sm.row' (Wh k a)) rfl r9 ?_ | refine jc_row 1 (Sm.row' (Wh k a)) rfl r9 ?_ | refine jc_row 2 (Sm.row' (Wh k a)) rfl r9 ?_ | refine jc_row 3 (Sm.row' (Wh k a)) rfl r9 ?_)
    refine jc_reset [(6, .cell (.list (a.map Sm.row))), (7, .cell (.list (b.map Sm.row))), (8, In .i64 k), (9, Ptr b9), (10, Ptr b10)] [.blk b9 45 (Sm.row' (Wh k a)), .blk b10 45 (Sm.row' (Wh (k + 1) a))] ?_ ?_ ?_
    · (repeat (first | exact True.intro | refine ⟨rfl, ?_⟩))
    · refine sub_step 0 rfl ?_
      refine sub_step 0 rfl ?_
      exact sub_end
    have la := ha.len
    have lb := hb.len
    refine jc_region ?_
    refine jl_op (ow_buildSliceOwn rfl rfl (nb rfl) rfl rfl (nb rfl) (fun v0 hv0 fv0 => ?_)) (nb rfl)
    refine jl_op ?_ (nb rfl)
    refine ow_move rfl ?_
    refine jl_op (ow_appendMF (f := Sm.row) (l1 := []) (l2 := a) 0 rfl rfl rfl rfl rfl rfl rfl (fun s => by rw [Sm.row_eq]; rfl) (by show (0 + _) * 136 ≤ _; omega) (by simp only [List.length_nil]; omega) (fun v1 hv1 fv1 => ?_)) (nb rfl)
    refine jl_op ?_ (nb rfl)
    refine ow_move rfl ?_
    refine jl_op (ow_appendMF (f := Sm.row) (l1 := a) (l2 := b) 0 rfl rfl rfl rfl rfl rfl rfl (fun s => by rw [Sm.row_eq]; rfl) (by show (_ + _) * 136 ≤ _; omega) (by omega) (fun v2 hv2 fv2 => ?_)) (nb rfl)
    refine jl_freezeF 46 0 rfl rfl (fv2 (fv1 fv0)) ?_
    refine jl_op ?_ (nb rfl)
    refine ow_assign rfl ?_
    refine jl_nil ?_
    refine jq_then ?_
    refine jc_seq ?_
    refine jc_reset [(6, .cell (.list (a.map Sm.row))), (7, .cell (.list (b.map Sm.row))), (8, In .i64 k), (9, Ptr b9), (10, Ptr b10), (11, .cell (.list ((a ++ b).map Sm.row)))] [.blk b9 45 (Sm.row' (Wh k a)), .blk b10 45 (Sm.row' (Wh (k + 1) a))] ?_ ?_ ?_
    · (repeat (first | exact True.intro | refine ⟨rfl, ?_⟩))
    · refine sub_step 0 rfl ?_
      refine sub_step 0 rfl ?_
      exact sub_end
    have wa := ha.weight
    have wb := hb.weight
    have pa : 0 ≤ weightOf a := (wAll_bd 20 a 0 (by omega)).1
    have pb : 0 ≤ weightOf b := (wAll_bd 20 b 0 (by omega)).1
    have e1 := weight_app a b wa wb
    have e2 := while_w k a (by omega) ha
    have e3 := while_w (k + 1) a (by omega) ha
    have e4 : weightOf [Wh (k + 1) a] - weightOf [Wh k a] = 3 + weightOf a := by
      rw [e2, e3, show (k + 1 + 1) * (3 + weightOf a) = (k + 1) * (3 + weightOf a) + (3 + weightOf a) by rw [Int.add_mul, Int.one_mul]]
      omega
    have m1 : 0 ≤ weightOf [Wh k a] ∧ weightOf [Wh k a] ≤ 1099511627776 := wAll_bd 20 _ 0 (by omega)
    have m2 : 0 ≤ weightOf [Wh (k + 1) a] ∧ weightOf [Wh (k + 1) a] ≤ 1099511627776 := wAll_bd 20 _ 0 (by omega)
    have m3 : 0 ≤ (k + 1) * (3 + weightOf a) := Int.mul_nonneg (by omega) (by omega)
    have m4 : (k + 1) * (3 + weightOf a) ≤ 33 * 303 := Int.mul_le_mul (by omega) (by omega) (by omega) (by omega)
    have g1 := labels_len (l := a) (by omega) ha.shal
    have g2 := labels_len (l := b) (by omega) hb.shal
    have g3 := labels_len (l := a ++ b) (by simp only [List.length_append]; omega) (fun s hs => (List.mem_append.1 hs).elim (ha.shal s) (hb.shal s))
    have g4 : ((((labelsOf (a ++ b)).map Irow).length : Nat) : Int) = (((labelsOf a).map Irow).length : Int) + (((labelsOf b).map Irow).length : Int) := by
      simp [labelsOf]
    have g5 : ((labelsOf a).map Irow).length ≤ 111100 := by simpa using g1
    have g6 : ((labelsOf b).map Irow).length ≤ 111100 := by simpa using g2
    clear e3
    refine jc_any rfl rfl (by kernel_rfl) (by kernel_rfl) ?_
    refine any_op (fun c => ow_move rfl ⟨rfl, List.Perm.refl _⟩) ?_
    refine any_op (fun c => ow_call0 rfl (Weight_c _) ⟨rfl, List.Perm.refl _⟩) ?_
    refine any_op (fun c => ow_move rfl ⟨rfl, List.Perm.refl _⟩) ?_
    refine any_op (fun c => ow_call0 rfl (Weight_c _) ⟨rfl, List.Perm.refl _⟩) ?_
    refine any_op (fun c => ow_move rfl ⟨rfl, List.Perm.refl _⟩) ?_
    refine any_op (fun c => ow_call0 rfl (Weight_c _) ⟨rfl, List.Perm.refl _⟩) ?_
    refine any_op (fun c => ow_add64 rfl rfl (by omega) ⟨rfl, List.Perm.refl _⟩) ?_
    refine any_op (fun c => ow_eql rfl rfl ⟨rfl, List.Perm.refl _⟩) ?_
    refine any_op (fun c => ow_move rfl ⟨rfl, List.Perm.refl _⟩) ?_
    refine any_guardY rfl (by first | assumption | exact decide_eq_true (by first | assumption | omega) | exact decide_eq_false (by first | assumption | omega) | with_reducible rfl) (fun c => ow_loadAll 1 rfl rfl rfl rfl ⟨rfl, List.Perm.refl _⟩) ?_
    refine any_guardY rfl (by first | assumption | exact decide_eq_true (by first | assumption | omega) | exact decide_eq_false (by first | assumption | omega) | with_reducible rfl) (fun c => ow_buildSlice rfl rfl (nb rfl) rfl rfl (nb rfl) ⟨rfl, List.Perm.refl _⟩) ?_
    refine any_guardY rfl (by first | assumption | exact decide_eq_true (by first | assumption | omega) | exact decide_eq_false (by first | assumption | omega) | with_reducible rfl) (fun c => ow_call0 rfl (Weight1_c (Wh (k + 1) a)) ⟨rfl, List.Perm.refl _⟩) ?_
    refine any_guardY rfl (by first | assumption | exact decide_eq_true (by first | assumption | omega) | exact decide_eq_false (by first | assumption | omega) | with_reducible rfl) (fun c => ow_loadAll 0 rfl rfl rfl rfl ⟨rfl, List.Perm.refl _⟩) ?_
    refine any_guardY rfl (by first | assumption | exact decide_eq_true (by first | assumption | omega) | exact decide_eq_false (by first | assumption | omega) | with_reducible rfl) (fun c => ow_buildSlice rfl rfl (nb rfl) rfl rfl (nb rfl) ⟨rfl, List.Perm.refl _⟩) ?_
    refine any_guardY rfl (by first | assumption | exact decide_eq_true (by first | assumption | omega) | exact decide_eq_false (by first | assumption | omega) | with_reducible rfl) (fun c => ow_call0 rfl (Weight1_c (Wh k a)) ⟨rfl, List.Perm.refl _⟩) ?_
    refine any_guardY rfl (by first | assumption | exact decide_eq_true (by first | assumption | omega) | exact decide_eq_false (by first | assumption | omega) | with_reducible rfl) (fun c => ow_sub64 rfl rfl (by omega) ⟨rfl, List.Perm.refl _⟩) ?_
    refine any_guardY rfl (by first | assumption | exact decide_eq_true (by first | assumption | omega) | exact decide_eq_false (by first | assumption | omega) | with_reducible rfl) (fun c => ow_move rfl ⟨rfl, List.Perm.refl _⟩) ?_
    refine any_guardY rfl (by first | assumption | exact decide_eq_true (by first | assumption | omega) | exact decide_eq_false (by first | assumption | omega) | with_reducible rfl) (fun c => ow_call0 rfl (Weight_c _) ⟨rfl, List.Perm.refl _⟩) ?_
    refine any_guardY rfl (by first | assumption | exact decide_eq_true (by first | assumption | omega) | exact decide_eq_false (by first | assumption | omega) | with_reducible rfl) (fun c => ow_add64 rfl rfl (by omega) ⟨rfl, List.Perm.refl _⟩) ?_
    refine any_guardY rfl (by first | assumption | exact decide_eq_true (by first | assumption | omega) | exact decide_eq_false (by first | assumption | omega) | with_reducible rfl) (fun c => ow_eql rfl rfl ⟨rfl, List.Perm.refl _⟩) ?_
    refine any_op (fun c => ow_pickT rfl (by first | assumption | exact decide_eq_true (by first | assumption | omega) | exact decide_eq_false (by first | assumption | omega) | with_reducible rfl) rfl ⟨rfl, List.Perm.refl _⟩) ?_
    refine any_op (fun c => ow_move rfl ⟨rfl, List.Perm.refl _⟩) ?_
    refine any_guardY rfl (by first | assumption | exact decide_eq_true (by first | assumption | omega) | exact decide_eq_false (by first | assumption | omega) | with_reducible rfl) (fun c => ow_loadAll 0 rfl rfl rfl rfl ⟨rfl, List.Perm.refl _⟩) ?_
    refine any_guardY rfl (by first | assumption | exact decide_eq_true (by first | assumption | omega) | exact decide_eq_false (by first | assumption | omega) | with_reducible rfl) (fun c => ow_buildSlice rfl rfl (nb rfl) rfl rfl (nb rfl) ⟨rfl, List.Perm.refl _⟩) ?_
    refine any_guardY rfl (by first | assumption | exact decide_eq_true (by first | assumption | omega) | exact decide_eq_false (by first | assumption | omega) | with_reducible rfl) (fun c => ow_call0 rfl (Weight1_c (Wh k a)) ⟨rfl, List.Perm.refl _⟩) ?_
    refine any_guardY rfl (by first | assumption | exact decide_eq_true (by first | assumption | omega) | exact decide_eq_false (by first | assumption | omega) | with_reducible rfl) (fun c => ow_move rfl ⟨rfl, List.Perm.refl _⟩) ?_
    refine any_guardY rfl (by first | assumption | exact decide_eq_true (by first | assumption | omega) | exact decide_eq_false (by first | assumption | omega) | with_reducible rfl) (fun c => ow_add64 rfl rfl (by omega) ⟨rfl, List.Perm.refl _⟩) ?_
    refine any_guardY rfl (by first | assumption | exact decide_eq_true (by first | assumption | omega) | exact decide_eq_false (by first | assumption | omega) | with_reducible rfl) (fun c => ow_move rfl ⟨rfl, List.Perm.refl _⟩) ?_
    refine any_guardY rfl (by first | assumption | exact decide_eq_true (by first | assumption | omega) | exact decide_eq_false (by first | assumption | omega) | with_reducible rfl) (fun c => ow_call0 rfl (Weight_c _) ⟨rfl, List.Perm.refl _⟩) ?_
    refine any_guardY rfl (by first | assumption | exact decide_eq_true (by first | assumption | omega) | exact decide_eq_false (by first | assumption | omega) | with_reducible rfl) (fun c => ow_add64 rfl rfl (by omega) ⟨rfl, List.Perm.refl _⟩) ?_
    refine any_guardY rfl (by first | assumption | exact decide_eq_true (by first | assumption | omega) | exact decide_eq_false (by first | assumption | omega) | with_reducible rfl) (fun c => ow_mul64 rfl rfl (by omega) ⟨rfl, List.Perm.refl _⟩) ?_
    refine any_guardY rfl (by first | assumption | exact decide_eq_true (by first | assumption | omega) | exact decide_eq_false (by first | assumption | omega) | with_reducible rfl) (fun c => ow_add64 rfl rfl (by omega) ⟨rfl, List.Perm.refl _⟩) ?_
    refine any_guardY rfl (by first | assumption | exact decide_eq_true (by first | assumption | omega) | exact decide_eq_false (by first | assumption | omega) | with_reducible rfl) (fun c => ow_eql rfl rfl ⟨rfl, List.Perm.refl _⟩) ?_
    refine any_op (fun c => ow_pickT rfl (by first | assumption | exact decide_eq_true (by first | assumption | omega) | exact decide_eq_false (by first | assumption | omega) | with_reducible rfl) rfl ⟨rfl, List.Perm.refl _⟩) ?_
    refine any_op (fun c => ow_move rfl ⟨rfl, List.Perm.refl _⟩) ?_
    refine any_guardY rfl (by first | assumption | exact decide_eq_true (by first | assumption | omega) | exact decide_eq_false (by first | assumption | omega) | with_reducible rfl) (fun c => ow_move rfl ⟨rfl, List.Perm.refl _⟩) ?_
    refine any_guardY rfl (by first | assumption | exact decide_eq_true (by first | assumption | omega) | exact decide_eq_false (by first | assumption | omega) | with_reducible rfl) (fun c => ow_call0 rfl (Labels_c _ (by omega)) ⟨rfl, List.Perm.refl _⟩) ?_
    refine any_guardY rfl (by first | assumption | exact decide_eq_true (by first | assumption | omega) | exact decide_eq_false (by first | assumption | omega) | with_reducible rfl) (fun c => ow_len rfl (fun hlen => ⟨rfl, List.Perm.refl _⟩)) ?_
    refine any_guardY rfl (by first | assumption | exact decide_eq_true (by first | assumption | omega) | exact decide_eq_false (by first | assumption | omega) | with_reducible rfl) (fun c => ow_move rfl ⟨rfl, List.Perm.refl _⟩) ?_
    refine any_guardY rfl (by first | assumption | exact decide_eq_true (by first | assumption | omega) | exact decide_eq_false (by first | assumption | omega) | with_reducible rfl) (fun c => ow_call0 rfl (Labels_c _ (by omega)) ⟨rfl, List.Perm.refl _⟩) ?_
    refine any_guardY rfl (by first | assumption | exact decide_eq_true (by first | assumption | omega) | exact decide_eq_false (by first | assumption | omega) | with_reducible rfl) (fun c => ow_len rfl (fun hlen => ⟨rfl, List.Perm.refl _⟩)) ?_
    refine any_guardY rfl (by first | assumption | exact decide_eq_true (by first | assumption | omega) | exact decide_eq_false (by first | assumption | omega) | with_reducible rfl) (fun c => ow_move rfl ⟨rfl, List.Perm.refl _⟩) ?_
    refine any_guardY rfl (by first | assumption | exact decide_eq_true (by first | assumption | omega) | exact decide_eq_false (by first | assumption | omega) | with_reducible rfl) (fun c => ow_call0 rfl (Labels_c _ (by omega)) ⟨rfl, List.Perm.refl _⟩) ?_
    refine any_guardY rfl (by first | assumption | exact decide_eq_true (by first | assumption | omega) | exact decide_eq_false (by first | assumption | omega) | with_reducible rfl) (fun c => ow_len rfl (fun hlen => ⟨rfl, List.Perm.refl _⟩)) ?_
    refine any_guardY rfl (by first | assumption | exact decide_eq_true (by first | assumption | omega) | exact decide_eq_false (by first | assumption | omega) | with_reducible rfl) (fun c => ow_add64 rfl rfl (by omega) ⟨rfl, List.Perm.refl _⟩) ?_
    refine any_guardY rfl (by first | assumption | exact decide_eq_true (by first | assumption | omega) | exact decide_eq_false (by first | assumption | omega) | with_reducible rfl) (fun c => ow_eql rfl rfl ⟨rfl, List.Perm.refl _⟩) ?_
    refine any_op (fun c => ow_pickT rfl (by first | assumption | exact decide_eq_true (by first | assumption | omega) | exact decide_eq_false (by first | assumption | omega) | with_reducible rfl) rfl ⟨rfl, List.Perm.refl _⟩) ?_
    refine any_op (fun c => ow_move rfl ⟨rfl, List.Perm.refl _⟩) ?_
    refine any_guardY rfl (by first | assumption | exact decide_eq_true (by first | assumption | omega) | exact decide_eq_false (by first | assumption | omega) | with_reducible rfl) (fun c => ow_call0 rfl (awake_c) ⟨rfl, List.Perm.refl _⟩) ?_
    refine any_op (fun c => ow_pickT rfl (by first | assumption | exact decide_eq_true (by first | assumption | omega) | exact decide_eq_false (by first | assumption | omega) | with_reducible rfl) rfl ⟨rfl, List.Perm.refl _⟩) ?_
    refine any_op (fun c => ow_assign rfl ⟨rfl, List.Perm.refl _⟩) ?_
    refine any_nil ?_
    refine jq_then ?_
    refine jc_ret ?_
    refine jq_ret1 rfl rfl [] rfl (fun K h => h)
  · refine con_intro Try.func3 rfl rfl (Nat.le_of_ble_eq_true rfl) (fun c hc => ?_)
    refine jc_seq ?_
    refine jc_region ?_
    refine jl_op ?_ (nb rfl)
    refine ow_assign rfl ?_
    refine jl_nil ?_
    refine jq_then ?_
    refine jc_seq ?_
    refine jc_seq ?_
    refine jc_region ?_
    refine jl_op ?_ (nb rfl)
    refine ow_move rfl ?_
    refine jl_op ?_ (nb rfl)
    refine ow_call0 rfl (Few_c _) ?_
    refine jl_op ?_ (nb rfl)
    refine ow_notdec rfl ?_
    refine jl_nil ?_
    refine jq_then ?_
    refine jc_condd rfl (fun _ => ?_) (fun h => absurd hLn h)
    refine jc_seq ?_
    refine jc_region ?_
    refine jl_op ?_ (nb rfl)
    refine ow_call0 rfl (awake_c) ?_
    refine jl_op ?_ (nb rfl)
    refine ow_assign rfl ?_
    refine jl_nil ?_
    refine jq_then ?_
    refine jc_ret ?_
    refine jq_then_ret ?_
    refine jq_ret1 rfl rfl [] rfl (fun K h => h)
end Go.Proofs.Ytfnephpolfnmoaa
