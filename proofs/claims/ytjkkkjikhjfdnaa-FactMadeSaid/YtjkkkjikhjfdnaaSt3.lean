import Derived.Test.YtjkkkjikhjfdnaaSt2
namespace Go.Proofs.Ytjkkkjikhjfdnaa
open Go.Vc
attribute [local irreducible] JL JC JQ OpWp Con ConN
set_option maxHeartbeats 4000000

def SymP (V : Value) (l : List Tm) (a m b : Nat) : Prop :=
  Con Try.prog 60 [.cell (.val V), In .i64 (a : Int), In .i64 (m : Int), In .i64 (b : Int), CF] [Ow V l] (fun K => ∀ l' : List Tm, (Mv a b l l' ∧ So kOf l' a b) → K (.tup []) [Ow V l'])

theorem symA (V : Value) (l : List Tm) (a m b : Nat) (hm : m = a + 1) (hmb : m < b) (hb : b ≤ l.length) (hl : l.length ≤ 1000000) (hok : okT l) (hs : So kOf l m b) : SymP V l a m b := by
  unfold SymP
  refine con_intro Try.func60 rfl rfl (Nat.le_of_ble_eq_true rfl) (fun c hc => ?_)
  refine jc_seq ?_
  refine jc_seq ?_
  refine jc_region ?_
  refine jl_op ?_ (nb rfl)
  refine ow_move rfl ?_
  refine jl_op ?_ (nb rfl)
  refine ow_move rfl ?_
  refine jl_op ?_ (nb rfl)
  refine ow_sub64 rfl rfl (by omega) ?_
  refine jl_op ?_ (nb rfl)
  refine ow_eql rfl rfl ?_
  refine jl_nil ?_
  refine jq_then ?_
  refine jc_condd rfl (fun _ => ?_) (fun h => absurd (show (m : Int) - (a : Int) = 1 by omega) h)
  refine jc_seq ?_
  refine jc_region ?_
  refine jl_op ?_ (nb rfl)
  refine ow_move rfl ?_
  refine jl_op ?_ (nb rfl)
  refine ow_assign rfl ?_
  refine jl_nil ?_
  refine jq_then ?_
  refine jc_seq ?_
  refine jc_region ?_
  refine jl_op ?_ (nb rfl)
  refine ow_move rfl ?_
  refine jl_op ?_ (nb rfl)
  refine ow_assign rfl ?_
  refine jl_nil ?_
  refine jq_then ?_
  refine jc_seq ?_
  refine jc_block ?_
  refine jc_loopS (ι := Nat × Nat) [] (fun i => m ≤ i.1 ∧ i.1 ≤ i.2 ∧ i.2 ≤ b ∧ (∀ q, m ≤ q → q < i.1 → kk kOf l q ≤ kk kOf l a) ∧ ∀ q, i.2 ≤ q → q < b → kk kOf l a ≤ kk kOf l q) (fun i => [(0, .cell (.val V)), (1, In .i64 (a : Int)), (4, CF), (10, In .i64 (i.1 : Int)), (11, In .i64 (i.2 : Int))]) (fun _ => [Ow V l]) (fun i => i.2 - i.1) (m, b) ⟨Nat.le_refl _, by dsimp only; omega, Nat.le_refl _, fun q h1 h2 => by dsimp only at h2; omega, fun q h1 h2 => by dsimp only at h1; omega⟩ ?_ ?_ ?_
  · refine sub_step 0 rfl ?_
    exact sub_end
  · (repeat (first | exact True.intro | refine ⟨rfl, ?_⟩))
  · rintro ⟨i, j⟩ ⟨h1, h2, h3, h4, h5⟩
    dsimp only at h1 h2 h3 h4 h5 ⊢
    refine jc_reset [(0, .cell (.val V)), (1, In .i64 (a : Int)), (4, CF), (10, In .i64 (i : Int)), (11, In .i64 (j : Int))] [Ow V l] ?_ ⟨[0], [], rfl⟩ ?_
    · (repeat (first | exact True.intro | refine ⟨rfl, ?_⟩))
    refine jc_seq ?_
    refine jc_seq ?_
    refine jc_region ?_
    refine jl_op ?_ (nb rfl)
    refine ow_move rfl ?_
    refine jl_op ?_ (nb rfl)
    refine ow_move rfl ?_
    refine jl_op ?_ (nb rfl)
    refine ow_lss rfl rfl ?_
    refine jl_nil ?_
    refine jq_then ?_
    refine jc_condd rfl (fun hlt => ?_) (fun hge => ?_)
    · have hh : (i + j) / 2 < l.length := by omega
      have ha : a < l.length := by omega
      have hcmp := cmp_c l[(i + j) / 2] l[a] (hok _ (List.getElem_mem hh)) (hok _ (List.getElem_mem ha))
      have k1 := kk_get kOf hh
      have k2 := kk_get kOf ha
      refine jc_skip ?_
      refine jq_then ?_
      refine jc_block ?_
      refine jc_seq ?_
      refine jc_region ?_
      refine jl_op ?_ (nb rfl)
      refine ow_move rfl ?_
      refine jl_op ?_ (nb rfl)
      refine ow_move rfl ?_
      refine jl_op ?_ (nb rfl)
      refine ow_add64 rfl rfl (by omega) ?_
      refine jl_op ?_ (nb rfl)
      refine ow_convU64 rfl rfl rfl (by omega) ?_
      refine jl_op ?_ (nb rfl)
      refine ow_shr1 rfl rfl (by omega) ?_
      refine jl_op ?_ (nb rfl)
      refine ow_convI64 rfl rfl rfl (by omega) ?_
      refine jl_op ?_ (nb rfl)
      refine ow_assign rfl ?_
      refine jl_nil ?_
      refine jq_then ?_
      refine jc_seq ?_
      refine jc_any rfl rfl (by kernel_rfl) (by kernel_rfl) ?_
      refine any_op (fun c => ow_move rfl ⟨rfl, List.Perm.refl _⟩) ?_
      refine any_op (fun c => ow_move rfl ⟨rfl, List.Perm.refl _⟩) ?_
      refine any_op (fun c => ow_move rfl ⟨rfl, List.Perm.refl _⟩) ?_
      refine any_op (fun c => ow_indexOwn 0 rfl rfl rfl (by omega) (by first | omega | (simp only [List.length_map]; omega) | (simp only [List.length_map, List.length_set]; omega)) rfl ⟨rfl, List.Perm.refl _⟩) ?_
      refine any_op (fun c => ow_loadInnN 0 ((i + j) / 2) rfl rfl rfl (by omega) (map_at hh) rfl ⟨rfl, List.Perm.refl _⟩) ?_
      refine any_op (fun c => ow_move rfl ⟨rfl, List.Perm.refl _⟩) ?_
      refine any_op (fun c => ow_move rfl ⟨rfl, List.Perm.refl _⟩) ?_
      refine any_op (fun c => ow_indexOwn 0 rfl rfl rfl (by omega) (by first | omega | (simp only [List.length_map]; omega) | (simp only [List.length_map, List.length_set]; omega)) rfl ⟨rfl, List.Perm.refl _⟩) ?_
      refine any_op (fun c => ow_loadInnN 0 a rfl rfl rfl (by omega) (map_at ha) rfl ⟨rfl, List.Perm.refl _⟩) ?_
      refine any_op (fun c => ow_callv0 rfl rfl (hcmp) ⟨rfl, List.Perm.refl _⟩) ?_
      refine any_op (fun c => ow_lss rfl rfl ⟨rfl, List.Perm.refl _⟩) ?_
      refine any_nil ?_
      refine jq_then ?_
      refine jc_condd rfl (fun hneg => ?_) (fun hpos => ?_)
      · have hle : kk kOf l ((i + j) / 2) ≤ kk kOf l a := by rw [k1, k2]; show l[(i + j) / 2].1 ≤ l[a].1; omega
        refine jc_region ?_
        refine jl_op ?_ (nb rfl)
        refine ow_move rfl ?_
        refine jl_op ?_ (nb rfl)
        refine ow_add64 rfl rfl (by omega) ?_
        refine jl_op ?_ (nb rfl)
        refine ow_assign rfl ?_
        refine jl_nil ?_
        refine jq_block ?_
        refine jq_againS (i := (i, j)) ((i + j) / 2 + 1, j) ⟨by dsimp only; omega, by dsimp only; omega, h3, fun q g1 g2 => ?_, h5⟩ (by dsimp only; omega) ?_ ?_
        · dsimp only at g2
          have := hs q ((i + j) / 2) g1 (by omega) (by omega)
          omega
        · refine sub_step 0 rfl ?_
          exact sub_end
        · dsimp only
          rw [show (((i + j) / 2 + 1 : Nat) : Int) = ((i : Int) + (j : Int)) / 2 + 1 by omega]
          (repeat (first | exact True.intro | refine ⟨rfl, ?_⟩))
      · have hle : kk kOf l a ≤ kk kOf l ((i + j) / 2) := by rw [k1, k2]; show l[a].1 ≤ l[(i + j) / 2].1; omega
        refine jc_region ?_
        refine jl_op ?_ (nb rfl)
        refine ow_move rfl ?_
        refine jl_op ?_ (nb rfl)
        refine ow_assign rfl ?_
        refine jl_nil ?_
        refine jq_block ?_
        refine jq_againS (i := (i, j)) (i, (i + j) / 2) ⟨h1, by dsimp only; omega, by dsimp only; omega, h4, fun q g1 g2 => ?_⟩ (by dsimp only; omega) ?_ ?_
        · dsimp only at g1
          have := hs ((i + j) / 2) q (by omega) g1 (by omega)
          omega
        · refine sub_step 0 rfl ?_
          exact sub_end
        · dsimp only
          rw [show (((i + j) / 2 : Nat) : Int) = ((i : Int) + (j : Int)) / 2 by omega]
          (repeat (first | exact True.intro | refine ⟨rfl, ?_⟩))
    · obtain rfl : i = j := by omega
      refine jc_exit ?_
      refine jq_then_exit ?_
      refine jq_then_exit ?_
      refine jq_block_exit ?_
      refine jq_then ?_
      refine jc_seq ?_
      refine jc_seq ?_
      refine jc_region ?_
      refine jl_op ?_ (nb rfl)
      refine ow_move rfl ?_
      refine jl_op ?_ (nb rfl)
      refine ow_assign rfl ?_
      refine jl_nil ?_
      refine jq_then ?_
      refine jc_block ?_
      refine jc_loopS (ι := Nat × List Tm) [] (fun k => a ≤ k.1 ∧ k.1 ≤ i - 1 ∧ Mv a b l k.2 ∧ ∀ p, k.2[p]? = l[shfI a k.1 p]?) (fun k => [(0, .cell (.val V)), (10, In .i64 (i : Int)), (13, In .i64 (k.1 : Int))]) (fun k => [Ow V k.2]) (fun k => i - k.1) (a, l) ⟨Nat.le_refl _, by dsimp only; omega, Mv.refl _ _ _, fun p => by dsimp only; rw [shf_zero]⟩ ?_ ?_ ?_
      · refine sub_step 0 rfl ?_
        exact sub_end
      · (repeat (first | exact True.intro | refine ⟨rfl, ?_⟩))
      · rintro ⟨k, t⟩ ⟨g1, g2, g3, g4⟩
        dsimp only at g1 g2 g3 g4 ⊢
        have htl : t.length = l.length := g3.len
        refine jc_reset [(0, .cell (.val V)), (10, In .i64 (i : Int)), (13, In .i64 (k : Int))] [Ow V t] ?_ ⟨[0], [], rfl⟩ ?_
        · (repeat (first | exact True.intro | refine ⟨rfl, ?_⟩))
        refine jc_seq ?_
        refine jc_seq ?_
        refine jc_region ?_
        refine jl_op ?_ (nb rfl)
        refine ow_move rfl ?_
        refine jl_op ?_ (nb rfl)
        refine ow_move rfl ?_
        refine jl_op ?_ (nb rfl)
        refine ow_sub64 rfl rfl (by omega) ?_
        refine jl_op ?_ (nb rfl)
        refine ow_lss rfl rfl ?_
        refine jl_nil ?_
        refine jq_then ?_
        refine jc_condd rfl (fun hlt => ?_) (fun hge => ?_)
        · have hj1 : k < t.length := by omega
          have hj2 : k + 1 < t.length := by omega
          refine jc_skip ?_
          refine jq_then ?_
          refine jc_seq ?_
          refine jc_block ?_
          refine jc_anyF 14 none [2,3,4] rfl (by kernel_rfl) (by kernel_rfl) (by kernel_rfl) rfl ?_
          refine any_op (fun c => ow_move rfl ⟨rfl, List.Perm.refl _⟩) ?_
          refine any_op (fun c => ow_move rfl ⟨rfl, List.Perm.refl _⟩) ?_
          refine any_op (fun c => ow_move rfl ⟨rfl, List.Perm.refl _⟩) ?_
          refine any_op (fun c => ow_move rfl ⟨rfl, List.Perm.refl _⟩) ?_
          refine any_op (fun c => ow_add64 rfl rfl (by omega) ⟨rfl, List.Perm.refl _⟩) ?_
          refine any_op (fun c => ow_move rfl ⟨rfl, List.Perm.refl _⟩) ?_
          refine any_op (fun c => ow_move rfl ⟨rfl, List.Perm.refl _⟩) ?_
          refine any_op (fun c => ow_add64 rfl rfl (by omega) ⟨rfl, List.Perm.refl _⟩) ?_
          refine any_op (fun c => ow_indexOwn 0 rfl rfl rfl (by omega) (by first | omega | (simp only [List.length_map]; omega) | (simp only [List.length_map, List.length_set]; omega)) rfl ⟨rfl, List.Perm.refl _⟩) ?_
          refine any_op (fun c => ow_loadInnN 0 (k + 1) rfl rfl rfl (by omega) (map_at hj2) rfl ⟨rfl, List.Perm.refl _⟩) ?_
          refine any_op (fun c => ow_move rfl ⟨rfl, List.Perm.refl _⟩) ?_
          refine any_op (fun c => ow_move rfl ⟨rfl, List.Perm.refl _⟩) ?_
          refine any_op (fun c => ow_indexOwn 0 rfl rfl rfl (by omega) (by first | omega | (simp only [List.length_map]; omega) | (simp only [List.length_map, List.length_set]; omega)) rfl ⟨rfl, List.Perm.refl _⟩) ?_
          refine any_op (fun c => ow_loadInnN 0 k rfl rfl rfl (by omega) (map_at hj1) rfl ⟨rfl, List.Perm.refl _⟩) ?_
          refine any_nil ?_
          refine afin_none ?_
          refine jl_op ?_ (nb rfl)
          refine ow_indexOwn 0 rfl rfl rfl (by omega) (by first | omega | (simp only [List.length_map]; omega) | (simp only [List.length_map, List.length_set]; omega)) rfl ?_
          refine jl_op0 (ow_storeInnAll 0 k rfl rfl rfl rfl (by omega) (map_at hj1) rfl rfl rfl ?_)
          refine jl_op ?_ (nb rfl)
          refine ow_indexOwn 0 rfl rfl rfl (by omega) (by first | omega | (simp only [List.length_map]; omega) | (simp only [List.length_map, List.length_set]; omega)) rfl ?_
          refine jl_op0 (ow_storeInnAll 0 (k + 1) rfl rfl rfl rfl (by omega) (map_at2 (by omega) hj2) rfl rfl rfl ?_)
          refine jl_nil ?_
          refine jq_np ?_
          refine jq_block ?_
          refine jq_then ?_
          refine jc_region ?_
          refine jl_op ?_ (nb rfl)
          refine ow_move rfl ?_
          refine jl_op ?_ (nb rfl)
          refine ow_add64 rfl rfl (by omega) ?_
          refine jl_op ?_ (nb rfl)
          refine ow_assign rfl ?_
          refine jl_nil ?_
          refine jq_againS (i := (k, t)) (k + 1, sw t k (k + 1)) ⟨by dsimp only; omega, by dsimp only; omega, g3.trans (Mv.sw (by omega) (by omega) (by omega)), shf_step g1 (by omega) htl g4⟩ (by dsimp only; omega) ?_ ?_
          · dsimp only
            rw [map_sw hj1 hj2]
            refine sub_step 0 rfl ?_
            exact sub_end
          · (repeat (first | exact True.intro | refine ⟨rfl, ?_⟩))
        · obtain rfl : k = i - 1 := by omega
          refine jc_exit ?_
          refine jq_then_exit ?_
          refine jq_then_exit ?_
          refine jq_block_exit ?_
          refine jq_then ?_
          refine jc_ret ?_
          refine jq_then_ret ?_
          refine jq_retG (ss := []) (.inl rfl) rfl (is := [0]) rfl (fun K h => h t ⟨g3, so_front kOf (by rw [← hm]; exact hs) (by omega) (fun q q1 q2 => h4 q (by omega) q2) h5 g4⟩)

theorem symB (V : Value) (l : List Tm) (a m b : Nat) (hb1 : b = m + 1) (ham : a < m) (hm : m ≠ a + 1) (hb : b ≤ l.length) (hl : l.length ≤ 1000000) (hok : okT l) (hs : So kOf l a m) : SymP V l a m b := by
  unfold SymP
  refine con_intro Try.func60 rfl rfl (Nat.le_of_ble_eq_true rfl) (fun c hc => ?_)
  refine jc_seq ?_
  refine jc_seq ?_
  refine jc_region ?_
  refine jl_op ?_ (nb rfl)
  refine ow_move rfl ?_
  refine jl_op ?_ (nb rfl)
  refine ow_move rfl ?_
  refine jl_op ?_ (nb rfl)
  refine ow_sub64 rfl rfl (by omega) ?_
  refine jl_op ?_ (nb rfl)
  refine ow_eql rfl rfl ?_
  refine jl_nil ?_
  refine jq_then ?_
  refine jc_condd rfl (fun h => absurd h (show ¬ (m : Int) - (a : Int) = 1 by omega)) (fun _ => ?_)
  refine jc_skip ?_
  refine jq_then ?_
  refine jc_seq ?_
  refine jc_seq ?_
  refine jc_region ?_
  refine jl_op ?_ (nb rfl)
  refine ow_move rfl ?_
  refine jl_op ?_ (nb rfl)
  refine ow_move rfl ?_
  refine jl_op ?_ (nb rfl)
  refine ow_sub64 rfl rfl (by omega) ?_
  refine jl_op ?_ (nb rfl)
  refine ow_eql rfl rfl ?_
  refine jl_nil ?_
  refine jq_then ?_
  refine jc_condd rfl (fun _ => ?_) (fun h => absurd (show (b : Int) - (m : Int) = 1 by omega) h)
  refine jc_seq ?_
  refine jc_region ?_
  refine jl_op ?_ (nb rfl)
  refine ow_move rfl ?_
  refine jl_op ?_ (nb rfl)
  refine ow_assign rfl ?_
  refine jl_nil ?_
  refine jq_then ?_
  refine jc_seq ?_
  refine jc_region ?_
  refine jl_op ?_ (nb rfl)
  refine ow_move rfl ?_
  refine jl_op ?_ (nb rfl)
  refine ow_assign rfl ?_
  refine jl_nil ?_
  refine jq_then ?_
  refine jc_seq ?_
  refine jc_block ?_
  refine jc_loopS (ι := Nat × Nat) [] (fun i => a ≤ i.1 ∧ i.1 ≤ i.2 ∧ i.2 ≤ m ∧ (∀ q, a ≤ q → q < i.1 → kk kOf l q ≤ kk kOf l m) ∧ ∀ q, i.2 ≤ q → q < m → kk kOf l m ≤ kk kOf l q) (fun i => [(0, .cell (.val V)), (2, In .i64 (m : Int)), (4, CF), (14, In .i64 (i.1 : Int)), (15, In .i64 (i.2 : Int))]) (fun _ => [Ow V l]) (fun i => i.2 - i.1) (a, m) ⟨Nat.le_refl _, by dsimp only; omega, Nat.le_refl _, fun q h1 h2 => by dsimp only at h2; omega, fun q h1 h2 => by dsimp only at h1; omega⟩ ?_ ?_ ?_
  · refine sub_step 0 rfl ?_
    exact sub_end
  · (repeat (first | exact True.intro | refine ⟨rfl, ?_⟩))
  · rintro ⟨i, j⟩ ⟨h1, h2, h3, h4, h5⟩
    dsimp only at h1 h2 h3 h4 h5 ⊢
    refine jc_reset [(0, .cell (.val V)), (2, In .i64 (m : Int)), (4, CF), (14, In .i64 (i : Int)), (15, In .i64 (j : Int))] [Ow V l] ?_ ⟨[0], [], rfl⟩ ?_
    · (repeat (first | exact True.intro | refine ⟨rfl, ?_⟩))
    refine jc_seq ?_
    refine jc_seq ?_
    refine jc_region ?_
    refine jl_op ?_ (nb rfl)
    refine ow_move rfl ?_
    refine jl_op ?_ (nb rfl)
    refine ow_move rfl ?_
    refine jl_op ?_ (nb rfl)
    refine ow_lss rfl rfl ?_
    refine jl_nil ?_
    refine jq_then ?_
    refine jc_condd rfl (fun hlt => ?_) (fun hge => ?_)
    · have hh : (i + j) / 2 < l.length := by omega
      have ha : m < l.length := by omega
      have hcmp := cmp_c l[m] l[(i + j) / 2] (hok _ (List.getElem_mem ha)) (hok _ (List.getElem_mem hh))
      have k1 := kk_get kOf hh
      have k2 := kk_get kOf ha
      refine jc_skip ?_
      refine jq_then ?_
      refine jc_block ?_
      refine jc_seq ?_
      refine jc_region ?_
      refine jl_op ?_ (nb rfl)
      refine ow_move rfl ?_
      refine jl_op ?_ (nb rfl)
      refine ow_move rfl ?_
      refine jl_op ?_ (nb rfl)
      refine ow_add64 rfl rfl (by omega) ?_
      refine jl_op ?_ (nb rfl)
      refine ow_convU64 rfl rfl rfl (by omega) ?_
      refine jl_op ?_ (nb rfl)
      refine ow_shr1 rfl rfl (by omega) ?_
      refine jl_op ?_ (nb rfl)
      refine ow_convI64 rfl rfl rfl (by omega) ?_
      refine jl_op ?_ (nb rfl)
      refine ow_assign rfl ?_
      refine jl_nil ?_
      refine jq_then ?_
      refine jc_seq ?_
      refine jc_any rfl rfl (by kernel_rfl) (by kernel_rfl) ?_
      refine any_op (fun c => ow_move rfl ⟨rfl, List.Perm.refl _⟩) ?_
      refine any_op (fun c => ow_move rfl ⟨rfl, List.Perm.refl _⟩) ?_
      refine any_op (fun c => ow_move rfl ⟨rfl, List.Perm.refl _⟩) ?_
      refine any_op (fun c => ow_indexOwn 0 rfl rfl rfl (by omega) (by first | omega | (simp only [List.length_map]; omega) | (simp only [List.length_map, List.length_set]; omega)) rfl ⟨rfl, List.Perm.refl _⟩) ?_
      refine any_op (fun c => ow_loadInnN 0 m rfl rfl rfl (by omega) (map_at ha) rfl ⟨rfl, List.Perm.refl _⟩) ?_
      refine any_op (fun c => ow_move rfl ⟨rfl, List.Perm.refl _⟩) ?_
      refine any_op (fun c => ow_move rfl ⟨rfl, List.Perm.refl _⟩) ?_
      refine any_op (fun c => ow_indexOwn 0 rfl rfl rfl (by omega) (by first | omega | (simp only [List.length_map]; omega) | (simp only [List.length_map, List.length_set]; omega)) rfl ⟨rfl, List.Perm.refl _⟩) ?_
      refine any_op (fun c => ow_loadInnN 0 ((i + j) / 2) rfl rfl rfl (by omega) (map_at hh) rfl ⟨rfl, List.Perm.refl _⟩) ?_
      refine any_op (fun c => ow_callv0 rfl rfl (hcmp) ⟨rfl, List.Perm.refl _⟩) ?_
      refine any_op (fun c => ow_lss rfl rfl ⟨rfl, List.Perm.refl _⟩) ?_
      refine any_op (fun c => ow_notdec rfl ⟨rfl, List.Perm.refl _⟩) ?_
      refine any_nil ?_
      refine jq_then ?_
      refine jc_condd rfl (fun hneg => ?_) (fun hpos => ?_)
      · have hle : kk kOf l ((i + j) / 2) ≤ kk kOf l m := by rw [k1, k2]; show l[(i + j) / 2].1 ≤ l[m].1; omega
        refine jc_region ?_
        refine jl_op ?_ (nb rfl)
        refine ow_move rfl ?_
        refine jl_op ?_ (nb rfl)
        refine ow_add64 rfl rfl (by omega) ?_
        refine jl_op ?_ (nb rfl)
        refine ow_assign rfl ?_
        refine jl_nil ?_
        refine jq_block ?_
        refine jq_againS (i := (i, j)) ((i + j) / 2 + 1, j) ⟨by dsimp only; omega, by dsimp only; omega, h3, fun q g1 g2 => ?_, h5⟩ (by dsimp only; omega) ?_ ?_
        · dsimp only at g2
          have := hs q ((i + j) / 2) g1 (by omega) (by omega)
          omega
        · refine sub_step 0 rfl ?_
          exact sub_end
        · dsimp only
          rw [show (((i + j) / 2 + 1 : Nat) : Int) = ((i : Int) + (j : Int)) / 2 + 1 by omega]
          (repeat (first | exact True.intro | refine ⟨rfl, ?_⟩))
      · have hle : kk kOf l m ≤ kk kOf l ((i + j) / 2) := by rw [k1, k2]; show l[m].1 ≤ l[(i + j) / 2].1; omega
        refine jc_region ?_
        refine jl_op ?_ (nb rfl)
        refine ow_move rfl ?_
        refine jl_op ?_ (nb rfl)
        refine ow_assign rfl ?_
        refine jl_nil ?_
        refine jq_block ?_
        refine jq_againS (i := (i, j)) (i, (i + j) / 2) ⟨h1, by dsimp only; omega, by dsimp only; omega, h4, fun q g1 g2 => ?_⟩ (by dsimp only; omega) ?_ ?_
        · dsimp only at g1
          have := hs ((i + j) / 2) q (by omega) g1 (by omega)
          omega
        · refine sub_step 0 rfl ?_
          exact sub_end
        · dsimp only
          rw [show (((i + j) / 2 : Nat) : Int) = ((i : Int) + (j : Int)) / 2 by omega]
          (repeat (first | exact True.intro | refine ⟨rfl, ?_⟩))
    · obtain rfl : i = j := by omega
      refine jc_exit ?_
      refine jq_then_exit ?_
      refine jq_then_exit ?_
      refine jq_block_exit ?_
      refine jq_then ?_
      refine jc_seq ?_
      refine jc_seq ?_
      refine jc_region ?_
      refine jl_op ?_ (nb rfl)
      refine ow_move rfl ?_
      refine jl_op ?_ (nb rfl)
      refine ow_assign rfl ?_
      refine jl_nil ?_
      refine jq_then ?_
      refine jc_block ?_
      refine jc_loopS (ι := Nat × List Tm) [] (fun k => i ≤ k.1 ∧ k.1 ≤ m ∧ Mv a b l k.2 ∧ ∀ p, k.2[p]? = l[bakI k.1 m p]?) (fun k => [(0, .cell (.val V)), (14, In .i64 (i : Int)), (17, In .i64 (k.1 : Int))]) (fun k => [Ow V k.2]) (fun k => k.1) (m, l) ⟨by dsimp only; omega, Nat.le_refl _, Mv.refl _ _ _, fun p => by dsimp only; rw [bak_zero]⟩ ?_ ?_ ?_
      · refine sub_step 0 rfl ?_
        exact sub_end
      · (repeat (first | exact True.intro | refine ⟨rfl, ?_⟩))
      · rintro ⟨k, t⟩ ⟨g1, g2, g3, g4⟩
        dsimp only at g1 g2 g3 g4 ⊢
        have htl : t.length = l.length := g3.len
        refine jc_reset [(0, .cell (.val V)), (14, In .i64 (i : Int)), (17, In .i64 (k : Int))] [Ow V t] ?_ ⟨[0], [], rfl⟩ ?_
        · (repeat (first | exact True.intro | refine ⟨rfl, ?_⟩))
        refine jc_seq ?_
        refine jc_seq ?_
        refine jc_region ?_
        refine jl_op ?_ (nb rfl)
        refine ow_move rfl ?_
        refine jl_op ?_ (nb rfl)
        refine ow_move rfl ?_
        refine jl_op ?_ (nb rfl)
        refine ow_gtr rfl rfl ?_
        refine jl_nil ?_
        refine jq_then ?_
        refine jc_condd rfl (fun hlt => ?_) (fun hge => ?_)
        · have hj1 : k < t.length := by omega
          have hj2 : k - 1 < t.length := by omega
          refine jc_skip ?_
          refine jq_then ?_
          refine jc_seq ?_
          refine jc_block ?_
          refine jc_anyF 14 none [2,3,4] rfl (by kernel_rfl) (by kernel_rfl) (by kernel_rfl) rfl ?_
          refine any_op (fun c => ow_move rfl ⟨rfl, List.Perm.refl _⟩) ?_
          refine any_op (fun c => ow_move rfl ⟨rfl, List.Perm.refl _⟩) ?_
          refine any_op (fun c => ow_move rfl ⟨rfl, List.Perm.refl _⟩) ?_
          refine any_op (fun c => ow_move rfl ⟨rfl, List.Perm.refl _⟩) ?_
          refine any_op (fun c => ow_sub64 rfl rfl (by omega) ⟨rfl, List.Perm.refl _⟩) ?_
          refine any_op (fun c => ow_move rfl ⟨rfl, List.Perm.refl _⟩) ?_
          refine any_op (fun c => ow_move rfl ⟨rfl, List.Perm.refl _⟩) ?_
          refine any_op (fun c => ow_sub64 rfl rfl (by omega) ⟨rfl, List.Perm.refl _⟩) ?_
          refine any_op (fun c => ow_indexOwn 0 rfl rfl rfl (by omega) (by first | omega | (simp only [List.length_map]; omega) | (simp only [List.length_map, List.length_set]; omega)) rfl ⟨rfl, List.Perm.refl _⟩) ?_
          refine any_op (fun c => ow_loadInnN 0 (k - 1) rfl rfl rfl (by omega) (map_at hj2) rfl ⟨rfl, List.Perm.refl _⟩) ?_
          refine any_op (fun c => ow_move rfl ⟨rfl, List.Perm.refl _⟩) ?_
          refine any_op (fun c => ow_move rfl ⟨rfl, List.Perm.refl _⟩) ?_
          refine any_op (fun c => ow_indexOwn 0 rfl rfl rfl (by omega) (by first | omega | (simp only [List.length_map]; omega) | (simp only [List.length_map, List.length_set]; omega)) rfl ⟨rfl, List.Perm.refl _⟩) ?_
          refine any_op (fun c => ow_loadInnN 0 k rfl rfl rfl (by omega) (map_at hj1) rfl ⟨rfl, List.Perm.refl _⟩) ?_
          refine any_nil ?_
          refine afin_none ?_
          refine jl_op ?_ (nb rfl)
          refine ow_indexOwn 0 rfl rfl rfl (by omega) (by first | omega | (simp only [List.length_map]; omega) | (simp only [List.length_map, List.length_set]; omega)) rfl ?_
          refine jl_op0 (ow_storeInnAll 0 k rfl rfl rfl rfl (by omega) (map_at hj1) rfl rfl rfl ?_)
          refine jl_op ?_ (nb rfl)
          refine ow_indexOwn 0 rfl rfl rfl (by omega) (by first | omega | (simp only [List.length_map]; omega) | (simp only [List.length_map, List.length_set]; omega)) rfl ?_
          refine jl_op0 (ow_storeInnAll 0 (k - 1) rfl rfl rfl rfl (by omega) (map_at2 (by omega) hj2) rfl rfl rfl ?_)
          refine jl_nil ?_
          refine jq_np ?_
          refine jq_block ?_
          refine jq_then ?_
          refine jc_region ?_
          refine jl_op ?_ (nb rfl)
          refine ow_move rfl ?_
          refine jl_op ?_ (nb rfl)
          refine ow_sub64 rfl rfl (by omega) ?_
          refine jl_op ?_ (nb rfl)
          refine ow_assign rfl ?_
          refine jl_nil ?_
          refine jq_againS (i := (k, t)) (k - 1, sw t k (k - 1)) ⟨by dsimp only; omega, by dsimp only; omega, g3.trans (Mv.sw (by omega) (by omega) (by omega)), bak_step (by omega) (by omega) (by omega) htl g4⟩ (by dsimp only; omega) ?_ ?_
          · dsimp only
            rw [map_sw hj1 hj2]
            refine sub_step 0 rfl ?_
            exact sub_end
          · dsimp only
            rw [show ((k - 1 : Nat) : Int) = (k : Int) - 1 by omega]
            (repeat (first | exact True.intro | refine ⟨rfl, ?_⟩))
        · obtain rfl : k = i := by omega
          refine jc_exit ?_
          refine jq_then_exit ?_
          refine jq_then_exit ?_
          refine jq_block_exit ?_
          refine jq_then ?_
          refine jc_ret ?_
          refine jq_then_ret ?_
          have hend := so_back kOf hs ⟨h1, h3⟩ h4 h5 g4
          rw [← hb1] at hend
          refine jq_retG (ss := []) (.inl rfl) rfl (is := [0]) rfl (fun K h => h t ⟨g3, hend⟩)
end Go.Proofs.Ytjkkkjikhjfdnaa
