import Derived.Test.YtjkkkjikhjfdnaaTy
import Derived.Test.YtjkkkjikhjfdnaaVcj
namespace Go.Proofs.Ytjkkkjikhjfdnaa
open Go.Vc
attribute [local irreducible] JL JC JQ OpWp Con ConN
set_option maxHeartbeats 4000000

/-! Sorting terms -/
abbrev Tm := Int × Int
abbrev TR (t : Tm) : List C := [.val (.int .i64 t.1), .val (.int .i64 t.2)]
abbrev CF : S := .cell (.val (.func (.func 52) #[] #[]))
abbrev Ow (V : Value) (l : List Tm) : Ch := .own V 44 2 (l.map TR)
theorem map_at {l : List Tm} {i : Nat} (h : i < l.length) : (l.map TR)[i]? = some (TR l[i]) := by
  rw [List.getElem?_map, List.getElem?_eq_getElem h]
  rfl
theorem map_at2 {l : List Tm} {i j : Nat} {r : List C} (hij : j ≠ i) (h : i < l.length) : ((l.map TR).set j r)[i]? = some (TR l[i]) := by
  rw [List.getElem?_set_ne hij, map_at h]
theorem map_sw {l : List Tm} {i j : Nat} (hi : i < l.length) (hj : j < l.length) : ((l.map TR).set i (TR l[j])).set j (TR l[i]) = (sw l i j).map TR := by
  rw [sw_eq hi hj, List.map_set, List.map_set]

theorem swapRange_c (V : Value) (l : List Tm) (a b n : Nat) (hab : a + n ≤ b) (hb : b + n ≤ l.length) (hl : l.length ≤ 1000000) :
    Con Try.prog 62 [.cell (.val V), In .i64 (a : Int), In .i64 (b : Int), In .i64 (n : Int), CF] [Ow V l] (fun K => ∀ l' : List Tm, (l'.length = l.length ∧ l'.Perm l ∧ ∀ p, l'[p]? = l[swpI a b n p]?) → K (.tup []) [Ow V l']) := by
  refine con_intro Try.func62 rfl rfl (Nat.le_of_ble_eq_true rfl) (fun c hc => ?_)
  refine jc_seq ?_
  refine jc_region ?_
  refine jl_op ?_ (nb rfl)
  refine ow_assign rfl ?_
  refine jl_nil ?_
  refine jq_then ?_
  refine jc_block ?_
  refine jc_loopS (ι := Nat × List Tm) [] (fun i => i.1 ≤ n ∧ i.2.length = l.length ∧ i.2.Perm l ∧ ∀ p, i.2[p]? = l[swpI a b i.1 p]?) (fun i => [(0, .cell (.val V)), (1, In .i64 (a : Int)), (2, In .i64 (b : Int)), (3, In .i64 (n : Int)), (10, In .i64 (i.1 : Int))]) (fun i => [Ow V i.2]) (fun i => n - i.1) (0, l) ⟨Nat.zero_le _, rfl, .refl _, fun p => by rw [swp_zero]⟩ ?_ ?_ ?_
  · refine sub_step 0 rfl ?_
    exact sub_end
  · (repeat (first | exact True.intro | refine ⟨rfl, ?_⟩))
  · rintro ⟨k, m⟩ ⟨hk, hlen, hperm, hm⟩
    dsimp only at hk hlen hperm hm ⊢
    refine jc_reset [(0, .cell (.val V)), (1, In .i64 (a : Int)), (2, In .i64 (b : Int)), (3, In .i64 (n : Int)), (10, In .i64 (k : Int))] [Ow V m] ?_ ⟨[0], [], rfl⟩ ?_
    · (repeat (first | exact True.intro | refine ⟨rfl, ?_⟩))
    refine jc_seq ?_
    refine jc_seq ?_
    refine jc_region ?_
    refine jl_op ?_ (nb rfl)
    refine ow_move rfl ?_
    refine jl_op ?_ (nb rfl)
    refine ow_move rfl ?_
    refine jl_op ?_ (nb rfl)
    refine ow_lss rfl rfl ?_
    refine jl_nil ?_
    refine jq_then ?_
    refine jc_condd rfl (fun hlt => ?_) (fun hge => ?_)
    · have h1 : a + k < m.length := by omega
      have h2 : b + k < m.length := by omega
      refine jc_skip ?_
      refine jq_then ?_
      refine jc_seq ?_
      refine jc_block ?_
      refine jc_anyF 20 none [4,5,6,7] rfl (by kernel_rfl) (by kernel_rfl) (by kernel_rfl) rfl ?_
      refine any_op (fun c => ow_move rfl ⟨rfl, List.Perm.refl _⟩) ?_
      refine any_op (fun c => ow_move rfl ⟨rfl, List.Perm.refl _⟩) ?_
      refine any_op (fun c => ow_move rfl ⟨rfl, List.Perm.refl _⟩) ?_
      refine any_op (fun c => ow_add64 rfl rfl (by omega) ⟨rfl, List.Perm.refl _⟩) ?_
      refine any_op (fun c => ow_move rfl ⟨rfl, List.Perm.refl _⟩) ?_
      refine any_op (fun c => ow_move rfl ⟨rfl, List.Perm.refl _⟩) ?_
      refine any_op (fun c => ow_move rfl ⟨rfl, List.Perm.refl _⟩) ?_
      refine any_op (fun c => ow_add64 rfl rfl (by omega) ⟨rfl, List.Perm.refl _⟩) ?_
      refine any_op (fun c => ow_move rfl ⟨rfl, List.Perm.refl _⟩) ?_
      refine any_op (fun c => ow_move rfl ⟨rfl, List.Perm.refl _⟩) ?_
      refine any_op (fun c => ow_move rfl ⟨rfl, List.Perm.refl _⟩) ?_
      refine any_op (fun c => ow_add64 rfl rfl (by omega) ⟨rfl, List.Perm.refl _⟩) ?_
      refine any_op (fun c => ow_indexOwn 0 rfl rfl rfl (by omega) (by first | omega | (simp only [List.length_map]; omega) | (simp only [List.length_map, List.length_set]; omega)) rfl ⟨rfl, List.Perm.refl _⟩) ?_
      refine any_op (fun c => ow_loadInnN 0 (b + k) rfl rfl rfl (by omega) (map_at h2) rfl ⟨rfl, List.Perm.refl _⟩) ?_
      refine any_op (fun c => ow_move rfl ⟨rfl, List.Perm.refl _⟩) ?_
      refine any_op (fun c => ow_move rfl ⟨rfl, List.Perm.refl _⟩) ?_
      refine any_op (fun c => ow_move rfl ⟨rfl, List.Perm.refl _⟩) ?_
      refine any_op (fun c => ow_add64 rfl rfl (by omega) ⟨rfl, List.Perm.refl _⟩) ?_
      refine any_op (fun c => ow_indexOwn 0 rfl rfl rfl (by omega) (by first | omega | (simp only [List.length_map]; omega) | (simp only [List.length_map, List.length_set]; omega)) rfl ⟨rfl, List.Perm.refl _⟩) ?_
      refine any_op (fun c => ow_loadInnN 0 (a + k) rfl rfl rfl (by omega) (map_at h1) rfl ⟨rfl, List.Perm.refl _⟩) ?_
      refine any_nil ?_
      refine afin_none ?_
      refine jl_op ?_ (nb rfl)
      refine ow_indexOwn 0 rfl rfl rfl (by omega) (by first | omega | (simp only [List.length_map]; omega) | (simp only [List.length_map, List.length_set]; omega)) rfl ?_
      refine jl_op0 (ow_storeInnAll 0 (a + k) rfl rfl rfl rfl (by omega) (map_at h1) rfl rfl rfl ?_)
      refine jl_op ?_ (nb rfl)
      refine ow_indexOwn 0 rfl rfl rfl (by omega) (by first | omega | (simp only [List.length_map]; omega) | (simp only [List.length_map, List.length_set]; omega)) rfl ?_
      refine jl_op0 (ow_storeInnAll 0 (b + k) rfl rfl rfl rfl (by omega) (map_at2 (by omega) h2) rfl rfl rfl ?_)
      refine jl_nil ?_
      refine jq_np ?_
      refine jq_block ?_
      refine jq_then ?_
      refine jc_region ?_
      refine jl_op ?_ (nb rfl)
      refine ow_move rfl ?_
      refine jl_op ?_ (nb rfl)
      refine ow_add64 rfl rfl (by omega) ?_
      refine jl_op ?_ (nb rfl)
      refine ow_assign rfl ?_
      refine jl_nil ?_
      refine jq_againS (i := (k, m)) (k + 1, sw m (a + k) (b + k)) ⟨by dsimp only; omega, by rw [sw_len]; exact hlen, (sw_perm h1 h2).trans hperm, swp_step (by omega) (by omega) hlen hm⟩ (by dsimp only; omega) ?_ ?_
      · dsimp only
        rw [map_sw h1 h2]
        refine sub_step 0 rfl ?_
        exact sub_end
      · (repeat (first | exact True.intro | refine ⟨rfl, ?_⟩))
    · obtain rfl : k = n := by omega
      refine jc_exit ?_
      refine jq_then_exit ?_
      refine jq_then_exit ?_
      refine jq_block_exit ?_
      refine jq_retG (ss := []) (.inr rfl) rfl (is := [0]) rfl (fun K h => h m ⟨hlen, hperm, hm⟩)
end Go.Proofs.Ytjkkkjikhjfdnaa
