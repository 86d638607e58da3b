import Derived.Test.YtamajcgdfjeehaaDoorMa3
section
namespace Go.Proofs.YtamajcgdfjeehaaDoor
open Go.Vc
attribute [local irreducible] JL JC JQ OpWp Con ConN Pan ConE OpPan hasW idxW isA isNum isNm numAt txtAt lineAt opAt lx lpx sx sxp
set_option maxHeartbeats 4000000

theorem dep_pos (t : T) : 1 ≤ t.dep := by cases t <;> simp [T.dep]
theorem dpR_ok {fr : Bool} {t : T} (h : ¬ (fr = false ∧ 8 < t.dep)) (a : Nat) : dpR fr t a = .ok t a := by unfold dpR; rw [if_neg h]
theorem dpR_er {fr : Bool} {t : T} (h : fr = false ∧ 8 < t.dep) (a : Nat) : dpR fr t a = .er 4 (a - 1) := by unfold dpR; rw [if_pos h]
theorem sxp_dep {fr : Bool} {l : List Tok} {L : List ByteArray} {sub : Nat → R T} {a0 : Nat} (hs : ∀ a t b, sub a = .ok t b → a < b ∧ t.dep ≤ b - a) : ∀ (n : Nat) (x : T) (a : Nat) (t : T) (b : Nat), a0 ≤ a → x.dep ≤ a - a0 → sxp fr l L sub n x a = .ok t b → t.dep ≤ b - a0
  | 0, x, a, t, b, _, h, e => by simp only [sxp, R.ok.injEq] at e; obtain ⟨rfl, rfl⟩ := e; exact h
  | n + 1, x, a, t, b, ha, h, e => by
    rw [sxp] at e
    split at e
    · simp only [R.ok.injEq] at e; obtain ⟨rfl, rfl⟩ := e; exact h
    · rename_i o _
      split at e
      · cases e
      · rename_i y b1 hy
        have h1 := hs _ _ _ hy
        split at e
        · cases e
        · rename_i z b2 hz
          obtain ⟨rfl, rfl⟩ := dpR_bd hz
          exact sxp_dep hs n _ _ _ _ (by omega) (by simp only [T.dep]; omega) e
theorem sx_dep {fr : Bool} {l : List Tok} : ∀ (F k a : Nat) (t : T) (b : Nat), sx fr l F k a = .ok t b → t.dep ≤ b - a
  | 0, _, _, _, _, h => by simp [sx] at h
  | F + 1, k, a, t, b, h => by
    have ih := sx_dep (fr := fr) (l := l) F
    rw [sx] at h
    split at h
    · split at h
      · cases h; simp only [T.dep]; omega
      · split at h
        · split at h
          · cases h; simp only [T.dep]; omega
          · split at h
            · cases h
            · rename_i x b' h1
              have h2 := ih _ _ _ _ h1
              have h3 := sx_bd _ _ _ _ _ h1
              obtain ⟨rfl, rfl⟩ := dpR_bd h
              simp only [T.dep]; omega
        · split at h
          · split at h
            · split at h
              · cases h
              · rename_i x b' h2
                have h3 := ih _ _ _ _ h2
                have h4 := sx_bd _ _ _ _ _ h2
                split at h
                · obtain ⟨rfl, rfl⟩ := dpR_bd h
                  simp only [T.dep]; omega
                · cases h
            · cases h; simp only [T.dep]; omega
          · split at h
            · split at h
              · cases h
              · rename_i x b' h2
                have h3 := ih _ _ _ _ h2
                have h4 := sx_bd _ _ _ _ _ h2
                split at h
                · cases h; omega
                · cases h
            · cases h
    · split at h
      · cases h
      · rename_i x b' h1
        have h2 := sx_bd _ _ _ _ _ h1
        exact sxp_dep (L := opsL k) (fun a t b h => ⟨(sx_bd F (k + 1) a t b h).1, ih (k + 1) a t b h⟩) _ _ _ _ _ (by omega) (ih _ _ _ _ h1) h

section
variable {l : List Tok} {fr : Bool} (hl : l.length ≤ 1000000)
include hl
theorem factor_step (F : Nat) (hF : FcP l fr F) (hX : XpP l fr F) : FcP l fr (F + 1) := by
  intro b a ha hN
  unfold need at hN
  have eL : (l.map Tok.row).length = l.length := List.length_map _
  refine con_intro Tryd.func82 rfl rfl (Nat.le_of_ble_eq_true rfl) (fun c hc => ?_)
  cases h1 : isNum l a with
  | true =>
    have hlt := isNum_lt h1
    have hk : l[a].kind = 2 := of_decide_eq_true (by rw [← isNum_get hlt]; exact h1)
    have e : sx fr l (F + 1) 3 a = .ok (.nu (numAt l a)) (a + 1) := by rw [sx, if_pos (Nat.le_refl _), if_pos h1]
    refine jc_seq ?_; refine jc_region ?_; refine jl_op (ow_alloc rfl rfl (fun bl => ?_)) (nb rfl); refine jl_op (ow_assign rfl ?_) (nb rfl); refine jl_nil ?_; refine jq_then ?_; refine jc_seq ?_; refine jc_block ?_
    refine jc_seq ?_; refine jc_region ?_; refine jl_op (ow_move rfl ?_) (nb rfl); refine jl_op (ow_nilCheck rfl ?_) (nb rfl); refine jl_op (ow_fieldAddr rfl rfl rfl (nb rfl) ?_) (nb rfl)
    refine jl_op (ow_load 1 rfl rfl rfl rfl ?_) (nb rfl); refine jl_op (ow_neq rfl rfl ?_) (nb rfl); refine jl_op (ow_assign rfl ?_) (nb rfl); refine jl_nil ?_; refine jq_then ?_; refine jc_condF rfl rfl ?_; refine jc_seq ?_
    refine jc_any rfl rfl (by kernel_rfl) (by kernel_rfl) ?_; refine any_op (fun c => ow_move rfl ⟨rfl, List.Perm.refl _⟩) ?_; refine any_op (fun c => ow_nilCheck rfl ⟨rfl, List.Perm.refl _⟩) ?_
    refine any_op (fun c => ow_fieldAddr rfl rfl rfl (nb rfl) ⟨rfl, List.Perm.refl _⟩) ?_; refine any_op (fun c => ow_load 1 rfl rfl rfl rfl ⟨rfl, List.Perm.refl _⟩) ?_
    refine any_op (fun c => ow_move rfl ⟨rfl, List.Perm.refl _⟩) ?_; refine any_op (fun c => ow_nilCheck rfl ⟨rfl, List.Perm.refl _⟩) ?_; refine any_op (fun c => ow_fieldAddr rfl rfl rfl (nb rfl) ⟨rfl, List.Perm.refl _⟩) ?_
    refine any_op (fun c => ow_load 1 rfl rfl rfl rfl ⟨rfl, List.Perm.refl _⟩) ?_; refine any_op (fun c => ow_len rfl (fun hlen => ⟨rfl, List.Perm.refl _⟩)) ?_; refine any_op (fun c => ow_lss rfl rfl ⟨rfl, List.Perm.refl _⟩) ?_
    refine any_op (fun c => ow_move rfl ⟨rfl, List.Perm.refl _⟩) ?_; refine any_guardY rfl (decide_eq_true (by omega)) (fun c => ow_move rfl ⟨rfl, List.Perm.refl _⟩) ?_
    refine any_guardY rfl (decide_eq_true (by omega)) (fun c => ow_nilCheck rfl ⟨rfl, List.Perm.refl _⟩) ?_; refine any_guardY rfl (decide_eq_true (by omega)) (fun c => ow_fieldAddr rfl rfl rfl (nb rfl) ⟨rfl, List.Perm.refl _⟩) ?_
    refine any_guardY rfl (decide_eq_true (by omega)) (fun c => ow_load 1 rfl rfl rfl rfl ⟨rfl, List.Perm.refl _⟩) ?_; refine any_guardY rfl (decide_eq_true (by omega)) (fun c => ow_move rfl ⟨rfl, List.Perm.refl _⟩) ?_
    refine any_guardY rfl (decide_eq_true (by omega)) (fun c => ow_nilCheck rfl ⟨rfl, List.Perm.refl _⟩) ?_; refine any_guardY rfl (decide_eq_true (by omega)) (fun c => ow_fieldAddr rfl rfl rfl (nb rfl) ⟨rfl, List.Perm.refl _⟩) ?_
    refine any_guardY rfl (decide_eq_true (by omega)) (fun c => ow_load 1 rfl rfl rfl rfl ⟨rfl, List.Perm.refl _⟩) ?_
    refine any_guardY rfl (decide_eq_true (by omega)) (fun c => ow_indexAddrMapE rfl rfl (by omega) rfl rfl (nb rfl) ⟨rfl, List.Perm.refl _⟩) ?_
    refine any_guardY rfl (decide_eq_true (by omega)) (fun c => ow_fieldAddrPlace rfl rfl rfl (nb rfl) rfl (nb rfl) ⟨rfl, List.Perm.refl _⟩) ?_
    refine any_guardY rfl (decide_eq_true (by omega)) (fun c => ow_loadPlace rfl rfl ⟨rfl, List.Perm.refl _⟩) ?_; refine any_guardY rfl (decide_eq_true (by omega)) (fun c => ow_eql rfl rfl ⟨rfl, List.Perm.refl _⟩) ?_
    refine any_op (fun c => ow_pickT rfl (decide_eq_true (by omega)) rfl ⟨rfl, List.Perm.refl _⟩) ?_; refine any_op (fun c => ow_assign rfl ⟨rfl, List.Perm.refl _⟩) ?_; refine any_nil ?_; refine jq_then ?_
    refine jc_condT rfl (decide_eq_true (by assumption)) ?_; refine jc_seq ?_; refine jc_region ?_; refine jl_op (ow_move rfl ?_) (nb rfl); refine jl_op (ow_call1 [1] rfl rfl (rnum_y hl ha h1) ?_) (nb rfl)
    refine jl_op (ow_build rfl rfl rfl rfl rfl ?_) (nb rfl); refine jl_op0 (ow_storeAll 1 rfl rfl rfl rfl rfl rfl ?_); refine jl_op (ow_assign rfl ?_) (nb rfl); refine jl_nil ?_; refine jq_then ?_; refine jc_ret ?_
    refine jq_block_ret ?_; refine jq_then_ret ?_; refine jq_row 0 (T.nu (numAt l a)).row' rfl ?_ ?_
    · (repeat (first | exact RowLe.nil | refine RowLe.cons (CLe.refl _) ?_ | refine RowLe.cons CLe.nil ?_))
    · refine jq_retRowT rfl rfl rfl rfl rfl 0 rfl (fun K h => by rw [e] at h; exact h) ?_; refine sub_step 1 rfl ?_; exact sub_end
  | false =>
    have h1' : ¬ isNum l a = true := by rw [h1]; decide
    by_cases hlt : a < l.length
    · have hk : ¬ l[a].kind = 2 := fun hc => h1' (by rw [isNum_get hlt]; exact decide_eq_true hc)
      cases h2 : isA l a W45 with
      | true =>
        cases h3 : isNum l (a + 1) with
        | true =>
          have hlt2 := isNum_lt h3
          have hk2 : l[a + 1].kind = 2 := of_decide_eq_true (by rw [← isNum_get hlt2]; exact h3)
          have e : sx fr l (F + 1) 3 a = .ok (.nu (ngI (numAt l (a + 1)))) (a + 2) := by rw [sx, if_pos (Nat.le_refl _), if_neg h1', if_pos h2, if_pos h3]
          refine jc_seq ?_; refine jc_region ?_; refine jl_op (ow_alloc rfl rfl (fun bl => ?_)) (nb rfl); refine jl_op (ow_assign rfl ?_) (nb rfl); refine jl_nil ?_; refine jq_then ?_; refine jc_seq ?_; refine jc_block ?_
          refine jc_seq ?_; refine jc_region ?_; refine jl_op (ow_move rfl ?_) (nb rfl); refine jl_op (ow_nilCheck rfl ?_) (nb rfl); refine jl_op (ow_fieldAddr rfl rfl rfl (nb rfl) ?_) (nb rfl)
          refine jl_op (ow_load 1 rfl rfl rfl rfl ?_) (nb rfl); refine jl_op (ow_neq rfl rfl ?_) (nb rfl); refine jl_op (ow_assign rfl ?_) (nb rfl); refine jl_nil ?_; refine jq_then ?_; refine jc_condF rfl rfl ?_; refine jc_seq ?_
          refine jc_any rfl rfl (by kernel_rfl) (by kernel_rfl) ?_; refine any_op (fun c => ow_move rfl ⟨rfl, List.Perm.refl _⟩) ?_; refine any_op (fun c => ow_nilCheck rfl ⟨rfl, List.Perm.refl _⟩) ?_
          refine any_op (fun c => ow_fieldAddr rfl rfl rfl (nb rfl) ⟨rfl, List.Perm.refl _⟩) ?_; refine any_op (fun c => ow_load 1 rfl rfl rfl rfl ⟨rfl, List.Perm.refl _⟩) ?_
          refine any_op (fun c => ow_move rfl ⟨rfl, List.Perm.refl _⟩) ?_; refine any_op (fun c => ow_nilCheck rfl ⟨rfl, List.Perm.refl _⟩) ?_; refine any_op (fun c => ow_fieldAddr rfl rfl rfl (nb rfl) ⟨rfl, List.Perm.refl _⟩) ?_
          refine any_op (fun c => ow_load 1 rfl rfl rfl rfl ⟨rfl, List.Perm.refl _⟩) ?_; refine any_op (fun c => ow_len rfl (fun hlen => ⟨rfl, List.Perm.refl _⟩)) ?_
          refine any_op (fun c => ow_lss rfl rfl ⟨rfl, List.Perm.refl _⟩) ?_; refine any_op (fun c => ow_move rfl ⟨rfl, List.Perm.refl _⟩) ?_
          refine any_guardY rfl (decide_eq_true (by omega)) (fun c => ow_move rfl ⟨rfl, List.Perm.refl _⟩) ?_; refine any_guardY rfl (decide_eq_true (by omega)) (fun c => ow_nilCheck rfl ⟨rfl, List.Perm.refl _⟩) ?_
          refine any_guardY rfl (decide_eq_true (by omega)) (fun c => ow_fieldAddr rfl rfl rfl (nb rfl) ⟨rfl, List.Perm.refl _⟩) ?_
          refine any_guardY rfl (decide_eq_true (by omega)) (fun c => ow_load 1 rfl rfl rfl rfl ⟨rfl, List.Perm.refl _⟩) ?_; refine any_guardY rfl (decide_eq_true (by omega)) (fun c => ow_move rfl ⟨rfl, List.Perm.refl _⟩) ?_
          refine any_guardY rfl (decide_eq_true (by omega)) (fun c => ow_nilCheck rfl ⟨rfl, List.Perm.refl _⟩) ?_
          refine any_guardY rfl (decide_eq_true (by omega)) (fun c => ow_fieldAddr rfl rfl rfl (nb rfl) ⟨rfl, List.Perm.refl _⟩) ?_
          refine any_guardY rfl (decide_eq_true (by omega)) (fun c => ow_load 1 rfl rfl rfl rfl ⟨rfl, List.Perm.refl _⟩) ?_
          refine any_guardY rfl (decide_eq_true (by omega)) (fun c => ow_indexAddrMapE rfl rfl (by omega) rfl rfl (nb rfl) ⟨rfl, List.Perm.refl _⟩) ?_
          refine any_guardY rfl (decide_eq_true (by omega)) (fun c => ow_fieldAddrPlace rfl rfl rfl (nb rfl) rfl (nb rfl) ⟨rfl, List.Perm.refl _⟩) ?_
          refine any_guardY rfl (decide_eq_true (by omega)) (fun c => ow_loadPlace rfl rfl ⟨rfl, List.Perm.refl _⟩) ?_; refine any_guardY rfl (decide_eq_true (by omega)) (fun c => ow_eql rfl rfl ⟨rfl, List.Perm.refl _⟩) ?_
          refine any_op (fun c => ow_pickT rfl (decide_eq_true (by omega)) rfl ⟨rfl, List.Perm.refl _⟩) ?_; refine any_op (fun c => ow_assign rfl ⟨rfl, List.Perm.refl _⟩) ?_; refine any_nil ?_; refine jq_then ?_
          refine jc_condF rfl (decide_eq_false (by assumption)) ?_; refine jc_seq ?_; refine jc_region ?_; refine jl_op (ow_move rfl ?_) (nb rfl); refine jl_op (ow_call1 [1] rfl rfl (rskip_y hl ha h2) ?_) (nb rfl)
          refine jl_op (ow_assign rfl ?_) (nb rfl); refine jl_nil ?_; refine jq_then ?_; refine jc_condT rfl rfl ?_; refine jc_seq ?_; refine jc_seq ?_; refine jc_any rfl rfl (by kernel_rfl) (by kernel_rfl) ?_
          refine any_op (fun c => ow_move rfl ⟨rfl, List.Perm.refl _⟩) ?_; refine any_op (fun c => ow_nilCheck rfl ⟨rfl, List.Perm.refl _⟩) ?_; refine any_op (fun c => ow_fieldAddr rfl rfl rfl (nb rfl) ⟨rfl, List.Perm.refl _⟩) ?_
          refine any_op (fun c => ow_load 0 rfl rfl rfl rfl ⟨rfl, List.Perm.refl _⟩) ?_; refine any_op (fun c => ow_move rfl ⟨rfl, List.Perm.refl _⟩) ?_; refine any_op (fun c => ow_nilCheck rfl ⟨rfl, List.Perm.refl _⟩) ?_
          refine any_op (fun c => ow_fieldAddr rfl rfl rfl (nb rfl) ⟨rfl, List.Perm.refl _⟩) ?_; refine any_op (fun c => ow_load 0 rfl rfl rfl rfl ⟨rfl, List.Perm.refl _⟩) ?_
          refine any_op (fun c => ow_len rfl (fun hlen => ⟨rfl, List.Perm.refl _⟩)) ?_; refine any_op (fun c => ow_lss rfl rfl ⟨rfl, List.Perm.refl _⟩) ?_; refine any_op (fun c => ow_move rfl ⟨rfl, List.Perm.refl _⟩) ?_
          refine any_guardY rfl (decide_eq_true (by omega)) (fun c => ow_move rfl ⟨rfl, List.Perm.refl _⟩) ?_; refine any_guardY rfl (decide_eq_true (by omega)) (fun c => ow_nilCheck rfl ⟨rfl, List.Perm.refl _⟩) ?_
          refine any_guardY rfl (decide_eq_true (by omega)) (fun c => ow_fieldAddr rfl rfl rfl (nb rfl) ⟨rfl, List.Perm.refl _⟩) ?_
          refine any_guardY rfl (decide_eq_true (by omega)) (fun c => ow_load 0 rfl rfl rfl rfl ⟨rfl, List.Perm.refl _⟩) ?_; refine any_guardY rfl (decide_eq_true (by omega)) (fun c => ow_move rfl ⟨rfl, List.Perm.refl _⟩) ?_
          refine any_guardY rfl (decide_eq_true (by omega)) (fun c => ow_nilCheck rfl ⟨rfl, List.Perm.refl _⟩) ?_
          refine any_guardY rfl (decide_eq_true (by omega)) (fun c => ow_fieldAddr rfl rfl rfl (nb rfl) ⟨rfl, List.Perm.refl _⟩) ?_
          refine any_guardY rfl (decide_eq_true (by omega)) (fun c => ow_load 0 rfl rfl rfl rfl ⟨rfl, List.Perm.refl _⟩) ?_
          refine any_guardY rfl (decide_eq_true (by omega)) (fun c => ow_indexAddrMapE rfl rfl (by omega) rfl rfl (nb rfl) ⟨rfl, List.Perm.refl _⟩) ?_
          refine any_guardY rfl (decide_eq_true (by omega)) (fun c => ow_fieldAddrPlace rfl rfl rfl (nb rfl) rfl (nb rfl) ⟨rfl, List.Perm.refl _⟩) ?_
          refine any_guardY rfl (decide_eq_true (by omega)) (fun c => ow_loadPlace rfl rfl ⟨rfl, List.Perm.refl _⟩) ?_; refine any_guardY rfl (decide_eq_true (by omega)) (fun c => ow_eql rfl rfl ⟨rfl, List.Perm.refl _⟩) ?_
          refine any_op (fun c => ow_pickT rfl (decide_eq_true (by omega)) rfl ⟨rfl, List.Perm.refl _⟩) ?_; refine any_nil ?_; refine jq_then ?_; refine jc_condT rfl (decide_eq_true (by assumption)) ?_; refine jc_seq ?_
          refine jc_region ?_; refine jl_op (ow_move rfl ?_) (nb rfl); refine jl_op (ow_call1 [0] rfl rfl (rnum_y hl (by omega) h3) ?_) (nb rfl); refine jl_op (ow_negW rfl ?_) (nb rfl)
          refine jl_op (ow_build rfl rfl rfl rfl rfl ?_) (nb rfl); refine jl_op0 (ow_storeAll 1 rfl rfl rfl rfl rfl rfl ?_); refine jl_op (ow_assign rfl ?_) (nb rfl); refine jl_nil ?_; refine jq_then ?_; refine jc_ret ?_
          refine jq_then_ret ?_; refine jq_block_ret ?_; refine jq_then_ret ?_; refine jq_row 0 (T.nu (ngI (numAt l (a + 1)))).row' rfl ?_ ?_
          · (repeat (first | exact RowLe.nil | refine RowLe.cons (CLe.refl _) ?_ | refine RowLe.cons CLe.nil ?_))
          · refine jq_retRowT rfl rfl rfl rfl rfl 0 rfl (fun K h => by rw [e] at h; exact h) ?_; refine sub_step 1 rfl ?_; exact sub_end
        | false =>
          have h3' : ¬ isNum l (a + 1) = true := by rw [h3]; decide
          have con := hF b (a + 1) (by omega) (by unfold need; omega)
          by_cases hlt2 : a + 1 < l.length
          · have hk2 : ¬ l[a + 1].kind = 2 := fun hc => h3' (by rw [isNum_get hlt2]; exact decide_eq_true hc)
            cases hr : sx fr l F 3 (a + 1) with
            | er code p =>
              have e : sx fr l (F + 1) 3 a = .er code p := by rw [sx, if_pos (Nat.le_refl _), if_neg h1', if_pos h2, if_neg h3', hr]
              rw [hr] at con
              refine jc_seq ?_; refine jc_region ?_; refine jl_op (ow_alloc rfl rfl (fun bl => ?_)) (nb rfl); refine jl_op (ow_assign rfl ?_) (nb rfl); refine jl_nil ?_; refine jq_then ?_; refine jc_seq ?_; refine jc_block ?_
              refine jc_seq ?_; refine jc_region ?_; refine jl_op (ow_move rfl ?_) (nb rfl); refine jl_op (ow_nilCheck rfl ?_) (nb rfl); refine jl_op (ow_fieldAddr rfl rfl rfl (nb rfl) ?_) (nb rfl)
              refine jl_op (ow_load 1 rfl rfl rfl rfl ?_) (nb rfl); refine jl_op (ow_neq rfl rfl ?_) (nb rfl); refine jl_op (ow_assign rfl ?_) (nb rfl); refine jl_nil ?_; refine jq_then ?_; refine jc_condF rfl rfl ?_
              refine jc_seq ?_; refine jc_any rfl rfl (by kernel_rfl) (by kernel_rfl) ?_; refine any_op (fun c => ow_move rfl ⟨rfl, List.Perm.refl _⟩) ?_; refine any_op (fun c => ow_nilCheck rfl ⟨rfl, List.Perm.refl _⟩) ?_
              refine any_op (fun c => ow_fieldAddr rfl rfl rfl (nb rfl) ⟨rfl, List.Perm.refl _⟩) ?_; refine any_op (fun c => ow_load 1 rfl rfl rfl rfl ⟨rfl, List.Perm.refl _⟩) ?_
              refine any_op (fun c => ow_move rfl ⟨rfl, List.Perm.refl _⟩) ?_; refine any_op (fun c => ow_nilCheck rfl ⟨rfl, List.Perm.refl _⟩) ?_
              refine any_op (fun c => ow_fieldAddr rfl rfl rfl (nb rfl) ⟨rfl, List.Perm.refl _⟩) ?_; refine any_op (fun c => ow_load 1 rfl rfl rfl rfl ⟨rfl, List.Perm.refl _⟩) ?_
              refine any_op (fun c => ow_len rfl (fun hlen => ⟨rfl, List.Perm.refl _⟩)) ?_; refine any_op (fun c => ow_lss rfl rfl ⟨rfl, List.Perm.refl _⟩) ?_; refine any_op (fun c => ow_move rfl ⟨rfl, List.Perm.refl _⟩) ?_
              refine any_guardY rfl (decide_eq_true (by omega)) (fun c => ow_move rfl ⟨rfl, List.Perm.refl _⟩) ?_; refine any_guardY rfl (decide_eq_true (by omega)) (fun c => ow_nilCheck rfl ⟨rfl, List.Perm.refl _⟩) ?_
              refine any_guardY rfl (decide_eq_true (by omega)) (fun c => ow_fieldAddr rfl rfl rfl (nb rfl) ⟨rfl, List.Perm.refl _⟩) ?_
              refine any_guardY rfl (decide_eq_true (by omega)) (fun c => ow_load 1 rfl rfl rfl rfl ⟨rfl, List.Perm.refl _⟩) ?_; refine any_guardY rfl (decide_eq_true (by omega)) (fun c => ow_move rfl ⟨rfl, List.Perm.refl _⟩) ?_
              refine any_guardY rfl (decide_eq_true (by omega)) (fun c => ow_nilCheck rfl ⟨rfl, List.Perm.refl _⟩) ?_
              refine any_guardY rfl (decide_eq_true (by omega)) (fun c => ow_fieldAddr rfl rfl rfl (nb rfl) ⟨rfl, List.Perm.refl _⟩) ?_
              refine any_guardY rfl (decide_eq_true (by omega)) (fun c => ow_load 1 rfl rfl rfl rfl ⟨rfl, List.Perm.refl _⟩) ?_
              refine any_guardY rfl (decide_eq_true (by omega)) (fun c => ow_indexAddrMapE rfl rfl (by omega) rfl rfl (nb rfl) ⟨rfl, List.Perm.refl _⟩) ?_
              refine any_guardY rfl (decide_eq_true (by omega)) (fun c => ow_fieldAddrPlace rfl rfl rfl (nb rfl) rfl (nb rfl) ⟨rfl, List.Perm.refl _⟩) ?_
              refine any_guardY rfl (decide_eq_true (by omega)) (fun c => ow_loadPlace rfl rfl ⟨rfl, List.Perm.refl _⟩) ?_; refine any_guardY rfl (decide_eq_true (by omega)) (fun c => ow_eql rfl rfl ⟨rfl, List.Perm.refl _⟩) ?_
              refine any_op (fun c => ow_pickT rfl (decide_eq_true (by omega)) rfl ⟨rfl, List.Perm.refl _⟩) ?_; refine any_op (fun c => ow_assign rfl ⟨rfl, List.Perm.refl _⟩) ?_; refine any_nil ?_; refine jq_then ?_
              refine jc_condF rfl (decide_eq_false (by assumption)) ?_; refine jc_seq ?_; refine jc_region ?_; refine jl_op (ow_move rfl ?_) (nb rfl); refine jl_op (ow_call1 [1] rfl rfl (rskip_y hl ha h2) ?_) (nb rfl)
              refine jl_op (ow_assign rfl ?_) (nb rfl); refine jl_nil ?_; refine jq_then ?_; refine jc_condT rfl rfl ?_; refine jc_seq ?_; refine jc_seq ?_; refine jc_any rfl rfl (by kernel_rfl) (by kernel_rfl) ?_
              refine any_op (fun c => ow_move rfl ⟨rfl, List.Perm.refl _⟩) ?_; refine any_op (fun c => ow_nilCheck rfl ⟨rfl, List.Perm.refl _⟩) ?_
              refine any_op (fun c => ow_fieldAddr rfl rfl rfl (nb rfl) ⟨rfl, List.Perm.refl _⟩) ?_; refine any_op (fun c => ow_load 0 rfl rfl rfl rfl ⟨rfl, List.Perm.refl _⟩) ?_
              refine any_op (fun c => ow_move rfl ⟨rfl, List.Perm.refl _⟩) ?_; refine any_op (fun c => ow_nilCheck rfl ⟨rfl, List.Perm.refl _⟩) ?_
              refine any_op (fun c => ow_fieldAddr rfl rfl rfl (nb rfl) ⟨rfl, List.Perm.refl _⟩) ?_; refine any_op (fun c => ow_load 0 rfl rfl rfl rfl ⟨rfl, List.Perm.refl _⟩) ?_
              refine any_op (fun c => ow_len rfl (fun hlen => ⟨rfl, List.Perm.refl _⟩)) ?_; refine any_op (fun c => ow_lss rfl rfl ⟨rfl, List.Perm.refl _⟩) ?_; refine any_op (fun c => ow_move rfl ⟨rfl, List.Perm.refl _⟩) ?_
              refine any_guardY rfl (decide_eq_true (by omega)) (fun c => ow_move rfl ⟨rfl, List.Perm.refl _⟩) ?_; refine any_guardY rfl (decide_eq_true (by omega)) (fun c => ow_nilCheck rfl ⟨rfl, List.Perm.refl _⟩) ?_
              refine any_guardY rfl (decide_eq_true (by omega)) (fun c => ow_fieldAddr rfl rfl rfl (nb rfl) ⟨rfl, List.Perm.refl _⟩) ?_
              refine any_guardY rfl (decide_eq_true (by omega)) (fun c => ow_load 0 rfl rfl rfl rfl ⟨rfl, List.Perm.refl _⟩) ?_; refine any_guardY rfl (decide_eq_true (by omega)) (fun c => ow_move rfl ⟨rfl, List.Perm.refl _⟩) ?_
              refine any_guardY rfl (decide_eq_true (by omega)) (fun c => ow_nilCheck rfl ⟨rfl, List.Perm.refl _⟩) ?_
              refine any_guardY rfl (decide_eq_true (by omega)) (fun c => ow_fieldAddr rfl rfl rfl (nb rfl) ⟨rfl, List.Perm.refl _⟩) ?_
              refine any_guardY rfl (decide_eq_true (by omega)) (fun c => ow_load 0 rfl rfl rfl rfl ⟨rfl, List.Perm.refl _⟩) ?_
              refine any_guardY rfl (decide_eq_true (by omega)) (fun c => ow_indexAddrMapE rfl rfl (by omega) rfl rfl (nb rfl) ⟨rfl, List.Perm.refl _⟩) ?_
              refine any_guardY rfl (decide_eq_true (by omega)) (fun c => ow_fieldAddrPlace rfl rfl rfl (nb rfl) rfl (nb rfl) ⟨rfl, List.Perm.refl _⟩) ?_
              refine any_guardY rfl (decide_eq_true (by omega)) (fun c => ow_loadPlace rfl rfl ⟨rfl, List.Perm.refl _⟩) ?_; refine any_guardY rfl (decide_eq_true (by omega)) (fun c => ow_eql rfl rfl ⟨rfl, List.Perm.refl _⟩) ?_
              refine any_op (fun c => ow_pickT rfl (decide_eq_true (by omega)) rfl ⟨rfl, List.Perm.refl _⟩) ?_; refine any_nil ?_; refine jq_then ?_; refine jc_condF rfl (decide_eq_false (by assumption)) ?_; refine jc_skip ?_
              refine jq_then ?_; refine jc_seq ?_; refine jc_region ?_; refine jl_op (ow_move rfl ?_) (nb rfl); refine jl_op (ow_callP [0] rfl rfl (con) (fun pp hpp => ?_)) (nb rfl); refine jl_op (ow_move rfl ?_) (nb rfl)
              refine jl_op (ow_extract rfl rfl ?_) (nb rfl); refine jl_op (ow_extract rfl rfl ?_) (nb rfl); refine jl_op (ow_alloc rfl rfl (fun bl => ?_)) (nb rfl); refine jl_op0 (ow_storeAll 0 rfl rfl rfl rfl rfl rfl ?_)
              refine jl_op (ow_assign rfl ?_) (nb rfl); refine jl_nil ?_; refine jq_then ?_; refine jc_seq ?_; refine jc_region ?_; refine jl_op (ow_move rfl ?_) (nb rfl); refine jl_op (ow_move rfl ?_) (nb rfl)
              refine jl_op (ow_add rfl rfl ?_) (nb rfl); refine jl_op (ow_call1 [1] rfl rfl (rdeep_e hpp.2 (by omega) _) ?_) (nb rfl); refine jl_nil ?_; refine jq_then ?_; refine jc_seq ?_; refine jc_region ?_
              refine jl_op (ow_build rfl rfl rfl rfl rfl ?_) (nb rfl); refine jl_op (ow_loadAll 1 rfl rfl rfl rfl ?_) (nb rfl); refine jl_op (ow_buildSlice rfl rfl (nb rfl) rfl rfl (nb rfl) ?_) (nb rfl)
              refine jl_op (ow_build rfl rfl rfl rfl rfl ?_) (nb rfl); refine jl_op (ow_move rfl ?_) (nb rfl); refine jl_op (ow_add rfl rfl ?_) (nb rfl); refine jl_op0 (ow_storeAll 2 rfl rfl rfl rfl rfl rfl ?_)
              refine jl_op (ow_assign rfl ?_) (nb rfl); refine jl_nil ?_; refine jq_then ?_; refine jc_ret ?_; refine jq_block_ret ?_; refine jq_then_ret ?_; refine jq_row 0 A5 rfl ?_ ?_
              · (repeat (first | exact RowLe.nil | refine RowLe.cons (CLe.any _) ?_))
              · refine jq_retRowT rfl rfl rfl rfl rfl 0 rfl (fun K h => by rw [e] at h; exact h (pp.1, _) ⟨by omega, hpp.2⟩) ?_; refine sub_step 1 rfl ?_; exact sub_end
            | ok x c =>
              have hbd := sx_bd _ _ _ _ _ hr
              have hdep := sx_dep _ _ _ _ _ hr
              have hpos := dep_pos x
              have hd2 : (T.bn 2 (.nu 0) x).dep = x.dep + 1 := by simp only [T.dep]; omega
              rw [hr] at con
              by_cases hd : fr = false ∧ 8 < (T.bn 2 (.nu 0) x).dep
              · have e : sx fr l (F + 1) 3 a = .er 4 (c - 1) := by rw [sx, if_pos (Nat.le_refl _), if_neg h1', if_pos h2, if_neg h3', hr]; exact dpR_er hd _
                obtain ⟨rfl, hd⟩ := hd
                rw [hd2] at hd
                refine jc_seq ?_; refine jc_region ?_; refine jl_op (ow_alloc rfl rfl (fun bl => ?_)) (nb rfl); refine jl_op (ow_assign rfl ?_) (nb rfl); refine jl_nil ?_; refine jq_then ?_; refine jc_seq ?_; refine jc_block ?_
                refine jc_seq ?_; refine jc_region ?_; refine jl_op (ow_move rfl ?_) (nb rfl); refine jl_op (ow_nilCheck rfl ?_) (nb rfl); refine jl_op (ow_fieldAddr rfl rfl rfl (nb rfl) ?_) (nb rfl)
                refine jl_op (ow_load 1 rfl rfl rfl rfl ?_) (nb rfl); refine jl_op (ow_neq rfl rfl ?_) (nb rfl); refine jl_op (ow_assign rfl ?_) (nb rfl); refine jl_nil ?_; refine jq_then ?_; refine jc_condF rfl rfl ?_
                refine jc_seq ?_; refine jc_any rfl rfl (by kernel_rfl) (by kernel_rfl) ?_; refine any_op (fun c => ow_move rfl ⟨rfl, List.Perm.refl _⟩) ?_; refine any_op (fun c => ow_nilCheck rfl ⟨rfl, List.Perm.refl _⟩) ?_
                refine any_op (fun c => ow_fieldAddr rfl rfl rfl (nb rfl) ⟨rfl, List.Perm.refl _⟩) ?_; refine any_op (fun c => ow_load 1 rfl rfl rfl rfl ⟨rfl, List.Perm.refl _⟩) ?_
                refine any_op (fun c => ow_move rfl ⟨rfl, List.Perm.refl _⟩) ?_; refine any_op (fun c => ow_nilCheck rfl ⟨rfl, List.Perm.refl _⟩) ?_
                refine any_op (fun c => ow_fieldAddr rfl rfl rfl (nb rfl) ⟨rfl, List.Perm.refl _⟩) ?_; refine any_op (fun c => ow_load 1 rfl rfl rfl rfl ⟨rfl, List.Perm.refl _⟩) ?_
                refine any_op (fun c => ow_len rfl (fun hlen => ⟨rfl, List.Perm.refl _⟩)) ?_; refine any_op (fun c => ow_lss rfl rfl ⟨rfl, List.Perm.refl _⟩) ?_; refine any_op (fun c => ow_move rfl ⟨rfl, List.Perm.refl _⟩) ?_
                refine any_guardY rfl (decide_eq_true (by omega)) (fun c => ow_move rfl ⟨rfl, List.Perm.refl _⟩) ?_; refine any_guardY rfl (decide_eq_true (by omega)) (fun c => ow_nilCheck rfl ⟨rfl, List.Perm.refl _⟩) ?_
                refine any_guardY rfl (decide_eq_true (by omega)) (fun c => ow_fieldAddr rfl rfl rfl (nb rfl) ⟨rfl, List.Perm.refl _⟩) ?_
                refine any_guardY rfl (decide_eq_true (by omega)) (fun c => ow_load 1 rfl rfl rfl rfl ⟨rfl, List.Perm.refl _⟩) ?_; refine any_guardY rfl (decide_eq_true (by omega)) (fun c => ow_move rfl ⟨rfl, List.Perm.refl _⟩) ?_
                refine any_guardY rfl (decide_eq_true (by omega)) (fun c => ow_nilCheck rfl ⟨rfl, List.Perm.refl _⟩) ?_
                refine any_guardY rfl (decide_eq_true (by omega)) (fun c => ow_fieldAddr rfl rfl rfl (nb rfl) ⟨rfl, List.Perm.refl _⟩) ?_
                refine any_guardY rfl (decide_eq_true (by omega)) (fun c => ow_load 1 rfl rfl rfl rfl ⟨rfl, List.Perm.refl _⟩) ?_
                refine any_guardY rfl (decide_eq_true (by omega)) (fun c => ow_indexAddrMapE rfl rfl (by omega) rfl rfl (nb rfl) ⟨rfl, List.Perm.refl _⟩) ?_
                refine any_guardY rfl (decide_eq_true (by omega)) (fun c => ow_fieldAddrPlace rfl rfl rfl (nb rfl) rfl (nb rfl) ⟨rfl, List.Perm.refl _⟩) ?_
                refine any_guardY rfl (decide_eq_true (by omega)) (fun c => ow_loadPlace rfl rfl ⟨rfl, List.Perm.refl _⟩) ?_; refine any_guardY rfl (decide_eq_true (by omega)) (fun c => ow_eql rfl rfl ⟨rfl, List.Perm.refl _⟩) ?_
                refine any_op (fun c => ow_pickT rfl (decide_eq_true (by omega)) rfl ⟨rfl, List.Perm.refl _⟩) ?_; refine any_op (fun c => ow_assign rfl ⟨rfl, List.Perm.refl _⟩) ?_; refine any_nil ?_; refine jq_then ?_
                refine jc_condF rfl (decide_eq_false (by assumption)) ?_; refine jc_seq ?_; refine jc_region ?_; refine jl_op (ow_move rfl ?_) (nb rfl); refine jl_op (ow_call1 [1] rfl rfl (rskip_y hl ha h2) ?_) (nb rfl)
                refine jl_op (ow_assign rfl ?_) (nb rfl); refine jl_nil ?_; refine jq_then ?_; refine jc_condT rfl rfl ?_; refine jc_seq ?_; refine jc_seq ?_; refine jc_any rfl rfl (by kernel_rfl) (by kernel_rfl) ?_
                refine any_op (fun c => ow_move rfl ⟨rfl, List.Perm.refl _⟩) ?_; refine any_op (fun c => ow_nilCheck rfl ⟨rfl, List.Perm.refl _⟩) ?_
                refine any_op (fun c => ow_fieldAddr rfl rfl rfl (nb rfl) ⟨rfl, List.Perm.refl _⟩) ?_; refine any_op (fun c => ow_load 0 rfl rfl rfl rfl ⟨rfl, List.Perm.refl _⟩) ?_
                refine any_op (fun c => ow_move rfl ⟨rfl, List.Perm.refl _⟩) ?_; refine any_op (fun c => ow_nilCheck rfl ⟨rfl, List.Perm.refl _⟩) ?_
                refine any_op (fun c => ow_fieldAddr rfl rfl rfl (nb rfl) ⟨rfl, List.Perm.refl _⟩) ?_; refine any_op (fun c => ow_load 0 rfl rfl rfl rfl ⟨rfl, List.Perm.refl _⟩) ?_
                refine any_op (fun c => ow_len rfl (fun hlen => ⟨rfl, List.Perm.refl _⟩)) ?_; refine any_op (fun c => ow_lss rfl rfl ⟨rfl, List.Perm.refl _⟩) ?_; refine any_op (fun c => ow_move rfl ⟨rfl, List.Perm.refl _⟩) ?_
                refine any_guardY rfl (decide_eq_true (by omega)) (fun c => ow_move rfl ⟨rfl, List.Perm.refl _⟩) ?_; refine any_guardY rfl (decide_eq_true (by omega)) (fun c => ow_nilCheck rfl ⟨rfl, List.Perm.refl _⟩) ?_
                refine any_guardY rfl (decide_eq_true (by omega)) (fun c => ow_fieldAddr rfl rfl rfl (nb rfl) ⟨rfl, List.Perm.refl _⟩) ?_
                refine any_guardY rfl (decide_eq_true (by omega)) (fun c => ow_load 0 rfl rfl rfl rfl ⟨rfl, List.Perm.refl _⟩) ?_; refine any_guardY rfl (decide_eq_true (by omega)) (fun c => ow_move rfl ⟨rfl, List.Perm.refl _⟩) ?_
                refine any_guardY rfl (decide_eq_true (by omega)) (fun c => ow_nilCheck rfl ⟨rfl, List.Perm.refl _⟩) ?_
                refine any_guardY rfl (decide_eq_true (by omega)) (fun c => ow_fieldAddr rfl rfl rfl (nb rfl) ⟨rfl, List.Perm.refl _⟩) ?_
                refine any_guardY rfl (decide_eq_true (by omega)) (fun c => ow_load 0 rfl rfl rfl rfl ⟨rfl, List.Perm.refl _⟩) ?_
                refine any_guardY rfl (decide_eq_true (by omega)) (fun c => ow_indexAddrMapE rfl rfl (by omega) rfl rfl (nb rfl) ⟨rfl, List.Perm.refl _⟩) ?_
                refine any_guardY rfl (decide_eq_true (by omega)) (fun c => ow_fieldAddrPlace rfl rfl rfl (nb rfl) rfl (nb rfl) ⟨rfl, List.Perm.refl _⟩) ?_
                refine any_guardY rfl (decide_eq_true (by omega)) (fun c => ow_loadPlace rfl rfl ⟨rfl, List.Perm.refl _⟩) ?_; refine any_guardY rfl (decide_eq_true (by omega)) (fun c => ow_eql rfl rfl ⟨rfl, List.Perm.refl _⟩) ?_
                refine any_op (fun c => ow_pickT rfl (decide_eq_true (by omega)) rfl ⟨rfl, List.Perm.refl _⟩) ?_; refine any_nil ?_; refine jq_then ?_; refine jc_condF rfl (decide_eq_false (by assumption)) ?_; refine jc_skip ?_
                refine jq_then ?_; refine jc_seq ?_; refine jc_region ?_; refine jl_op (ow_move rfl ?_) (nb rfl); refine jl_op (ow_call1 [0] rfl rfl (con) ?_) (nb rfl); refine jl_op (ow_move rfl ?_) (nb rfl)
                refine jl_op (ow_extract rfl rfl ?_) (nb rfl); refine jl_op (ow_extract rfl rfl ?_) (nb rfl); refine jl_op (ow_alloc rfl rfl (fun bl => ?_)) (nb rfl); refine jl_op0 (ow_storeAll 0 rfl rfl rfl rfl rfl rfl ?_)
                refine jl_op (ow_assign rfl ?_) (nb rfl); refine jl_nil ?_; refine jq_then ?_; refine jc_seq ?_; refine jc_region ?_; refine jl_op (ow_move rfl ?_) (nb rfl); refine jl_op (ow_move rfl ?_) (nb rfl)
                refine jl_op (ow_add64 rfl rfl (by omega) ?_) (nb rfl); refine jl_op (ow_call1 [1] rfl rfl (rdeep_n hl _ (by omega) (by omega) (by omega)) ?_) (nb rfl); refine jl_nil ?_; refine jq_then ?_; refine jc_seq ?_
                refine jc_region ?_; refine jl_op (ow_build rfl rfl rfl rfl rfl ?_) (nb rfl); refine jl_op (ow_loadAll 1 rfl rfl rfl rfl ?_) (nb rfl); refine jl_op (ow_buildSlice rfl rfl (nb rfl) rfl rfl (nb rfl) ?_) (nb rfl)
                refine jl_op (ow_build rfl rfl rfl rfl rfl ?_) (nb rfl); refine jl_op (ow_move rfl ?_) (nb rfl); refine jl_op (ow_add64 rfl rfl (by omega) ?_) (nb rfl); refine jl_op0 (ow_storeAll 2 rfl rfl rfl rfl rfl rfl ?_)
                refine jl_op (ow_assign rfl ?_) (nb rfl); refine jl_nil ?_; refine jq_then ?_; refine jc_ret ?_; refine jq_block_ret ?_; refine jq_then_ret ?_; refine jq_row 0 A5 rfl ?_ ?_
                · (repeat (first | exact RowLe.nil | refine RowLe.cons (CLe.any _) ?_))
                · refine jq_retRowT rfl rfl rfl rfl rfl 0 rfl (fun K h => by rw [e] at h; exact h (c, _) ⟨by omega, by decide⟩) ?_; refine sub_step 1 rfl ?_; exact sub_end
              · have e : sx fr l (F + 1) 3 a = .ok (.bn 2 (.nu 0) x) c := by rw [sx, if_pos (Nat.le_refl _), if_neg h1', if_pos h2, if_neg h3', hr]; exact dpR_ok hd _
                rw [hd2] at hd
                refine jc_seq ?_; refine jc_region ?_; refine jl_op (ow_alloc rfl rfl (fun bl => ?_)) (nb rfl); refine jl_op (ow_assign rfl ?_) (nb rfl); refine jl_nil ?_; refine jq_then ?_; refine jc_seq ?_; refine jc_block ?_
                refine jc_seq ?_; refine jc_region ?_; refine jl_op (ow_move rfl ?_) (nb rfl); refine jl_op (ow_nilCheck rfl ?_) (nb rfl); refine jl_op (ow_fieldAddr rfl rfl rfl (nb rfl) ?_) (nb rfl)
                refine jl_op (ow_load 1 rfl rfl rfl rfl ?_) (nb rfl); refine jl_op (ow_neq rfl rfl ?_) (nb rfl); refine jl_op (ow_assign rfl ?_) (nb rfl); refine jl_nil ?_; refine jq_then ?_; refine jc_condF rfl rfl ?_
                refine jc_seq ?_; refine jc_any rfl rfl (by kernel_rfl) (by kernel_rfl) ?_; refine any_op (fun c => ow_move rfl ⟨rfl, List.Perm.refl _⟩) ?_; refine any_op (fun c => ow_nilCheck rfl ⟨rfl, List.Perm.refl _⟩) ?_
                refine any_op (fun c => ow_fieldAddr rfl rfl rfl (nb rfl) ⟨rfl, List.Perm.refl _⟩) ?_; refine any_op (fun c => ow_load 1 rfl rfl rfl rfl ⟨rfl, List.Perm.refl _⟩) ?_
                refine any_op (fun c => ow_move rfl ⟨rfl, List.Perm.refl _⟩) ?_; refine any_op (fun c => ow_nilCheck rfl ⟨rfl, List.Perm.refl _⟩) ?_
                refine any_op (fun c => ow_fieldAddr rfl rfl rfl (nb rfl) ⟨rfl, List.Perm.refl _⟩) ?_; refine any_op (fun c => ow_load 1 rfl rfl rfl rfl ⟨rfl, List.Perm.refl _⟩) ?_
                refine any_op (fun c => ow_len rfl (fun hlen => ⟨rfl, List.Perm.refl _⟩)) ?_; refine any_op (fun c => ow_lss rfl rfl ⟨rfl, List.Perm.refl _⟩) ?_; refine any_op (fun c => ow_move rfl ⟨rfl, List.Perm.refl _⟩) ?_
                refine any_guardY rfl (decide_eq_true (by omega)) (fun c => ow_move rfl ⟨rfl, List.Perm.refl _⟩) ?_; refine any_guardY rfl (decide_eq_true (by omega)) (fun c => ow_nilCheck rfl ⟨rfl, List.Perm.refl _⟩) ?_
                refine any_guardY rfl (decide_eq_true (by omega)) (fun c => ow_fieldAddr rfl rfl rfl (nb rfl) ⟨rfl, List.Perm.refl _⟩) ?_
                refine any_guardY rfl (decide_eq_true (by omega)) (fun c => ow_load 1 rfl rfl rfl rfl ⟨rfl, List.Perm.refl _⟩) ?_; refine any_guardY rfl (decide_eq_true (by omega)) (fun c => ow_move rfl ⟨rfl, List.Perm.refl _⟩) ?_
                refine any_guardY rfl (decide_eq_true (by omega)) (fun c => ow_nilCheck rfl ⟨rfl, List.Perm.refl _⟩) ?_
                refine any_guardY rfl (decide_eq_true (by omega)) (fun c => ow_fieldAddr rfl rfl rfl (nb rfl) ⟨rfl, List.Perm.refl _⟩) ?_
                refine any_guardY rfl (decide_eq_true (by omega)) (fun c => ow_load 1 rfl rfl rfl rfl ⟨rfl, List.Perm.refl _⟩) ?_
                refine any_guardY rfl (decide_eq_true (by omega)) (fun c => ow_indexAddrMapE rfl rfl (by omega) rfl rfl (nb rfl) ⟨rfl, List.Perm.refl _⟩) ?_
                refine any_guardY rfl (decide_eq_true (by omega)) (fun c => ow_fieldAddrPlace rfl rfl rfl (nb rfl) rfl (nb rfl) ⟨rfl, List.Perm.refl _⟩) ?_
                refine any_guardY rfl (decide_eq_true (by omega)) (fun c => ow_loadPlace rfl rfl ⟨rfl, List.Perm.refl _⟩) ?_; refine any_guardY rfl (decide_eq_true (by omega)) (fun c => ow_eql rfl rfl ⟨rfl, List.Perm.refl _⟩) ?_
                refine any_op (fun c => ow_pickT rfl (decide_eq_true (by omega)) rfl ⟨rfl, List.Perm.refl _⟩) ?_; refine any_op (fun c => ow_assign rfl ⟨rfl, List.Perm.refl _⟩) ?_; refine any_nil ?_; refine jq_then ?_
                refine jc_condF rfl (decide_eq_false (by assumption)) ?_; refine jc_seq ?_; refine jc_region ?_; refine jl_op (ow_move rfl ?_) (nb rfl); refine jl_op (ow_call1 [1] rfl rfl (rskip_y hl ha h2) ?_) (nb rfl)
                refine jl_op (ow_assign rfl ?_) (nb rfl); refine jl_nil ?_; refine jq_then ?_; refine jc_condT rfl rfl ?_; refine jc_seq ?_; refine jc_seq ?_; refine jc_any rfl rfl (by kernel_rfl) (by kernel_rfl) ?_
                refine any_op (fun c => ow_move rfl ⟨rfl, List.Perm.refl _⟩) ?_; refine any_op (fun c => ow_nilCheck rfl ⟨rfl, List.Perm.refl _⟩) ?_
                refine any_op (fun c => ow_fieldAddr rfl rfl rfl (nb rfl) ⟨rfl, List.Perm.refl _⟩) ?_; refine any_op (fun c => ow_load 0 rfl rfl rfl rfl ⟨rfl, List.Perm.refl _⟩) ?_
                refine any_op (fun c => ow_move rfl ⟨rfl, List.Perm.refl _⟩) ?_; refine any_op (fun c => ow_nilCheck rfl ⟨rfl, List.Perm.refl _⟩) ?_
                refine any_op (fun c => ow_fieldAddr rfl rfl rfl (nb rfl) ⟨rfl, List.Perm.refl _⟩) ?_; refine any_op (fun c => ow_load 0 rfl rfl rfl rfl ⟨rfl, List.Perm.refl _⟩) ?_
                refine any_op (fun c => ow_len rfl (fun hlen => ⟨rfl, List.Perm.refl _⟩)) ?_; refine any_op (fun c => ow_lss rfl rfl ⟨rfl, List.Perm.refl _⟩) ?_; refine any_op (fun c => ow_move rfl ⟨rfl, List.Perm.refl _⟩) ?_
                refine any_guardY rfl (decide_eq_true (by omega)) (fun c => ow_move rfl ⟨rfl, List.Perm.refl _⟩) ?_; refine any_guardY rfl (decide_eq_true (by omega)) (fun c => ow_nilCheck rfl ⟨rfl, List.Perm.refl _⟩) ?_
                refine any_guardY rfl (decide_eq_true (by omega)) (fun c => ow_fieldAddr rfl rfl rfl (nb rfl) ⟨rfl, List.Perm.refl _⟩) ?_
                refine any_guardY rfl (decide_eq_true (by omega)) (fun c => ow_load 0 rfl rfl rfl rfl ⟨rfl, List.Perm.refl _⟩) ?_; refine any_guardY rfl (decide_eq_true (by omega)) (fun c => ow_move rfl ⟨rfl, List.Perm.refl _⟩) ?_
                refine any_guardY rfl (decide_eq_true (by omega)) (fun c => ow_nilCheck rfl ⟨rfl, List.Perm.refl _⟩) ?_
                refine any_guardY rfl (decide_eq_true (by omega)) (fun c => ow_fieldAddr rfl rfl rfl (nb rfl) ⟨rfl, List.Perm.refl _⟩) ?_
                refine any_guardY rfl (decide_eq_true (by omega)) (fun c => ow_load 0 rfl rfl rfl rfl ⟨rfl, List.Perm.refl _⟩) ?_
                refine any_guardY rfl (decide_eq_true (by omega)) (fun c => ow_indexAddrMapE rfl rfl (by omega) rfl rfl (nb rfl) ⟨rfl, List.Perm.refl _⟩) ?_
                refine any_guardY rfl (decide_eq_true (by omega)) (fun c => ow_fieldAddrPlace rfl rfl rfl (nb rfl) rfl (nb rfl) ⟨rfl, List.Perm.refl _⟩) ?_
                refine any_guardY rfl (decide_eq_true (by omega)) (fun c => ow_loadPlace rfl rfl ⟨rfl, List.Perm.refl _⟩) ?_; refine any_guardY rfl (decide_eq_true (by omega)) (fun c => ow_eql rfl rfl ⟨rfl, List.Perm.refl _⟩) ?_
                refine any_op (fun c => ow_pickT rfl (decide_eq_true (by omega)) rfl ⟨rfl, List.Perm.refl _⟩) ?_; refine any_nil ?_; refine jq_then ?_; refine jc_condF rfl (decide_eq_false (by assumption)) ?_; refine jc_skip ?_
                refine jq_then ?_; refine jc_seq ?_; refine jc_region ?_; refine jl_op (ow_move rfl ?_) (nb rfl); refine jl_op (ow_call1 [0] rfl rfl (con) ?_) (nb rfl); refine jl_op (ow_move rfl ?_) (nb rfl)
                refine jl_op (ow_extract rfl rfl ?_) (nb rfl); refine jl_op (ow_extract rfl rfl ?_) (nb rfl); refine jl_op (ow_alloc rfl rfl (fun bl => ?_)) (nb rfl); refine jl_op0 (ow_storeAll 0 rfl rfl rfl rfl rfl rfl ?_)
                refine jl_op (ow_assign rfl ?_) (nb rfl); refine jl_nil ?_; refine jq_then ?_; refine jc_seq ?_; refine jc_region ?_; refine jl_op (ow_move rfl ?_) (nb rfl); refine jl_op (ow_move rfl ?_) (nb rfl)
                refine jl_op (ow_add64 rfl rfl (by omega) ?_) (nb rfl); refine jl_op (ow_call1 [1] rfl rfl (rdeep_y _ (fun hh => hd ⟨hh.1, by omega⟩)) ?_) (nb rfl); refine jl_nil ?_; refine jq_then ?_; refine jc_seq ?_
                refine jc_region ?_; refine jl_op (ow_build rfl rfl rfl rfl rfl ?_) (nb rfl); refine jl_op (ow_loadAll 1 rfl rfl rfl rfl ?_) (nb rfl); refine jl_op (ow_buildSlice rfl rfl (nb rfl) rfl rfl (nb rfl) ?_) (nb rfl)
                refine jl_op (ow_build rfl rfl rfl rfl rfl ?_) (nb rfl); refine jl_op (ow_move rfl ?_) (nb rfl); refine jl_op (ow_add64 rfl rfl (by omega) ?_) (nb rfl); refine jl_op0 (ow_storeAll 2 rfl rfl rfl rfl rfl rfl ?_)
                refine jl_op (ow_assign rfl ?_) (nb rfl); refine jl_nil ?_; refine jq_then ?_; refine jc_ret ?_; refine jq_block_ret ?_; refine jq_then_ret ?_; refine jq_row 0 (T.bn 2 (.nu 0) x).row' rfl ?_ ?_
                · (repeat (first | exact RowLe.nil | refine RowLe.cons (CLe.refl _) ?_ | refine RowLe.cons CLe.nil ?_))
                  refine RowLe.cons (CLe.list (.cons ?_ (.cons ?_ .nil))) .nil
                  · (repeat (first | exact RowLe.nil | refine RowLe.cons (CLe.refl _) ?_ | refine RowLe.cons CLe.nil ?_))
                  · rw [T.row_eq]
                    (repeat (first | exact RowLe.nil | refine RowLe.cons (CLe.refl _) ?_ | refine RowLe.cons CLe.nil ?_))
                · refine jq_retRowT rfl rfl rfl rfl rfl 0 rfl (fun K h => by rw [e, LvPost, hd2] at h; exact h) ?_; refine sub_step 1 rfl ?_; exact sub_end
          · cases hr : sx fr l F 3 (a + 1) with
            | er code p =>
              have e : sx fr l (F + 1) 3 a = .er code p := by rw [sx, if_pos (Nat.le_refl _), if_neg h1', if_pos h2, if_neg h3', hr]
              rw [hr] at con
              refine jc_seq ?_; refine jc_region ?_; refine jl_op (ow_alloc rfl rfl (fun bl => ?_)) (nb rfl); refine jl_op (ow_assign rfl ?_) (nb rfl); refine jl_nil ?_; refine jq_then ?_; refine jc_seq ?_; refine jc_block ?_
              refine jc_seq ?_; refine jc_region ?_; refine jl_op (ow_move rfl ?_) (nb rfl); refine jl_op (ow_nilCheck rfl ?_) (nb rfl); refine jl_op (ow_fieldAddr rfl rfl rfl (nb rfl) ?_) (nb rfl)
              refine jl_op (ow_load 1 rfl rfl rfl rfl ?_) (nb rfl); refine jl_op (ow_neq rfl rfl ?_) (nb rfl); refine jl_op (ow_assign rfl ?_) (nb rfl); refine jl_nil ?_; refine jq_then ?_; refine jc_condF rfl rfl ?_
              refine jc_seq ?_; refine jc_any rfl rfl (by kernel_rfl) (by kernel_rfl) ?_; refine any_op (fun c => ow_move rfl ⟨rfl, List.Perm.refl _⟩) ?_; refine any_op (fun c => ow_nilCheck rfl ⟨rfl, List.Perm.refl _⟩) ?_
              refine any_op (fun c => ow_fieldAddr rfl rfl rfl (nb rfl) ⟨rfl, List.Perm.refl _⟩) ?_; refine any_op (fun c => ow_load 1 rfl rfl rfl rfl ⟨rfl, List.Perm.refl _⟩) ?_
              refine any_op (fun c => ow_move rfl ⟨rfl, List.Perm.refl _⟩) ?_; refine any_op (fun c => ow_nilCheck rfl ⟨rfl, List.Perm.refl _⟩) ?_
              refine any_op (fun c => ow_fieldAddr rfl rfl rfl (nb rfl) ⟨rfl, List.Perm.refl _⟩) ?_; refine any_op (fun c => ow_load 1 rfl rfl rfl rfl ⟨rfl, List.Perm.refl _⟩) ?_
              refine any_op (fun c => ow_len rfl (fun hlen => ⟨rfl, List.Perm.refl _⟩)) ?_; refine any_op (fun c => ow_lss rfl rfl ⟨rfl, List.Perm.refl _⟩) ?_; refine any_op (fun c => ow_move rfl ⟨rfl, List.Perm.refl _⟩) ?_
              refine any_guardY rfl (decide_eq_true (by omega)) (fun c => ow_move rfl ⟨rfl, List.Perm.refl _⟩) ?_; refine any_guardY rfl (decide_eq_true (by omega)) (fun c => ow_nilCheck rfl ⟨rfl, List.Perm.refl _⟩) ?_
              refine any_guardY rfl (decide_eq_true (by omega)) (fun c => ow_fieldAddr rfl rfl rfl (nb rfl) ⟨rfl, List.Perm.refl _⟩) ?_
              refine any_guardY rfl (decide_eq_true (by omega)) (fun c => ow_load 1 rfl rfl rfl rfl ⟨rfl, List.Perm.refl _⟩) ?_; refine any_guardY rfl (decide_eq_true (by omega)) (fun c => ow_move rfl ⟨rfl, List.Perm.refl _⟩) ?_
              refine any_guardY rfl (decide_eq_true (by omega)) (fun c => ow_nilCheck rfl ⟨rfl, List.Perm.refl _⟩) ?_
              refine any_guardY rfl (decide_eq_true (by omega)) (fun c => ow_fieldAddr rfl rfl rfl (nb rfl) ⟨rfl, List.Perm.refl _⟩) ?_
              refine any_guardY rfl (decide_eq_true (by omega)) (fun c => ow_load 1 rfl rfl rfl rfl ⟨rfl, List.Perm.refl _⟩) ?_
              refine any_guardY rfl (decide_eq_true (by omega)) (fun c => ow_indexAddrMapE rfl rfl (by omega) rfl rfl (nb rfl) ⟨rfl, List.Perm.refl _⟩) ?_
              refine any_guardY rfl (decide_eq_true (by omega)) (fun c => ow_fieldAddrPlace rfl rfl rfl (nb rfl) rfl (nb rfl) ⟨rfl, List.Perm.refl _⟩) ?_
              refine any_guardY rfl (decide_eq_true (by omega)) (fun c => ow_loadPlace rfl rfl ⟨rfl, List.Perm.refl _⟩) ?_; refine any_guardY rfl (decide_eq_true (by omega)) (fun c => ow_eql rfl rfl ⟨rfl, List.Perm.refl _⟩) ?_
              refine any_op (fun c => ow_pickT rfl (decide_eq_true (by omega)) rfl ⟨rfl, List.Perm.refl _⟩) ?_; refine any_op (fun c => ow_assign rfl ⟨rfl, List.Perm.refl _⟩) ?_; refine any_nil ?_; refine jq_then ?_
              refine jc_condF rfl (decide_eq_false (by assumption)) ?_; refine jc_seq ?_; refine jc_region ?_; refine jl_op (ow_move rfl ?_) (nb rfl); refine jl_op (ow_call1 [1] rfl rfl (rskip_y hl ha h2) ?_) (nb rfl)
              refine jl_op (ow_assign rfl ?_) (nb rfl); refine jl_nil ?_; refine jq_then ?_; refine jc_condT rfl rfl ?_; refine jc_seq ?_; refine jc_seq ?_; refine jc_any rfl rfl (by kernel_rfl) (by kernel_rfl) ?_
              refine any_op (fun c => ow_move rfl ⟨rfl, List.Perm.refl _⟩) ?_; refine any_op (fun c => ow_nilCheck rfl ⟨rfl, List.Perm.refl _⟩) ?_
              refine any_op (fun c => ow_fieldAddr rfl rfl rfl (nb rfl) ⟨rfl, List.Perm.refl _⟩) ?_; refine any_op (fun c => ow_load 0 rfl rfl rfl rfl ⟨rfl, List.Perm.refl _⟩) ?_
              refine any_op (fun c => ow_move rfl ⟨rfl, List.Perm.refl _⟩) ?_; refine any_op (fun c => ow_nilCheck rfl ⟨rfl, List.Perm.refl _⟩) ?_
              refine any_op (fun c => ow_fieldAddr rfl rfl rfl (nb rfl) ⟨rfl, List.Perm.refl _⟩) ?_; refine any_op (fun c => ow_load 0 rfl rfl rfl rfl ⟨rfl, List.Perm.refl _⟩) ?_
              refine any_op (fun c => ow_len rfl (fun hlen => ⟨rfl, List.Perm.refl _⟩)) ?_; refine any_op (fun c => ow_lss rfl rfl ⟨rfl, List.Perm.refl _⟩) ?_; refine any_op (fun c => ow_move rfl ⟨rfl, List.Perm.refl _⟩) ?_
              refine any_guardN rfl (decide_eq_false (by omega)) ?_; refine any_guardN rfl (decide_eq_false (by omega)) ?_; refine any_guardN rfl (decide_eq_false (by omega)) ?_
              refine any_guardN rfl (decide_eq_false (by omega)) ?_; refine any_guardN rfl (decide_eq_false (by omega)) ?_; refine any_guardN rfl (decide_eq_false (by omega)) ?_
              refine any_guardN rfl (decide_eq_false (by omega)) ?_; refine any_guardN rfl (decide_eq_false (by omega)) ?_; refine any_guardN rfl (decide_eq_false (by omega)) ?_
              refine any_guardN rfl (decide_eq_false (by omega)) ?_; refine any_guardN rfl (decide_eq_false (by omega)) ?_; refine any_guardN rfl (decide_eq_false (by omega)) ?_
              refine any_op (fun c => ow_pickF rfl (decide_eq_false (by omega)) rfl ⟨rfl, List.Perm.refl _⟩) ?_; refine any_nil ?_; refine jq_then ?_; refine jc_condF rfl rfl ?_; refine jc_skip ?_; refine jq_then ?_
              refine jc_seq ?_; refine jc_region ?_; refine jl_op (ow_move rfl ?_) (nb rfl); refine jl_op (ow_callP [0] rfl rfl (con) (fun pp hpp => ?_)) (nb rfl); refine jl_op (ow_move rfl ?_) (nb rfl)
              refine jl_op (ow_extract rfl rfl ?_) (nb rfl); refine jl_op (ow_extract rfl rfl ?_) (nb rfl); refine jl_op (ow_alloc rfl rfl (fun bl => ?_)) (nb rfl); refine jl_op0 (ow_storeAll 0 rfl rfl rfl rfl rfl rfl ?_)
              refine jl_op (ow_assign rfl ?_) (nb rfl); refine jl_nil ?_; refine jq_then ?_; refine jc_seq ?_; refine jc_region ?_; refine jl_op (ow_move rfl ?_) (nb rfl); refine jl_op (ow_move rfl ?_) (nb rfl)
              refine jl_op (ow_add rfl rfl ?_) (nb rfl); refine jl_op (ow_call1 [1] rfl rfl (rdeep_e hpp.2 (by omega) _) ?_) (nb rfl); refine jl_nil ?_; refine jq_then ?_; refine jc_seq ?_; refine jc_region ?_
              refine jl_op (ow_build rfl rfl rfl rfl rfl ?_) (nb rfl); refine jl_op (ow_loadAll 1 rfl rfl rfl rfl ?_) (nb rfl); refine jl_op (ow_buildSlice rfl rfl (nb rfl) rfl rfl (nb rfl) ?_) (nb rfl)
              refine jl_op (ow_build rfl rfl rfl rfl rfl ?_) (nb rfl); refine jl_op (ow_move rfl ?_) (nb rfl); refine jl_op (ow_add rfl rfl ?_) (nb rfl); refine jl_op0 (ow_storeAll 2 rfl rfl rfl rfl rfl rfl ?_)
              refine jl_op (ow_assign rfl ?_) (nb rfl); refine jl_nil ?_; refine jq_then ?_; refine jc_ret ?_; refine jq_block_ret ?_; refine jq_then_ret ?_; refine jq_row 0 A5 rfl ?_ ?_
              · (repeat (first | exact RowLe.nil | refine RowLe.cons (CLe.any _) ?_))
              · refine jq_retRowT rfl rfl rfl rfl rfl 0 rfl (fun K h => by rw [e] at h; exact h (pp.1, _) ⟨by omega, hpp.2⟩) ?_; refine sub_step 1 rfl ?_; exact sub_end
            | ok x c =>
              have hbd := sx_bd _ _ _ _ _ hr
              omega
      | false =>
        have h2' : ¬ isA l a W45 = true := by rw [h2]; decide
        cases h3 : isNm l a with
        | true =>
          cases h4 : isA l (a + 1) W91 with
          | true =>
            have hlt2 := isA_lt h4
            have con := hX b (a + 2) (by omega) (by unfold need; omega)
            cases hr : sx fr l F 0 (a + 2) with
            | er code p =>
              have e : sx fr l (F + 1) 3 a = .er code p := by rw [sx, if_pos (Nat.le_refl _), if_neg h1', if_neg h2', if_pos h3, if_pos h4, hr]
              rw [hr] at con
              refine jc_seq ?_; refine jc_region ?_; refine jl_op (ow_alloc rfl rfl (fun bl => ?_)) (nb rfl); refine jl_op (ow_assign rfl ?_) (nb rfl); refine jl_nil ?_; refine jq_then ?_; refine jc_seq ?_; refine jc_block ?_
              refine jc_seq ?_; refine jc_region ?_; refine jl_op (ow_move rfl ?_) (nb rfl); refine jl_op (ow_nilCheck rfl ?_) (nb rfl); refine jl_op (ow_fieldAddr rfl rfl rfl (nb rfl) ?_) (nb rfl)
              refine jl_op (ow_load 1 rfl rfl rfl rfl ?_) (nb rfl); refine jl_op (ow_neq rfl rfl ?_) (nb rfl); refine jl_op (ow_assign rfl ?_) (nb rfl); refine jl_nil ?_; refine jq_then ?_; refine jc_condF rfl rfl ?_
              refine jc_seq ?_; refine jc_any rfl rfl (by kernel_rfl) (by kernel_rfl) ?_; refine any_op (fun c => ow_move rfl ⟨rfl, List.Perm.refl _⟩) ?_; refine any_op (fun c => ow_nilCheck rfl ⟨rfl, List.Perm.refl _⟩) ?_
              refine any_op (fun c => ow_fieldAddr rfl rfl rfl (nb rfl) ⟨rfl, List.Perm.refl _⟩) ?_; refine any_op (fun c => ow_load 1 rfl rfl rfl rfl ⟨rfl, List.Perm.refl _⟩) ?_
              refine any_op (fun c => ow_move rfl ⟨rfl, List.Perm.refl _⟩) ?_; refine any_op (fun c => ow_nilCheck rfl ⟨rfl, List.Perm.refl _⟩) ?_
              refine any_op (fun c => ow_fieldAddr rfl rfl rfl (nb rfl) ⟨rfl, List.Perm.refl _⟩) ?_; refine any_op (fun c => ow_load 1 rfl rfl rfl rfl ⟨rfl, List.Perm.refl _⟩) ?_
              refine any_op (fun c => ow_len rfl (fun hlen => ⟨rfl, List.Perm.refl _⟩)) ?_; refine any_op (fun c => ow_lss rfl rfl ⟨rfl, List.Perm.refl _⟩) ?_; refine any_op (fun c => ow_move rfl ⟨rfl, List.Perm.refl _⟩) ?_
              refine any_guardY rfl (decide_eq_true (by omega)) (fun c => ow_move rfl ⟨rfl, List.Perm.refl _⟩) ?_; refine any_guardY rfl (decide_eq_true (by omega)) (fun c => ow_nilCheck rfl ⟨rfl, List.Perm.refl _⟩) ?_
              refine any_guardY rfl (decide_eq_true (by omega)) (fun c => ow_fieldAddr rfl rfl rfl (nb rfl) ⟨rfl, List.Perm.refl _⟩) ?_
              refine any_guardY rfl (decide_eq_true (by omega)) (fun c => ow_load 1 rfl rfl rfl rfl ⟨rfl, List.Perm.refl _⟩) ?_; refine any_guardY rfl (decide_eq_true (by omega)) (fun c => ow_move rfl ⟨rfl, List.Perm.refl _⟩) ?_
              refine any_guardY rfl (decide_eq_true (by omega)) (fun c => ow_nilCheck rfl ⟨rfl, List.Perm.refl _⟩) ?_
              refine any_guardY rfl (decide_eq_true (by omega)) (fun c => ow_fieldAddr rfl rfl rfl (nb rfl) ⟨rfl, List.Perm.refl _⟩) ?_
              refine any_guardY rfl (decide_eq_true (by omega)) (fun c => ow_load 1 rfl rfl rfl rfl ⟨rfl, List.Perm.refl _⟩) ?_
              refine any_guardY rfl (decide_eq_true (by omega)) (fun c => ow_indexAddrMapE rfl rfl (by omega) rfl rfl (nb rfl) ⟨rfl, List.Perm.refl _⟩) ?_
              refine any_guardY rfl (decide_eq_true (by omega)) (fun c => ow_fieldAddrPlace rfl rfl rfl (nb rfl) rfl (nb rfl) ⟨rfl, List.Perm.refl _⟩) ?_
              refine any_guardY rfl (decide_eq_true (by omega)) (fun c => ow_loadPlace rfl rfl ⟨rfl, List.Perm.refl _⟩) ?_; refine any_guardY rfl (decide_eq_true (by omega)) (fun c => ow_eql rfl rfl ⟨rfl, List.Perm.refl _⟩) ?_
              refine any_op (fun c => ow_pickT rfl (decide_eq_true (by omega)) rfl ⟨rfl, List.Perm.refl _⟩) ?_; refine any_op (fun c => ow_assign rfl ⟨rfl, List.Perm.refl _⟩) ?_; refine any_nil ?_; refine jq_then ?_
              refine jc_condF rfl (decide_eq_false (by assumption)) ?_; refine jc_seq ?_; refine jc_region ?_; refine jl_op (ow_move rfl ?_) (nb rfl); refine jl_op (ow_call1 [1] rfl rfl (rskip_n ha h2) ?_) (nb rfl)
              refine jl_op (ow_assign rfl ?_) (nb rfl); refine jl_nil ?_; refine jq_then ?_; refine jc_condF rfl rfl ?_; refine jc_seq ?_; refine jc_region ?_; refine jl_op (ow_move rfl ?_) (nb rfl)
              refine jl_op (ow_call1 [0] rfl rfl (risNm_y ha h3) ?_) (nb rfl); refine jl_op (ow_assign rfl ?_) (nb rfl); refine jl_nil ?_; refine jq_then ?_; refine jc_condT rfl rfl ?_; refine jc_seq ?_; refine jc_region ?_
              refine jl_op (ow_move rfl ?_) (nb rfl); refine jl_op (ow_call1 [0] rfl rfl (rname_y hl ha h3) ?_) (nb rfl); refine jl_op (ow_assign rfl ?_) (nb rfl); refine jl_nil ?_; refine jq_then ?_; refine jc_seq ?_
              refine jc_seq ?_; refine jc_region ?_; refine jl_op (ow_move rfl ?_) (nb rfl); refine jl_op (ow_call1 [0] rfl rfl (rskip_y hl (by omega) h4) ?_) (nb rfl); refine jl_op (ow_not rfl ?_) (nb rfl); refine jl_nil ?_
              refine jq_then ?_; refine jc_condF rfl rfl ?_; refine jc_skip ?_; refine jq_then ?_; refine jc_seq ?_; refine jc_region ?_; refine jl_op (ow_move rfl ?_) (nb rfl)
              refine jl_op (ow_callP [0] rfl rfl (con) (fun pp hpp => ?_)) (nb rfl); refine jl_op (ow_move rfl ?_) (nb rfl); refine jl_op (ow_extract rfl rfl ?_) (nb rfl); refine jl_op (ow_extract rfl rfl ?_) (nb rfl)
              refine jl_op (ow_alloc rfl rfl (fun bl => ?_)) (nb rfl); refine jl_op0 (ow_storeAll 0 rfl rfl rfl rfl rfl rfl ?_); refine jl_op (ow_assign rfl ?_) (nb rfl); refine jl_nil ?_; refine jq_then ?_; refine jc_seq ?_
              refine jc_region ?_; refine jl_op (ow_move rfl ?_) (nb rfl); refine jl_op (ow_call1 [1] rfl rfl (rneed_e hpp.2 _) ?_) (nb rfl); refine jl_nil ?_; refine jq_then ?_; refine jc_seq ?_; refine jc_region ?_
              refine jl_op (ow_move rfl ?_) (nb rfl); refine jl_op (ow_move rfl ?_) (nb rfl); refine jl_op (ow_add rfl rfl ?_) (nb rfl); refine jl_op (ow_call1 [0] rfl rfl (rdeep_e hpp.2 (by omega) _) ?_) (nb rfl)
              refine jl_nil ?_; refine jq_then ?_; refine jc_seq ?_; refine jc_region ?_; refine jl_op (ow_move rfl ?_) (nb rfl); refine jl_op (ow_loadAll 1 rfl rfl rfl rfl ?_) (nb rfl)
              refine jl_op (ow_buildSlice rfl rfl (nb rfl) rfl rfl (nb rfl) ?_) (nb rfl); refine jl_op (ow_build rfl rfl rfl rfl rfl ?_) (nb rfl); refine jl_op (ow_move rfl ?_) (nb rfl); refine jl_op (ow_add rfl rfl ?_) (nb rfl)
              refine jl_op0 (ow_storeAll 2 rfl rfl rfl rfl rfl rfl ?_); refine jl_op (ow_assign rfl ?_) (nb rfl); refine jl_nil ?_; refine jq_then ?_; refine jc_ret ?_; refine jq_block_ret ?_; refine jq_then_ret ?_
              refine jq_row 0 A5 rfl ?_ ?_
              · (repeat (first | exact RowLe.nil | refine RowLe.cons (CLe.any _) ?_))
              · refine jq_retRowT rfl rfl rfl rfl rfl 0 rfl (fun K h => by rw [e] at h; exact h (pp.1, _) ⟨by omega, hpp.2⟩) ?_; refine sub_step 1 rfl ?_; exact sub_end
            | ok x c =>
              have hbd := sx_bd _ _ _ _ _ hr
              have hdep := sx_dep _ _ _ _ _ hr
              have hd2 : (T.ix (txtAt l a) x).dep = x.dep + 1 := rfl
              rw [hr] at con
              cases h5 : isA l c W93 with
              | true =>
                have hlt5 := isA_lt h5
                by_cases hd : fr = false ∧ 8 < (T.ix (txtAt l a) x).dep
                · have e : sx fr l (F + 1) 3 a = .er 4 c := by rw [sx, if_pos (Nat.le_refl _), if_neg h1', if_neg h2', if_pos h3, if_pos h4, hr]; dsimp only; rw [if_pos h5]; exact dpR_er hd _
                  obtain ⟨rfl, hd⟩ := hd
                  rw [hd2] at hd
                  have hD := rdeep_n (b := b) (ln := 0) hl ((x.dep : Int) + 1) (by omega) (show 1 ≤ c + 1 by omega) (by omega)
                  rw [show c + 1 - 1 = c by omega] at hD
                  refine jc_seq ?_; refine jc_region ?_; refine jl_op (ow_alloc rfl rfl (fun bl => ?_)) (nb rfl); refine jl_op (ow_assign rfl ?_) (nb rfl); refine jl_nil ?_; refine jq_then ?_; refine jc_seq ?_; refine jc_block ?_
                  refine jc_seq ?_; refine jc_region ?_; refine jl_op (ow_move rfl ?_) (nb rfl); refine jl_op (ow_nilCheck rfl ?_) (nb rfl); refine jl_op (ow_fieldAddr rfl rfl rfl (nb rfl) ?_) (nb rfl)
                  refine jl_op (ow_load 1 rfl rfl rfl rfl ?_) (nb rfl); refine jl_op (ow_neq rfl rfl ?_) (nb rfl); refine jl_op (ow_assign rfl ?_) (nb rfl); refine jl_nil ?_; refine jq_then ?_; refine jc_condF rfl rfl ?_
                  refine jc_seq ?_; refine jc_any rfl rfl (by kernel_rfl) (by kernel_rfl) ?_; refine any_op (fun c => ow_move rfl ⟨rfl, List.Perm.refl _⟩) ?_; refine any_op (fun c => ow_nilCheck rfl ⟨rfl, List.Perm.refl _⟩) ?_
                  refine any_op (fun c => ow_fieldAddr rfl rfl rfl (nb rfl) ⟨rfl, List.Perm.refl _⟩) ?_; refine any_op (fun c => ow_load 1 rfl rfl rfl rfl ⟨rfl, List.Perm.refl _⟩) ?_
                  refine any_op (fun c => ow_move rfl ⟨rfl, List.Perm.refl _⟩) ?_; refine any_op (fun c => ow_nilCheck rfl ⟨rfl, List.Perm.refl _⟩) ?_
                  refine any_op (fun c => ow_fieldAddr rfl rfl rfl (nb rfl) ⟨rfl, List.Perm.refl _⟩) ?_; refine any_op (fun c => ow_load 1 rfl rfl rfl rfl ⟨rfl, List.Perm.refl _⟩) ?_
                  refine any_op (fun c => ow_len rfl (fun hlen => ⟨rfl, List.Perm.refl _⟩)) ?_; refine any_op (fun c => ow_lss rfl rfl ⟨rfl, List.Perm.refl _⟩) ?_; refine any_op (fun c => ow_move rfl ⟨rfl, List.Perm.refl _⟩) ?_
                  refine any_guardY rfl (decide_eq_true (by omega)) (fun c => ow_move rfl ⟨rfl, List.Perm.refl _⟩) ?_; refine any_guardY rfl (decide_eq_true (by omega)) (fun c => ow_nilCheck rfl ⟨rfl, List.Perm.refl _⟩) ?_
                  refine any_guardY rfl (decide_eq_true (by omega)) (fun c => ow_fieldAddr rfl rfl rfl (nb rfl) ⟨rfl, List.Perm.refl _⟩) ?_
                  refine any_guardY rfl (decide_eq_true (by omega)) (fun c => ow_load 1 rfl rfl rfl rfl ⟨rfl, List.Perm.refl _⟩) ?_
                  refine any_guardY rfl (decide_eq_true (by omega)) (fun c => ow_move rfl ⟨rfl, List.Perm.refl _⟩) ?_; refine any_guardY rfl (decide_eq_true (by omega)) (fun c => ow_nilCheck rfl ⟨rfl, List.Perm.refl _⟩) ?_
                  refine any_guardY rfl (decide_eq_true (by omega)) (fun c => ow_fieldAddr rfl rfl rfl (nb rfl) ⟨rfl, List.Perm.refl _⟩) ?_
                  refine any_guardY rfl (decide_eq_true (by omega)) (fun c => ow_load 1 rfl rfl rfl rfl ⟨rfl, List.Perm.refl _⟩) ?_
                  refine any_guardY rfl (decide_eq_true (by omega)) (fun c => ow_indexAddrMapE rfl rfl (by omega) rfl rfl (nb rfl) ⟨rfl, List.Perm.refl _⟩) ?_
                  refine any_guardY rfl (decide_eq_true (by omega)) (fun c => ow_fieldAddrPlace rfl rfl rfl (nb rfl) rfl (nb rfl) ⟨rfl, List.Perm.refl _⟩) ?_
                  refine any_guardY rfl (decide_eq_true (by omega)) (fun c => ow_loadPlace rfl rfl ⟨rfl, List.Perm.refl _⟩) ?_; refine any_guardY rfl (decide_eq_true (by omega)) (fun c => ow_eql rfl rfl ⟨rfl, List.Perm.refl _⟩) ?_
                  refine any_op (fun c => ow_pickT rfl (decide_eq_true (by omega)) rfl ⟨rfl, List.Perm.refl _⟩) ?_; refine any_op (fun c => ow_assign rfl ⟨rfl, List.Perm.refl _⟩) ?_; refine any_nil ?_; refine jq_then ?_
                  refine jc_condF rfl (decide_eq_false (by assumption)) ?_; refine jc_seq ?_; refine jc_region ?_; refine jl_op (ow_move rfl ?_) (nb rfl); refine jl_op (ow_call1 [1] rfl rfl (rskip_n ha h2) ?_) (nb rfl)
                  refine jl_op (ow_assign rfl ?_) (nb rfl); refine jl_nil ?_; refine jq_then ?_; refine jc_condF rfl rfl ?_; refine jc_seq ?_; refine jc_region ?_; refine jl_op (ow_move rfl ?_) (nb rfl)
                  refine jl_op (ow_call1 [0] rfl rfl (risNm_y ha h3) ?_) (nb rfl); refine jl_op (ow_assign rfl ?_) (nb rfl); refine jl_nil ?_; refine jq_then ?_; refine jc_condT rfl rfl ?_; refine jc_seq ?_; refine jc_region ?_
                  refine jl_op (ow_move rfl ?_) (nb rfl); refine jl_op (ow_call1 [0] rfl rfl (rname_y hl ha h3) ?_) (nb rfl); refine jl_op (ow_assign rfl ?_) (nb rfl); refine jl_nil ?_; refine jq_then ?_; refine jc_seq ?_
                  refine jc_seq ?_; refine jc_region ?_; refine jl_op (ow_move rfl ?_) (nb rfl); refine jl_op (ow_call1 [0] rfl rfl (rskip_y hl (by omega) h4) ?_) (nb rfl); refine jl_op (ow_not rfl ?_) (nb rfl); refine jl_nil ?_
                  refine jq_then ?_; refine jc_condF rfl rfl ?_; refine jc_skip ?_; refine jq_then ?_; refine jc_seq ?_; refine jc_region ?_; refine jl_op (ow_move rfl ?_) (nb rfl)
                  refine jl_op (ow_call1 [0] rfl rfl (con) ?_) (nb rfl); refine jl_op (ow_move rfl ?_) (nb rfl); refine jl_op (ow_extract rfl rfl ?_) (nb rfl); refine jl_op (ow_extract rfl rfl ?_) (nb rfl)
                  refine jl_op (ow_alloc rfl rfl (fun bl => ?_)) (nb rfl); refine jl_op0 (ow_storeAll 0 rfl rfl rfl rfl rfl rfl ?_); refine jl_op (ow_assign rfl ?_) (nb rfl); refine jl_nil ?_; refine jq_then ?_; refine jc_seq ?_
                  refine jc_region ?_; refine jl_op (ow_move rfl ?_) (nb rfl); refine jl_op (ow_call1 [1] rfl rfl (rneed_y hl (by omega) h5) ?_) (nb rfl); refine jl_nil ?_; refine jq_then ?_; refine jc_seq ?_; refine jc_region ?_
                  refine jl_op (ow_move rfl ?_) (nb rfl); refine jl_op (ow_move rfl ?_) (nb rfl); refine jl_op (ow_add64 rfl rfl (by omega) ?_) (nb rfl); refine jl_op (ow_call1 [0] rfl rfl (hD) ?_) (nb rfl); refine jl_nil ?_
                  refine jq_then ?_; refine jc_seq ?_; refine jc_region ?_; refine jl_op (ow_move rfl ?_) (nb rfl); refine jl_op (ow_loadAll 1 rfl rfl rfl rfl ?_) (nb rfl)
                  refine jl_op (ow_buildSlice rfl rfl (nb rfl) rfl rfl (nb rfl) ?_) (nb rfl); refine jl_op (ow_build rfl rfl rfl rfl rfl ?_) (nb rfl); refine jl_op (ow_move rfl ?_) (nb rfl)
                  refine jl_op (ow_add64 rfl rfl (by omega) ?_) (nb rfl); refine jl_op0 (ow_storeAll 2 rfl rfl rfl rfl rfl rfl ?_); refine jl_op (ow_assign rfl ?_) (nb rfl); refine jl_nil ?_; refine jq_then ?_; refine jc_ret ?_
                  refine jq_block_ret ?_; refine jq_then_ret ?_; refine jq_row 0 A5 rfl ?_ ?_
                  · (repeat (first | exact RowLe.nil | refine RowLe.cons (CLe.any _) ?_))
                  · refine jq_retRowT rfl rfl rfl rfl rfl 0 rfl (fun K h => by rw [e] at h; exact h (c + 1, _) ⟨by omega, by decide⟩) ?_; refine sub_step 1 rfl ?_; exact sub_end
                · have e : sx fr l (F + 1) 3 a = .ok (.ix (txtAt l a) x) (c + 1) := by rw [sx, if_pos (Nat.le_refl _), if_neg h1', if_neg h2', if_pos h3, if_pos h4, hr]; dsimp only; rw [if_pos h5]; exact dpR_ok hd _
                  rw [hd2] at hd
                  refine jc_seq ?_; refine jc_region ?_; refine jl_op (ow_alloc rfl rfl (fun bl => ?_)) (nb rfl); refine jl_op (ow_assign rfl ?_) (nb rfl); refine jl_nil ?_; refine jq_then ?_; refine jc_seq ?_; refine jc_block ?_
                  refine jc_seq ?_; refine jc_region ?_; refine jl_op (ow_move rfl ?_) (nb rfl); refine jl_op (ow_nilCheck rfl ?_) (nb rfl); refine jl_op (ow_fieldAddr rfl rfl rfl (nb rfl) ?_) (nb rfl)
                  refine jl_op (ow_load 1 rfl rfl rfl rfl ?_) (nb rfl); refine jl_op (ow_neq rfl rfl ?_) (nb rfl); refine jl_op (ow_assign rfl ?_) (nb rfl); refine jl_nil ?_; refine jq_then ?_; refine jc_condF rfl rfl ?_
                  refine jc_seq ?_; refine jc_any rfl rfl (by kernel_rfl) (by kernel_rfl) ?_; refine any_op (fun c => ow_move rfl ⟨rfl, List.Perm.refl _⟩) ?_; refine any_op (fun c => ow_nilCheck rfl ⟨rfl, List.Perm.refl _⟩) ?_
                  refine any_op (fun c => ow_fieldAddr rfl rfl rfl (nb rfl) ⟨rfl, List.Perm.refl _⟩) ?_; refine any_op (fun c => ow_load 1 rfl rfl rfl rfl ⟨rfl, List.Perm.refl _⟩) ?_
                  refine any_op (fun c => ow_move rfl ⟨rfl, List.Perm.refl _⟩) ?_; refine any_op (fun c => ow_nilCheck rfl ⟨rfl, List.Perm.refl _⟩) ?_
                  refine any_op (fun c => ow_fieldAddr rfl rfl rfl (nb rfl) ⟨rfl, List.Perm.refl _⟩) ?_; refine any_op (fun c => ow_load 1 rfl rfl rfl rfl ⟨rfl, List.Perm.refl _⟩) ?_
                  refine any_op (fun c => ow_len rfl (fun hlen => ⟨rfl, List.Perm.refl _⟩)) ?_; refine any_op (fun c => ow_lss rfl rfl ⟨rfl, List.Perm.refl _⟩) ?_; refine any_op (fun c => ow_move rfl ⟨rfl, List.Perm.refl _⟩) ?_
                  refine any_guardY rfl (decide_eq_true (by omega)) (fun c => ow_move rfl ⟨rfl, List.Perm.refl _⟩) ?_; refine any_guardY rfl (decide_eq_true (by omega)) (fun c => ow_nilCheck rfl ⟨rfl, List.Perm.refl _⟩) ?_
                  refine any_guardY rfl (decide_eq_true (by omega)) (fun c => ow_fieldAddr rfl rfl rfl (nb rfl) ⟨rfl, List.Perm.refl _⟩) ?_
                  refine any_guardY rfl (decide_eq_true (by omega)) (fun c => ow_load 1 rfl rfl rfl rfl ⟨rfl, List.Perm.refl _⟩) ?_
                  refine any_guardY rfl (decide_eq_true (by omega)) (fun c => ow_move rfl ⟨rfl, List.Perm.refl _⟩) ?_; refine any_guardY rfl (decide_eq_true (by omega)) (fun c => ow_nilCheck rfl ⟨rfl, List.Perm.refl _⟩) ?_
                  refine any_guardY rfl (decide_eq_true (by omega)) (fun c => ow_fieldAddr rfl rfl rfl (nb rfl) ⟨rfl, List.Perm.refl _⟩) ?_
                  refine any_guardY rfl (decide_eq_true (by omega)) (fun c => ow_load 1 rfl rfl rfl rfl ⟨rfl, List.Perm.refl _⟩) ?_
                  refine any_guardY rfl (decide_eq_true (by omega)) (fun c => ow_indexAddrMapE rfl rfl (by omega) rfl rfl (nb rfl) ⟨rfl, List.Perm.refl _⟩) ?_
                  refine any_guardY rfl (decide_eq_true (by omega)) (fun c => ow_fieldAddrPlace rfl rfl rfl (nb rfl) rfl (nb rfl) ⟨rfl, List.Perm.refl _⟩) ?_
                  refine any_guardY rfl (decide_eq_true (by omega)) (fun c => ow_loadPlace rfl rfl ⟨rfl, List.Perm.refl _⟩) ?_; refine any_guardY rfl (decide_eq_true (by omega)) (fun c => ow_eql rfl rfl ⟨rfl, List.Perm.refl _⟩) ?_
                  refine any_op (fun c => ow_pickT rfl (decide_eq_true (by omega)) rfl ⟨rfl, List.Perm.refl _⟩) ?_; refine any_op (fun c => ow_assign rfl ⟨rfl, List.Perm.refl _⟩) ?_; refine any_nil ?_; refine jq_then ?_
                  refine jc_condF rfl (decide_eq_false (by assumption)) ?_; refine jc_seq ?_; refine jc_region ?_; refine jl_op (ow_move rfl ?_) (nb rfl); refine jl_op (ow_call1 [1] rfl rfl (rskip_n ha h2) ?_) (nb rfl)
                  refine jl_op (ow_assign rfl ?_) (nb rfl); refine jl_nil ?_; refine jq_then ?_; refine jc_condF rfl rfl ?_; refine jc_seq ?_; refine jc_region ?_; refine jl_op (ow_move rfl ?_) (nb rfl)
                  refine jl_op (ow_call1 [0] rfl rfl (risNm_y ha h3) ?_) (nb rfl); refine jl_op (ow_assign rfl ?_) (nb rfl); refine jl_nil ?_; refine jq_then ?_; refine jc_condT rfl rfl ?_; refine jc_seq ?_; refine jc_region ?_
                  refine jl_op (ow_move rfl ?_) (nb rfl); refine jl_op (ow_call1 [0] rfl rfl (rname_y hl ha h3) ?_) (nb rfl); refine jl_op (ow_assign rfl ?_) (nb rfl); refine jl_nil ?_; refine jq_then ?_; refine jc_seq ?_
                  refine jc_seq ?_; refine jc_region ?_; refine jl_op (ow_move rfl ?_) (nb rfl); refine jl_op (ow_call1 [0] rfl rfl (rskip_y hl (by omega) h4) ?_) (nb rfl); refine jl_op (ow_not rfl ?_) (nb rfl); refine jl_nil ?_
                  refine jq_then ?_; refine jc_condF rfl rfl ?_; refine jc_skip ?_; refine jq_then ?_; refine jc_seq ?_; refine jc_region ?_; refine jl_op (ow_move rfl ?_) (nb rfl)
                  refine jl_op (ow_call1 [0] rfl rfl (con) ?_) (nb rfl); refine jl_op (ow_move rfl ?_) (nb rfl); refine jl_op (ow_extract rfl rfl ?_) (nb rfl); refine jl_op (ow_extract rfl rfl ?_) (nb rfl)
                  refine jl_op (ow_alloc rfl rfl (fun bl => ?_)) (nb rfl); refine jl_op0 (ow_storeAll 0 rfl rfl rfl rfl rfl rfl ?_); refine jl_op (ow_assign rfl ?_) (nb rfl); refine jl_nil ?_; refine jq_then ?_; refine jc_seq ?_
                  refine jc_region ?_; refine jl_op (ow_move rfl ?_) (nb rfl); refine jl_op (ow_call1 [1] rfl rfl (rneed_y hl (by omega) h5) ?_) (nb rfl); refine jl_nil ?_; refine jq_then ?_; refine jc_seq ?_; refine jc_region ?_
                  refine jl_op (ow_move rfl ?_) (nb rfl); refine jl_op (ow_move rfl ?_) (nb rfl); refine jl_op (ow_add64 rfl rfl (by omega) ?_) (nb rfl)
                  refine jl_op (ow_call1 [0] rfl rfl (rdeep_y _ (fun hh => hd ⟨hh.1, by omega⟩)) ?_) (nb rfl); refine jl_nil ?_; refine jq_then ?_; refine jc_seq ?_; refine jc_region ?_; refine jl_op (ow_move rfl ?_) (nb rfl)
                  refine jl_op (ow_loadAll 1 rfl rfl rfl rfl ?_) (nb rfl); refine jl_op (ow_buildSlice rfl rfl (nb rfl) rfl rfl (nb rfl) ?_) (nb rfl); refine jl_op (ow_build rfl rfl rfl rfl rfl ?_) (nb rfl)
                  refine jl_op (ow_move rfl ?_) (nb rfl); refine jl_op (ow_add64 rfl rfl (by omega) ?_) (nb rfl); refine jl_op0 (ow_storeAll 2 rfl rfl rfl rfl rfl rfl ?_); refine jl_op (ow_assign rfl ?_) (nb rfl); refine jl_nil ?_
                  refine jq_then ?_; refine jc_ret ?_; refine jq_block_ret ?_; refine jq_then_ret ?_; refine jq_row 0 (T.ix (txtAt l a) x).row' rfl ?_ ?_
                  · (repeat (first | exact RowLe.nil | refine RowLe.cons (CLe.refl _) ?_ | refine RowLe.cons CLe.nil ?_))
                    exact RowLe.cons (CLe.eq (show C.list [x.row'] = C.list [x.row] by rw [T.row_eq])) .nil
                  · refine jq_retRowT rfl rfl rfl rfl rfl 0 rfl (fun K h => by rw [e, LvPost, hd2] at h; exact h) ?_; refine sub_step 1 rfl ?_; exact sub_end
              | false =>
                have h5' : ¬ isA l c W93 = true := by rw [h5]; decide
                have e : sx fr l (F + 1) 3 a = .er 1 c := by rw [sx, if_pos (Nat.le_refl _), if_neg h1', if_neg h2', if_pos h3, if_pos h4, hr]; exact if_neg h5'
                refine jc_seq ?_; refine jc_region ?_; refine jl_op (ow_alloc rfl rfl (fun bl => ?_)) (nb rfl); refine jl_op (ow_assign rfl ?_) (nb rfl); refine jl_nil ?_; refine jq_then ?_; refine jc_seq ?_; refine jc_block ?_
                refine jc_seq ?_; refine jc_region ?_; refine jl_op (ow_move rfl ?_) (nb rfl); refine jl_op (ow_nilCheck rfl ?_) (nb rfl); refine jl_op (ow_fieldAddr rfl rfl rfl (nb rfl) ?_) (nb rfl)
                refine jl_op (ow_load 1 rfl rfl rfl rfl ?_) (nb rfl); refine jl_op (ow_neq rfl rfl ?_) (nb rfl); refine jl_op (ow_assign rfl ?_) (nb rfl); refine jl_nil ?_; refine jq_then ?_; refine jc_condF rfl rfl ?_
                refine jc_seq ?_; refine jc_any rfl rfl (by kernel_rfl) (by kernel_rfl) ?_; refine any_op (fun c => ow_move rfl ⟨rfl, List.Perm.refl _⟩) ?_; refine any_op (fun c => ow_nilCheck rfl ⟨rfl, List.Perm.refl _⟩) ?_
                refine any_op (fun c => ow_fieldAddr rfl rfl rfl (nb rfl) ⟨rfl, List.Perm.refl _⟩) ?_; refine any_op (fun c => ow_load 1 rfl rfl rfl rfl ⟨rfl, List.Perm.refl _⟩) ?_
                refine any_op (fun c => ow_move rfl ⟨rfl, List.Perm.refl _⟩) ?_; refine any_op (fun c => ow_nilCheck rfl ⟨rfl, List.Perm.refl _⟩) ?_
                refine any_op (fun c => ow_fieldAddr rfl rfl rfl (nb rfl) ⟨rfl, List.Perm.refl _⟩) ?_; refine any_op (fun c => ow_load 1 rfl rfl rfl rfl ⟨rfl, List.Perm.refl _⟩) ?_
                refine any_op (fun c => ow_len rfl (fun hlen => ⟨rfl, List.Perm.refl _⟩)) ?_; refine any_op (fun c => ow_lss rfl rfl ⟨rfl, List.Perm.refl _⟩) ?_; refine any_op (fun c => ow_move rfl ⟨rfl, List.Perm.refl _⟩) ?_
                refine any_guardY rfl (decide_eq_true (by omega)) (fun c => ow_move rfl ⟨rfl, List.Perm.refl _⟩) ?_; refine any_guardY rfl (decide_eq_true (by omega)) (fun c => ow_nilCheck rfl ⟨rfl, List.Perm.refl _⟩) ?_
                refine any_guardY rfl (decide_eq_true (by omega)) (fun c => ow_fieldAddr rfl rfl rfl (nb rfl) ⟨rfl, List.Perm.refl _⟩) ?_
                refine any_guardY rfl (decide_eq_true (by omega)) (fun c => ow_load 1 rfl rfl rfl rfl ⟨rfl, List.Perm.refl _⟩) ?_; refine any_guardY rfl (decide_eq_true (by omega)) (fun c => ow_move rfl ⟨rfl, List.Perm.refl _⟩) ?_
                refine any_guardY rfl (decide_eq_true (by omega)) (fun c => ow_nilCheck rfl ⟨rfl, List.Perm.refl _⟩) ?_
                refine any_guardY rfl (decide_eq_true (by omega)) (fun c => ow_fieldAddr rfl rfl rfl (nb rfl) ⟨rfl, List.Perm.refl _⟩) ?_
                refine any_guardY rfl (decide_eq_true (by omega)) (fun c => ow_load 1 rfl rfl rfl rfl ⟨rfl, List.Perm.refl _⟩) ?_
                refine any_guardY rfl (decide_eq_true (by omega)) (fun c => ow_indexAddrMapE rfl rfl (by omega) rfl rfl (nb rfl) ⟨rfl, List.Perm.refl _⟩) ?_
                refine any_guardY rfl (decide_eq_true (by omega)) (fun c => ow_fieldAddrPlace rfl rfl rfl (nb rfl) rfl (nb rfl) ⟨rfl, List.Perm.refl _⟩) ?_
                refine any_guardY rfl (decide_eq_true (by omega)) (fun c => ow_loadPlace rfl rfl ⟨rfl, List.Perm.refl _⟩) ?_; refine any_guardY rfl (decide_eq_true (by omega)) (fun c => ow_eql rfl rfl ⟨rfl, List.Perm.refl _⟩) ?_
                refine any_op (fun c => ow_pickT rfl (decide_eq_true (by omega)) rfl ⟨rfl, List.Perm.refl _⟩) ?_; refine any_op (fun c => ow_assign rfl ⟨rfl, List.Perm.refl _⟩) ?_; refine any_nil ?_; refine jq_then ?_
                refine jc_condF rfl (decide_eq_false (by assumption)) ?_; refine jc_seq ?_; refine jc_region ?_; refine jl_op (ow_move rfl ?_) (nb rfl); refine jl_op (ow_call1 [1] rfl rfl (rskip_n ha h2) ?_) (nb rfl)
                refine jl_op (ow_assign rfl ?_) (nb rfl); refine jl_nil ?_; refine jq_then ?_; refine jc_condF rfl rfl ?_; refine jc_seq ?_; refine jc_region ?_; refine jl_op (ow_move rfl ?_) (nb rfl)
                refine jl_op (ow_call1 [0] rfl rfl (risNm_y ha h3) ?_) (nb rfl); refine jl_op (ow_assign rfl ?_) (nb rfl); refine jl_nil ?_; refine jq_then ?_; refine jc_condT rfl rfl ?_; refine jc_seq ?_; refine jc_region ?_
                refine jl_op (ow_move rfl ?_) (nb rfl); refine jl_op (ow_call1 [0] rfl rfl (rname_y hl ha h3) ?_) (nb rfl); refine jl_op (ow_assign rfl ?_) (nb rfl); refine jl_nil ?_; refine jq_then ?_; refine jc_seq ?_
                refine jc_seq ?_; refine jc_region ?_; refine jl_op (ow_move rfl ?_) (nb rfl); refine jl_op (ow_call1 [0] rfl rfl (rskip_y hl (by omega) h4) ?_) (nb rfl); refine jl_op (ow_not rfl ?_) (nb rfl); refine jl_nil ?_
                refine jq_then ?_; refine jc_condF rfl rfl ?_; refine jc_skip ?_; refine jq_then ?_; refine jc_seq ?_; refine jc_region ?_; refine jl_op (ow_move rfl ?_) (nb rfl)
                refine jl_op (ow_call1 [0] rfl rfl (con) ?_) (nb rfl); refine jl_op (ow_move rfl ?_) (nb rfl); refine jl_op (ow_extract rfl rfl ?_) (nb rfl); refine jl_op (ow_extract rfl rfl ?_) (nb rfl)
                refine jl_op (ow_alloc rfl rfl (fun bl => ?_)) (nb rfl); refine jl_op0 (ow_storeAll 0 rfl rfl rfl rfl rfl rfl ?_); refine jl_op (ow_assign rfl ?_) (nb rfl); refine jl_nil ?_; refine jq_then ?_; refine jc_seq ?_
                refine jc_region ?_; refine jl_op (ow_move rfl ?_) (nb rfl); refine jl_op (ow_call1 [1] rfl rfl (rneed_n hl (by omega) h5) ?_) (nb rfl); refine jl_nil ?_; refine jq_then ?_; refine jc_seq ?_; refine jc_region ?_
                refine jl_op (ow_move rfl ?_) (nb rfl); refine jl_op (ow_move rfl ?_) (nb rfl); refine jl_op (ow_add64 rfl rfl (by omega) ?_) (nb rfl)
                refine jl_op (ow_call1 [0] rfl rfl (rdeep_e (by decide) (by omega) _) ?_) (nb rfl); refine jl_nil ?_; refine jq_then ?_; refine jc_seq ?_; refine jc_region ?_; refine jl_op (ow_move rfl ?_) (nb rfl)
                refine jl_op (ow_loadAll 1 rfl rfl rfl rfl ?_) (nb rfl); refine jl_op (ow_buildSlice rfl rfl (nb rfl) rfl rfl (nb rfl) ?_) (nb rfl); refine jl_op (ow_build rfl rfl rfl rfl rfl ?_) (nb rfl)
                refine jl_op (ow_move rfl ?_) (nb rfl); refine jl_op (ow_add64 rfl rfl (by omega) ?_) (nb rfl); refine jl_op0 (ow_storeAll 2 rfl rfl rfl rfl rfl rfl ?_); refine jl_op (ow_assign rfl ?_) (nb rfl); refine jl_nil ?_
                refine jq_then ?_; refine jc_ret ?_; refine jq_block_ret ?_; refine jq_then_ret ?_; refine jq_row 0 A5 rfl ?_ ?_
                · (repeat (first | exact RowLe.nil | refine RowLe.cons (CLe.any _) ?_))
                · refine jq_retRowT rfl rfl rfl rfl rfl 0 rfl (fun K h => by rw [e] at h; exact h (c, _) ⟨by omega, by decide⟩) ?_; refine sub_step 1 rfl ?_; exact sub_end
          | false =>
            have h4' : ¬ isA l (a + 1) W91 = true := by rw [h4]; decide
            have e : sx fr l (F + 1) 3 a = .ok (.nm (txtAt l a)) (a + 1) := by rw [sx, if_pos (Nat.le_refl _), if_neg h1', if_neg h2', if_pos h3, if_neg h4']
            refine jc_seq ?_; refine jc_region ?_; refine jl_op (ow_alloc rfl rfl (fun bl => ?_)) (nb rfl); refine jl_op (ow_assign rfl ?_) (nb rfl); refine jl_nil ?_; refine jq_then ?_; refine jc_seq ?_; refine jc_block ?_
            refine jc_seq ?_; refine jc_region ?_; refine jl_op (ow_move rfl ?_) (nb rfl); refine jl_op (ow_nilCheck rfl ?_) (nb rfl); refine jl_op (ow_fieldAddr rfl rfl rfl (nb rfl) ?_) (nb rfl)
            refine jl_op (ow_load 1 rfl rfl rfl rfl ?_) (nb rfl); refine jl_op (ow_neq rfl rfl ?_) (nb rfl); refine jl_op (ow_assign rfl ?_) (nb rfl); refine jl_nil ?_; refine jq_then ?_; refine jc_condF rfl rfl ?_
            refine jc_seq ?_; refine jc_any rfl rfl (by kernel_rfl) (by kernel_rfl) ?_; refine any_op (fun c => ow_move rfl ⟨rfl, List.Perm.refl _⟩) ?_; refine any_op (fun c => ow_nilCheck rfl ⟨rfl, List.Perm.refl _⟩) ?_
            refine any_op (fun c => ow_fieldAddr rfl rfl rfl (nb rfl) ⟨rfl, List.Perm.refl _⟩) ?_; refine any_op (fun c => ow_load 1 rfl rfl rfl rfl ⟨rfl, List.Perm.refl _⟩) ?_
            refine any_op (fun c => ow_move rfl ⟨rfl, List.Perm.refl _⟩) ?_; refine any_op (fun c => ow_nilCheck rfl ⟨rfl, List.Perm.refl _⟩) ?_
            refine any_op (fun c => ow_fieldAddr rfl rfl rfl (nb rfl) ⟨rfl, List.Perm.refl _⟩) ?_; refine any_op (fun c => ow_load 1 rfl rfl rfl rfl ⟨rfl, List.Perm.refl _⟩) ?_
            refine any_op (fun c => ow_len rfl (fun hlen => ⟨rfl, List.Perm.refl _⟩)) ?_; refine any_op (fun c => ow_lss rfl rfl ⟨rfl, List.Perm.refl _⟩) ?_; refine any_op (fun c => ow_move rfl ⟨rfl, List.Perm.refl _⟩) ?_
            refine any_guardY rfl (decide_eq_true (by omega)) (fun c => ow_move rfl ⟨rfl, List.Perm.refl _⟩) ?_; refine any_guardY rfl (decide_eq_true (by omega)) (fun c => ow_nilCheck rfl ⟨rfl, List.Perm.refl _⟩) ?_
            refine any_guardY rfl (decide_eq_true (by omega)) (fun c => ow_fieldAddr rfl rfl rfl (nb rfl) ⟨rfl, List.Perm.refl _⟩) ?_
            refine any_guardY rfl (decide_eq_true (by omega)) (fun c => ow_load 1 rfl rfl rfl rfl ⟨rfl, List.Perm.refl _⟩) ?_; refine any_guardY rfl (decide_eq_true (by omega)) (fun c => ow_move rfl ⟨rfl, List.Perm.refl _⟩) ?_
            refine any_guardY rfl (decide_eq_true (by omega)) (fun c => ow_nilCheck rfl ⟨rfl, List.Perm.refl _⟩) ?_
            refine any_guardY rfl (decide_eq_true (by omega)) (fun c => ow_fieldAddr rfl rfl rfl (nb rfl) ⟨rfl, List.Perm.refl _⟩) ?_
            refine any_guardY rfl (decide_eq_true (by omega)) (fun c => ow_load 1 rfl rfl rfl rfl ⟨rfl, List.Perm.refl _⟩) ?_
            refine any_guardY rfl (decide_eq_true (by omega)) (fun c => ow_indexAddrMapE rfl rfl (by omega) rfl rfl (nb rfl) ⟨rfl, List.Perm.refl _⟩) ?_
            refine any_guardY rfl (decide_eq_true (by omega)) (fun c => ow_fieldAddrPlace rfl rfl rfl (nb rfl) rfl (nb rfl) ⟨rfl, List.Perm.refl _⟩) ?_
            refine any_guardY rfl (decide_eq_true (by omega)) (fun c => ow_loadPlace rfl rfl ⟨rfl, List.Perm.refl _⟩) ?_; refine any_guardY rfl (decide_eq_true (by omega)) (fun c => ow_eql rfl rfl ⟨rfl, List.Perm.refl _⟩) ?_
            refine any_op (fun c => ow_pickT rfl (decide_eq_true (by omega)) rfl ⟨rfl, List.Perm.refl _⟩) ?_; refine any_op (fun c => ow_assign rfl ⟨rfl, List.Perm.refl _⟩) ?_; refine any_nil ?_; refine jq_then ?_
            refine jc_condF rfl (decide_eq_false (by assumption)) ?_; refine jc_seq ?_; refine jc_region ?_; refine jl_op (ow_move rfl ?_) (nb rfl); refine jl_op (ow_call1 [1] rfl rfl (rskip_n ha h2) ?_) (nb rfl)
            refine jl_op (ow_assign rfl ?_) (nb rfl); refine jl_nil ?_; refine jq_then ?_; refine jc_condF rfl rfl ?_; refine jc_seq ?_; refine jc_region ?_; refine jl_op (ow_move rfl ?_) (nb rfl)
            refine jl_op (ow_call1 [0] rfl rfl (risNm_y ha h3) ?_) (nb rfl); refine jl_op (ow_assign rfl ?_) (nb rfl); refine jl_nil ?_; refine jq_then ?_; refine jc_condT rfl rfl ?_; refine jc_seq ?_; refine jc_region ?_
            refine jl_op (ow_move rfl ?_) (nb rfl); refine jl_op (ow_call1 [0] rfl rfl (rname_y hl ha h3) ?_) (nb rfl); refine jl_op (ow_assign rfl ?_) (nb rfl); refine jl_nil ?_; refine jq_then ?_; refine jc_seq ?_
            refine jc_seq ?_; refine jc_region ?_; refine jl_op (ow_move rfl ?_) (nb rfl); refine jl_op (ow_call1 [0] rfl rfl (rskip_n (by omega) h4) ?_) (nb rfl); refine jl_op (ow_not rfl ?_) (nb rfl); refine jl_nil ?_
            refine jq_then ?_; refine jc_condT rfl rfl ?_; refine jc_seq ?_; refine jc_region ?_; refine jl_op (ow_move rfl ?_) (nb rfl); refine jl_op (ow_build rfl rfl rfl rfl rfl ?_) (nb rfl)
            refine jl_op0 (ow_storeAll 1 rfl rfl rfl rfl rfl rfl ?_); refine jl_op (ow_assign rfl ?_) (nb rfl); refine jl_nil ?_; refine jq_then ?_; refine jc_ret ?_; refine jq_then_ret ?_; refine jq_block_ret ?_
            refine jq_then_ret ?_; refine jq_row 0 (T.nm (txtAt l a)).row' rfl ?_ ?_
            · (repeat (first | exact RowLe.nil | refine RowLe.cons (CLe.refl _) ?_ | refine RowLe.cons CLe.nil ?_))
            · refine jq_retRowT rfl rfl rfl rfl rfl 0 rfl (fun K h => by rw [e] at h; exact h) ?_; refine sub_step 1 rfl ?_; exact sub_end
        | false =>
          have h3' : ¬ isNm l a = true := by rw [h3]; decide
          cases h4 : isA l a W40 with
          | true =>
            have con := hX b (a + 1) (by omega) (by unfold need; omega)
            cases hr : sx fr l F 0 (a + 1) with
            | er code p =>
              have e : sx fr l (F + 1) 3 a = .er code p := by rw [sx, if_pos (Nat.le_refl _), if_neg h1', if_neg h2', if_neg h3', if_pos h4, hr]
              rw [hr] at con
              refine jc_seq ?_; refine jc_region ?_; refine jl_op (ow_alloc rfl rfl (fun bl => ?_)) (nb rfl); refine jl_op (ow_assign rfl ?_) (nb rfl); refine jl_nil ?_; refine jq_then ?_; refine jc_seq ?_; refine jc_block ?_
              refine jc_seq ?_; refine jc_region ?_; refine jl_op (ow_move rfl ?_) (nb rfl); refine jl_op (ow_nilCheck rfl ?_) (nb rfl); refine jl_op (ow_fieldAddr rfl rfl rfl (nb rfl) ?_) (nb rfl)
              refine jl_op (ow_load 1 rfl rfl rfl rfl ?_) (nb rfl); refine jl_op (ow_neq rfl rfl ?_) (nb rfl); refine jl_op (ow_assign rfl ?_) (nb rfl); refine jl_nil ?_; refine jq_then ?_; refine jc_condF rfl rfl ?_
              refine jc_seq ?_; refine jc_any rfl rfl (by kernel_rfl) (by kernel_rfl) ?_; refine any_op (fun c => ow_move rfl ⟨rfl, List.Perm.refl _⟩) ?_; refine any_op (fun c => ow_nilCheck rfl ⟨rfl, List.Perm.refl _⟩) ?_
              refine any_op (fun c => ow_fieldAddr rfl rfl rfl (nb rfl) ⟨rfl, List.Perm.refl _⟩) ?_; refine any_op (fun c => ow_load 1 rfl rfl rfl rfl ⟨rfl, List.Perm.refl _⟩) ?_
              refine any_op (fun c => ow_move rfl ⟨rfl, List.Perm.refl _⟩) ?_; refine any_op (fun c => ow_nilCheck rfl ⟨rfl, List.Perm.refl _⟩) ?_
              refine any_op (fun c => ow_fieldAddr rfl rfl rfl (nb rfl) ⟨rfl, List.Perm.refl _⟩) ?_; refine any_op (fun c => ow_load 1 rfl rfl rfl rfl ⟨rfl, List.Perm.refl _⟩) ?_
              refine any_op (fun c => ow_len rfl (fun hlen => ⟨rfl, List.Perm.refl _⟩)) ?_; refine any_op (fun c => ow_lss rfl rfl ⟨rfl, List.Perm.refl _⟩) ?_; refine any_op (fun c => ow_move rfl ⟨rfl, List.Perm.refl _⟩) ?_
              refine any_guardY rfl (decide_eq_true (by omega)) (fun c => ow_move rfl ⟨rfl, List.Perm.refl _⟩) ?_; refine any_guardY rfl (decide_eq_true (by omega)) (fun c => ow_nilCheck rfl ⟨rfl, List.Perm.refl _⟩) ?_
              refine any_guardY rfl (decide_eq_true (by omega)) (fun c => ow_fieldAddr rfl rfl rfl (nb rfl) ⟨rfl, List.Perm.refl _⟩) ?_
              refine any_guardY rfl (decide_eq_true (by omega)) (fun c => ow_load 1 rfl rfl rfl rfl ⟨rfl, List.Perm.refl _⟩) ?_; refine any_guardY rfl (decide_eq_true (by omega)) (fun c => ow_move rfl ⟨rfl, List.Perm.refl _⟩) ?_
              refine any_guardY rfl (decide_eq_true (by omega)) (fun c => ow_nilCheck rfl ⟨rfl, List.Perm.refl _⟩) ?_
              refine any_guardY rfl (decide_eq_true (by omega)) (fun c => ow_fieldAddr rfl rfl rfl (nb rfl) ⟨rfl, List.Perm.refl _⟩) ?_
              refine any_guardY rfl (decide_eq_true (by omega)) (fun c => ow_load 1 rfl rfl rfl rfl ⟨rfl, List.Perm.refl _⟩) ?_
              refine any_guardY rfl (decide_eq_true (by omega)) (fun c => ow_indexAddrMapE rfl rfl (by omega) rfl rfl (nb rfl) ⟨rfl, List.Perm.refl _⟩) ?_
              refine any_guardY rfl (decide_eq_true (by omega)) (fun c => ow_fieldAddrPlace rfl rfl rfl (nb rfl) rfl (nb rfl) ⟨rfl, List.Perm.refl _⟩) ?_
              refine any_guardY rfl (decide_eq_true (by omega)) (fun c => ow_loadPlace rfl rfl ⟨rfl, List.Perm.refl _⟩) ?_; refine any_guardY rfl (decide_eq_true (by omega)) (fun c => ow_eql rfl rfl ⟨rfl, List.Perm.refl _⟩) ?_
              refine any_op (fun c => ow_pickT rfl (decide_eq_true (by omega)) rfl ⟨rfl, List.Perm.refl _⟩) ?_; refine any_op (fun c => ow_assign rfl ⟨rfl, List.Perm.refl _⟩) ?_; refine any_nil ?_; refine jq_then ?_
              refine jc_condF rfl (decide_eq_false (by assumption)) ?_; refine jc_seq ?_; refine jc_region ?_; refine jl_op (ow_move rfl ?_) (nb rfl); refine jl_op (ow_call1 [1] rfl rfl (rskip_n ha h2) ?_) (nb rfl)
              refine jl_op (ow_assign rfl ?_) (nb rfl); refine jl_nil ?_; refine jq_then ?_; refine jc_condF rfl rfl ?_; refine jc_seq ?_; refine jc_region ?_; refine jl_op (ow_move rfl ?_) (nb rfl)
              refine jl_op (ow_call1 [0] rfl rfl (risNm_n ha h3) ?_) (nb rfl); refine jl_op (ow_assign rfl ?_) (nb rfl); refine jl_nil ?_; refine jq_then ?_; refine jc_condF rfl rfl ?_; refine jc_skip ?_; refine jq_block ?_
              refine jq_then ?_; refine jc_seq ?_; refine jc_region ?_; refine jl_op (ow_move rfl ?_) (nb rfl); refine jl_op (ow_call1 [0] rfl rfl (rneed_y hl ha h4) ?_) (nb rfl); refine jl_nil ?_; refine jq_then ?_
              refine jc_seq ?_; refine jc_region ?_; refine jl_op (ow_move rfl ?_) (nb rfl); refine jl_op (ow_callP [0] rfl rfl (con) (fun pp hpp => ?_)) (nb rfl); refine jl_op (ow_move rfl ?_) (nb rfl)
              refine jl_op (ow_extract rfl rfl ?_) (nb rfl); refine jl_op (ow_extract rfl rfl ?_) (nb rfl); refine jl_op (ow_alloc rfl rfl (fun bl => ?_)) (nb rfl); refine jl_op0 (ow_storeAll 0 rfl rfl rfl rfl rfl rfl ?_)
              refine jl_op (ow_assign rfl ?_) (nb rfl); refine jl_nil ?_; refine jq_then ?_; refine jc_seq ?_; refine jc_region ?_; refine jl_op (ow_move rfl ?_) (nb rfl)
              refine jl_op (ow_call1 [1] rfl rfl (rneed_e hpp.2 _) ?_) (nb rfl); refine jl_nil ?_; refine jq_then ?_; refine jc_seq ?_; refine jc_region ?_; refine jl_op (ow_loadAll 1 rfl rfl rfl rfl ?_) (nb rfl)
              refine jl_op (ow_move rfl ?_) (nb rfl); refine jl_op0 (ow_storeAll 2 rfl rfl rfl rfl rfl rfl ?_); refine jl_op (ow_assign rfl ?_) (nb rfl); refine jl_nil ?_; refine jq_then ?_; refine jc_ret ?_
              refine jq_row 0 A5 rfl ?_ ?_
              · (repeat (first | exact RowLe.nil | refine RowLe.cons (CLe.any _) ?_))
              · refine jq_retRowT rfl rfl rfl rfl rfl 0 rfl (fun K h => by rw [e] at h; exact h (pp.1, _) ⟨by omega, hpp.2⟩) ?_; refine sub_step 1 rfl ?_; exact sub_end
            | ok x c =>
              have hbd := sx_bd _ _ _ _ _ hr
              rw [hr] at con
              cases h5 : isA l c W41 with
              | true =>
                have e : sx fr l (F + 1) 3 a = .ok x (c + 1) := by rw [sx, if_pos (Nat.le_refl _), if_neg h1', if_neg h2', if_neg h3', if_pos h4, hr]; exact if_pos h5
                refine jc_seq ?_; refine jc_region ?_; refine jl_op (ow_alloc rfl rfl (fun bl => ?_)) (nb rfl); refine jl_op (ow_assign rfl ?_) (nb rfl); refine jl_nil ?_; refine jq_then ?_; refine jc_seq ?_; refine jc_block ?_
                refine jc_seq ?_; refine jc_region ?_; refine jl_op (ow_move rfl ?_) (nb rfl); refine jl_op (ow_nilCheck rfl ?_) (nb rfl); refine jl_op (ow_fieldAddr rfl rfl rfl (nb rfl) ?_) (nb rfl)
                refine jl_op (ow_load 1 rfl rfl rfl rfl ?_) (nb rfl); refine jl_op (ow_neq rfl rfl ?_) (nb rfl); refine jl_op (ow_assign rfl ?_) (nb rfl); refine jl_nil ?_; refine jq_then ?_; refine jc_condF rfl rfl ?_
                refine jc_seq ?_; refine jc_any rfl rfl (by kernel_rfl) (by kernel_rfl) ?_; refine any_op (fun c => ow_move rfl ⟨rfl, List.Perm.refl _⟩) ?_; refine any_op (fun c => ow_nilCheck rfl ⟨rfl, List.Perm.refl _⟩) ?_
                refine any_op (fun c => ow_fieldAddr rfl rfl rfl (nb rfl) ⟨rfl, List.Perm.refl _⟩) ?_; refine any_op (fun c => ow_load 1 rfl rfl rfl rfl ⟨rfl, List.Perm.refl _⟩) ?_
                refine any_op (fun c => ow_move rfl ⟨rfl, List.Perm.refl _⟩) ?_; refine any_op (fun c => ow_nilCheck rfl ⟨rfl, List.Perm.refl _⟩) ?_
                refine any_op (fun c => ow_fieldAddr rfl rfl rfl (nb rfl) ⟨rfl, List.Perm.refl _⟩) ?_; refine any_op (fun c => ow_load 1 rfl rfl rfl rfl ⟨rfl, List.Perm.refl _⟩) ?_
                refine any_op (fun c => ow_len rfl (fun hlen => ⟨rfl, List.Perm.refl _⟩)) ?_; refine any_op (fun c => ow_lss rfl rfl ⟨rfl, List.Perm.refl _⟩) ?_; refine any_op (fun c => ow_move rfl ⟨rfl, List.Perm.refl _⟩) ?_
                refine any_guardY rfl (decide_eq_true (by omega)) (fun c => ow_move rfl ⟨rfl, List.Perm.refl _⟩) ?_; refine any_guardY rfl (decide_eq_true (by omega)) (fun c => ow_nilCheck rfl ⟨rfl, List.Perm.refl _⟩) ?_
                refine any_guardY rfl (decide_eq_true (by omega)) (fun c => ow_fieldAddr rfl rfl rfl (nb rfl) ⟨rfl, List.Perm.refl _⟩) ?_
                refine any_guardY rfl (decide_eq_true (by omega)) (fun c => ow_load 1 rfl rfl rfl rfl ⟨rfl, List.Perm.refl _⟩) ?_; refine any_guardY rfl (decide_eq_true (by omega)) (fun c => ow_move rfl ⟨rfl, List.Perm.refl _⟩) ?_
                refine any_guardY rfl (decide_eq_true (by omega)) (fun c => ow_nilCheck rfl ⟨rfl, List.Perm.refl _⟩) ?_
                refine any_guardY rfl (decide_eq_true (by omega)) (fun c => ow_fieldAddr rfl rfl rfl (nb rfl) ⟨rfl, List.Perm.refl _⟩) ?_
                refine any_guardY rfl (decide_eq_true (by omega)) (fun c => ow_load 1 rfl rfl rfl rfl ⟨rfl, List.Perm.refl _⟩) ?_
                refine any_guardY rfl (decide_eq_true (by omega)) (fun c => ow_indexAddrMapE rfl rfl (by omega) rfl rfl (nb rfl) ⟨rfl, List.Perm.refl _⟩) ?_
                refine any_guardY rfl (decide_eq_true (by omega)) (fun c => ow_fieldAddrPlace rfl rfl rfl (nb rfl) rfl (nb rfl) ⟨rfl, List.Perm.refl _⟩) ?_
                refine any_guardY rfl (decide_eq_true (by omega)) (fun c => ow_loadPlace rfl rfl ⟨rfl, List.Perm.refl _⟩) ?_; refine any_guardY rfl (decide_eq_true (by omega)) (fun c => ow_eql rfl rfl ⟨rfl, List.Perm.refl _⟩) ?_
                refine any_op (fun c => ow_pickT rfl (decide_eq_true (by omega)) rfl ⟨rfl, List.Perm.refl _⟩) ?_; refine any_op (fun c => ow_assign rfl ⟨rfl, List.Perm.refl _⟩) ?_; refine any_nil ?_; refine jq_then ?_
                refine jc_condF rfl (decide_eq_false (by assumption)) ?_; refine jc_seq ?_; refine jc_region ?_; refine jl_op (ow_move rfl ?_) (nb rfl); refine jl_op (ow_call1 [1] rfl rfl (rskip_n ha h2) ?_) (nb rfl)
                refine jl_op (ow_assign rfl ?_) (nb rfl); refine jl_nil ?_; refine jq_then ?_; refine jc_condF rfl rfl ?_; refine jc_seq ?_; refine jc_region ?_; refine jl_op (ow_move rfl ?_) (nb rfl)
                refine jl_op (ow_call1 [0] rfl rfl (risNm_n ha h3) ?_) (nb rfl); refine jl_op (ow_assign rfl ?_) (nb rfl); refine jl_nil ?_; refine jq_then ?_; refine jc_condF rfl rfl ?_; refine jc_skip ?_; refine jq_block ?_
                refine jq_then ?_; refine jc_seq ?_; refine jc_region ?_; refine jl_op (ow_move rfl ?_) (nb rfl); refine jl_op (ow_call1 [0] rfl rfl (rneed_y hl ha h4) ?_) (nb rfl); refine jl_nil ?_; refine jq_then ?_
                refine jc_seq ?_; refine jc_region ?_; refine jl_op (ow_move rfl ?_) (nb rfl); refine jl_op (ow_call1 [0] rfl rfl (con) ?_) (nb rfl); refine jl_op (ow_move rfl ?_) (nb rfl)
                refine jl_op (ow_extract rfl rfl ?_) (nb rfl); refine jl_op (ow_extract rfl rfl ?_) (nb rfl); refine jl_op (ow_alloc rfl rfl (fun bl => ?_)) (nb rfl); refine jl_op0 (ow_storeAll 0 rfl rfl rfl rfl rfl rfl ?_)
                refine jl_op (ow_assign rfl ?_) (nb rfl); refine jl_nil ?_; refine jq_then ?_; refine jc_seq ?_; refine jc_region ?_; refine jl_op (ow_move rfl ?_) (nb rfl)
                refine jl_op (ow_call1 [1] rfl rfl (rneed_y hl (by omega) h5) ?_) (nb rfl); refine jl_nil ?_; refine jq_then ?_; refine jc_seq ?_; refine jc_region ?_; refine jl_op (ow_loadAll 1 rfl rfl rfl rfl ?_) (nb rfl)
                refine jl_op (ow_move rfl ?_) (nb rfl); refine jl_op0 (ow_storeAll 2 rfl rfl rfl rfl rfl rfl ?_); refine jl_op (ow_assign rfl ?_) (nb rfl); refine jl_nil ?_; refine jq_then ?_; refine jc_ret ?_
                refine jq_retRowT rfl rfl rfl rfl rfl 0 rfl (fun K h => by rw [e] at h; exact h) ?_; refine sub_step 1 rfl ?_; exact sub_end
              | false =>
                have h5' : ¬ isA l c W41 = true := by rw [h5]; decide
                have e : sx fr l (F + 1) 3 a = .er 1 c := by rw [sx, if_pos (Nat.le_refl _), if_neg h1', if_neg h2', if_neg h3', if_pos h4, hr]; exact if_neg h5'
                refine jc_seq ?_; refine jc_region ?_; refine jl_op (ow_alloc rfl rfl (fun bl => ?_)) (nb rfl); refine jl_op (ow_assign rfl ?_) (nb rfl); refine jl_nil ?_; refine jq_then ?_; refine jc_seq ?_; refine jc_block ?_
                refine jc_seq ?_; refine jc_region ?_; refine jl_op (ow_move rfl ?_) (nb rfl); refine jl_op (ow_nilCheck rfl ?_) (nb rfl); refine jl_op (ow_fieldAddr rfl rfl rfl (nb rfl) ?_) (nb rfl)
                refine jl_op (ow_load 1 rfl rfl rfl rfl ?_) (nb rfl); refine jl_op (ow_neq rfl rfl ?_) (nb rfl); refine jl_op (ow_assign rfl ?_) (nb rfl); refine jl_nil ?_; refine jq_then ?_; refine jc_condF rfl rfl ?_
                refine jc_seq ?_; refine jc_any rfl rfl (by kernel_rfl) (by kernel_rfl) ?_; refine any_op (fun c => ow_move rfl ⟨rfl, List.Perm.refl _⟩) ?_; refine any_op (fun c => ow_nilCheck rfl ⟨rfl, List.Perm.refl _⟩) ?_
                refine any_op (fun c => ow_fieldAddr rfl rfl rfl (nb rfl) ⟨rfl, List.Perm.refl _⟩) ?_; refine any_op (fun c => ow_load 1 rfl rfl rfl rfl ⟨rfl, List.Perm.refl _⟩) ?_
                refine any_op (fun c => ow_move rfl ⟨rfl, List.Perm.refl _⟩) ?_; refine any_op (fun c => ow_nilCheck rfl ⟨rfl, List.Perm.refl _⟩) ?_
                refine any_op (fun c => ow_fieldAddr rfl rfl rfl (nb rfl) ⟨rfl, List.Perm.refl _⟩) ?_; refine any_op (fun c => ow_load 1 rfl rfl rfl rfl ⟨rfl, List.Perm.refl _⟩) ?_
                refine any_op (fun c => ow_len rfl (fun hlen => ⟨rfl, List.Perm.refl _⟩)) ?_; refine any_op (fun c => ow_lss rfl rfl ⟨rfl, List.Perm.refl _⟩) ?_; refine any_op (fun c => ow_move rfl ⟨rfl, List.Perm.refl _⟩) ?_
                refine any_guardY rfl (decide_eq_true (by omega)) (fun c => ow_move rfl ⟨rfl, List.Perm.refl _⟩) ?_; refine any_guardY rfl (decide_eq_true (by omega)) (fun c => ow_nilCheck rfl ⟨rfl, List.Perm.refl _⟩) ?_
                refine any_guardY rfl (decide_eq_true (by omega)) (fun c => ow_fieldAddr rfl rfl rfl (nb rfl) ⟨rfl, List.Perm.refl _⟩) ?_
                refine any_guardY rfl (decide_eq_true (by omega)) (fun c => ow_load 1 rfl rfl rfl rfl ⟨rfl, List.Perm.refl _⟩) ?_; refine any_guardY rfl (decide_eq_true (by omega)) (fun c => ow_move rfl ⟨rfl, List.Perm.refl _⟩) ?_
                refine any_guardY rfl (decide_eq_true (by omega)) (fun c => ow_nilCheck rfl ⟨rfl, List.Perm.refl _⟩) ?_
                refine any_guardY rfl (decide_eq_true (by omega)) (fun c => ow_fieldAddr rfl rfl rfl (nb rfl) ⟨rfl, List.Perm.refl _⟩) ?_
                refine any_guardY rfl (decide_eq_true (by omega)) (fun c => ow_load 1 rfl rfl rfl rfl ⟨rfl, List.Perm.refl _⟩) ?_
                refine any_guardY rfl (decide_eq_true (by omega)) (fun c => ow_indexAddrMapE rfl rfl (by omega) rfl rfl (nb rfl) ⟨rfl, List.Perm.refl _⟩) ?_
                refine any_guardY rfl (decide_eq_true (by omega)) (fun c => ow_fieldAddrPlace rfl rfl rfl (nb rfl) rfl (nb rfl) ⟨rfl, List.Perm.refl _⟩) ?_
                refine any_guardY rfl (decide_eq_true (by omega)) (fun c => ow_loadPlace rfl rfl ⟨rfl, List.Perm.refl _⟩) ?_; refine any_guardY rfl (decide_eq_true (by omega)) (fun c => ow_eql rfl rfl ⟨rfl, List.Perm.refl _⟩) ?_
                refine any_op (fun c => ow_pickT rfl (decide_eq_true (by omega)) rfl ⟨rfl, List.Perm.refl _⟩) ?_; refine any_op (fun c => ow_assign rfl ⟨rfl, List.Perm.refl _⟩) ?_; refine any_nil ?_; refine jq_then ?_
                refine jc_condF rfl (decide_eq_false (by assumption)) ?_; refine jc_seq ?_; refine jc_region ?_; refine jl_op (ow_move rfl ?_) (nb rfl); refine jl_op (ow_call1 [1] rfl rfl (rskip_n ha h2) ?_) (nb rfl)
                refine jl_op (ow_assign rfl ?_) (nb rfl); refine jl_nil ?_; refine jq_then ?_; refine jc_condF rfl rfl ?_; refine jc_seq ?_; refine jc_region ?_; refine jl_op (ow_move rfl ?_) (nb rfl)
                refine jl_op (ow_call1 [0] rfl rfl (risNm_n ha h3) ?_) (nb rfl); refine jl_op (ow_assign rfl ?_) (nb rfl); refine jl_nil ?_; refine jq_then ?_; refine jc_condF rfl rfl ?_; refine jc_skip ?_; refine jq_block ?_
                refine jq_then ?_; refine jc_seq ?_; refine jc_region ?_; refine jl_op (ow_move rfl ?_) (nb rfl); refine jl_op (ow_call1 [0] rfl rfl (rneed_y hl ha h4) ?_) (nb rfl); refine jl_nil ?_; refine jq_then ?_
                refine jc_seq ?_; refine jc_region ?_; refine jl_op (ow_move rfl ?_) (nb rfl); refine jl_op (ow_call1 [0] rfl rfl (con) ?_) (nb rfl); refine jl_op (ow_move rfl ?_) (nb rfl)
                refine jl_op (ow_extract rfl rfl ?_) (nb rfl); refine jl_op (ow_extract rfl rfl ?_) (nb rfl); refine jl_op (ow_alloc rfl rfl (fun bl => ?_)) (nb rfl); refine jl_op0 (ow_storeAll 0 rfl rfl rfl rfl rfl rfl ?_)
                refine jl_op (ow_assign rfl ?_) (nb rfl); refine jl_nil ?_; refine jq_then ?_; refine jc_seq ?_; refine jc_region ?_; refine jl_op (ow_move rfl ?_) (nb rfl)
                refine jl_op (ow_call1 [1] rfl rfl (rneed_n hl (by omega) h5) ?_) (nb rfl); refine jl_nil ?_; refine jq_then ?_; refine jc_seq ?_; refine jc_region ?_; refine jl_op (ow_loadAll 1 rfl rfl rfl rfl ?_) (nb rfl)
                refine jl_op (ow_move rfl ?_) (nb rfl); refine jl_op0 (ow_storeAll 2 rfl rfl rfl rfl rfl rfl ?_); refine jl_op (ow_assign rfl ?_) (nb rfl); refine jl_nil ?_; refine jq_then ?_; refine jc_ret ?_
                refine jq_row 0 A5 rfl ?_ ?_
                · (repeat (first | exact RowLe.nil | refine RowLe.cons (CLe.any _) ?_))
                · refine jq_retRowT rfl rfl rfl rfl rfl 0 rfl (fun K h => by rw [e] at h; exact h (c, _) ⟨by omega, by decide⟩) ?_; refine sub_step 1 rfl ?_; exact sub_end
          | false =>
            have h4' : ¬ isA l a W40 = true := by rw [h4]; decide
            have e : sx fr l (F + 1) 3 a = .er 1 a := by rw [sx, if_pos (Nat.le_refl _), if_neg h1', if_neg h2', if_neg h3', if_neg h4']
            refine jc_seq ?_; refine jc_region ?_; refine jl_op (ow_alloc rfl rfl (fun bl => ?_)) (nb rfl); refine jl_op (ow_assign rfl ?_) (nb rfl); refine jl_nil ?_; refine jq_then ?_; refine jc_seq ?_; refine jc_block ?_
            refine jc_seq ?_; refine jc_region ?_; refine jl_op (ow_move rfl ?_) (nb rfl); refine jl_op (ow_nilCheck rfl ?_) (nb rfl); refine jl_op (ow_fieldAddr rfl rfl rfl (nb rfl) ?_) (nb rfl)
            refine jl_op (ow_load 1 rfl rfl rfl rfl ?_) (nb rfl); refine jl_op (ow_neq rfl rfl ?_) (nb rfl); refine jl_op (ow_assign rfl ?_) (nb rfl); refine jl_nil ?_; refine jq_then ?_; refine jc_condF rfl rfl ?_
            refine jc_seq ?_; refine jc_any rfl rfl (by kernel_rfl) (by kernel_rfl) ?_; refine any_op (fun c => ow_move rfl ⟨rfl, List.Perm.refl _⟩) ?_; refine any_op (fun c => ow_nilCheck rfl ⟨rfl, List.Perm.refl _⟩) ?_
            refine any_op (fun c => ow_fieldAddr rfl rfl rfl (nb rfl) ⟨rfl, List.Perm.refl _⟩) ?_; refine any_op (fun c => ow_load 1 rfl rfl rfl rfl ⟨rfl, List.Perm.refl _⟩) ?_
            refine any_op (fun c => ow_move rfl ⟨rfl, List.Perm.refl _⟩) ?_; refine any_op (fun c => ow_nilCheck rfl ⟨rfl, List.Perm.refl _⟩) ?_
            refine any_op (fun c => ow_fieldAddr rfl rfl rfl (nb rfl) ⟨rfl, List.Perm.refl _⟩) ?_; refine any_op (fun c => ow_load 1 rfl rfl rfl rfl ⟨rfl, List.Perm.refl _⟩) ?_
            refine any_op (fun c => ow_len rfl (fun hlen => ⟨rfl, List.Perm.refl _⟩)) ?_; refine any_op (fun c => ow_lss rfl rfl ⟨rfl, List.Perm.refl _⟩) ?_; refine any_op (fun c => ow_move rfl ⟨rfl, List.Perm.refl _⟩) ?_
            refine any_guardY rfl (decide_eq_true (by omega)) (fun c => ow_move rfl ⟨rfl, List.Perm.refl _⟩) ?_; refine any_guardY rfl (decide_eq_true (by omega)) (fun c => ow_nilCheck rfl ⟨rfl, List.Perm.refl _⟩) ?_
            refine any_guardY rfl (decide_eq_true (by omega)) (fun c => ow_fieldAddr rfl rfl rfl (nb rfl) ⟨rfl, List.Perm.refl _⟩) ?_
            refine any_guardY rfl (decide_eq_true (by omega)) (fun c => ow_load 1 rfl rfl rfl rfl ⟨rfl, List.Perm.refl _⟩) ?_; refine any_guardY rfl (decide_eq_true (by omega)) (fun c => ow_move rfl ⟨rfl, List.Perm.refl _⟩) ?_
            refine any_guardY rfl (decide_eq_true (by omega)) (fun c => ow_nilCheck rfl ⟨rfl, List.Perm.refl _⟩) ?_
            refine any_guardY rfl (decide_eq_true (by omega)) (fun c => ow_fieldAddr rfl rfl rfl (nb rfl) ⟨rfl, List.Perm.refl _⟩) ?_
            refine any_guardY rfl (decide_eq_true (by omega)) (fun c => ow_load 1 rfl rfl rfl rfl ⟨rfl, List.Perm.refl _⟩) ?_
            refine any_guardY rfl (decide_eq_true (by omega)) (fun c => ow_indexAddrMapE rfl rfl (by omega) rfl rfl (nb rfl) ⟨rfl, List.Perm.refl _⟩) ?_
            refine any_guardY rfl (decide_eq_true (by omega)) (fun c => ow_fieldAddrPlace rfl rfl rfl (nb rfl) rfl (nb rfl) ⟨rfl, List.Perm.refl _⟩) ?_
            refine any_guardY rfl (decide_eq_true (by omega)) (fun c => ow_loadPlace rfl rfl ⟨rfl, List.Perm.refl _⟩) ?_; refine any_guardY rfl (decide_eq_true (by omega)) (fun c => ow_eql rfl rfl ⟨rfl, List.Perm.refl _⟩) ?_
            refine any_op (fun c => ow_pickT rfl (decide_eq_true (by omega)) rfl ⟨rfl, List.Perm.refl _⟩) ?_; refine any_op (fun c => ow_assign rfl ⟨rfl, List.Perm.refl _⟩) ?_; refine any_nil ?_; refine jq_then ?_
            refine jc_condF rfl (decide_eq_false (by assumption)) ?_; refine jc_seq ?_; refine jc_region ?_; refine jl_op (ow_move rfl ?_) (nb rfl); refine jl_op (ow_call1 [1] rfl rfl (rskip_n ha h2) ?_) (nb rfl)
            refine jl_op (ow_assign rfl ?_) (nb rfl); refine jl_nil ?_; refine jq_then ?_; refine jc_condF rfl rfl ?_; refine jc_seq ?_; refine jc_region ?_; refine jl_op (ow_move rfl ?_) (nb rfl)
            refine jl_op (ow_call1 [0] rfl rfl (risNm_n ha h3) ?_) (nb rfl); refine jl_op (ow_assign rfl ?_) (nb rfl); refine jl_nil ?_; refine jq_then ?_; refine jc_condF rfl rfl ?_; refine jc_skip ?_; refine jq_block ?_
            refine jq_then ?_; refine jc_seq ?_; refine jc_region ?_; refine jl_op (ow_move rfl ?_) (nb rfl); refine jl_op (ow_call1 [0] rfl rfl (rneed_n hl ha h4) ?_) (nb rfl); refine jl_nil ?_; refine jq_then ?_
            refine jc_seq ?_; refine jc_region ?_; refine jl_op (ow_move rfl ?_) (nb rfl); refine jl_op (ow_call1 [0] rfl rfl (rexpr_e (by decide)) ?_) (nb rfl); refine jl_op (ow_move rfl ?_) (nb rfl)
            refine jl_op (ow_extract rfl rfl ?_) (nb rfl); refine jl_op (ow_extract rfl rfl ?_) (nb rfl); refine jl_op (ow_alloc rfl rfl (fun bl => ?_)) (nb rfl); refine jl_op0 (ow_storeAll 0 rfl rfl rfl rfl rfl rfl ?_)
            refine jl_op (ow_assign rfl ?_) (nb rfl); refine jl_nil ?_; refine jq_then ?_; refine jc_seq ?_; refine jc_region ?_; refine jl_op (ow_move rfl ?_) (nb rfl)
            refine jl_op (ow_call1 [1] rfl rfl (rneed_e (by decide) _) ?_) (nb rfl); refine jl_nil ?_; refine jq_then ?_; refine jc_seq ?_; refine jc_region ?_; refine jl_op (ow_loadAll 1 rfl rfl rfl rfl ?_) (nb rfl)
            refine jl_op (ow_move rfl ?_) (nb rfl); refine jl_op0 (ow_storeAll 2 rfl rfl rfl rfl rfl rfl ?_); refine jl_op (ow_assign rfl ?_) (nb rfl); refine jl_nil ?_; refine jq_then ?_; refine jc_ret ?_
            refine jq_row 0 A5 rfl ?_ ?_
            · (repeat (first | exact RowLe.nil | refine RowLe.cons (CLe.any _) ?_))
            · refine jq_retRowT rfl rfl rfl rfl rfl 0 rfl (fun K h => by rw [e] at h; exact h (a, _) ⟨by omega, by decide⟩) ?_; refine sub_step 1 rfl ?_; exact sub_end
    · have h2 := isA_end W45 hlt
      have h3 := isNm_end hlt
      have h4 := isA_end W40 hlt
      have e : sx fr l (F + 1) 3 a = .er 1 a := by rw [sx, if_pos (Nat.le_refl _), if_neg h1', if_neg (by rw [h2]; decide), if_neg (by rw [h3]; decide), if_neg (by rw [h4]; decide)]
      refine jc_seq ?_; refine jc_region ?_; refine jl_op (ow_alloc rfl rfl (fun bl => ?_)) (nb rfl); refine jl_op (ow_assign rfl ?_) (nb rfl); refine jl_nil ?_; refine jq_then ?_; refine jc_seq ?_; refine jc_block ?_
      refine jc_seq ?_; refine jc_region ?_; refine jl_op (ow_move rfl ?_) (nb rfl); refine jl_op (ow_nilCheck rfl ?_) (nb rfl); refine jl_op (ow_fieldAddr rfl rfl rfl (nb rfl) ?_) (nb rfl)
      refine jl_op (ow_load 1 rfl rfl rfl rfl ?_) (nb rfl); refine jl_op (ow_neq rfl rfl ?_) (nb rfl); refine jl_op (ow_assign rfl ?_) (nb rfl); refine jl_nil ?_; refine jq_then ?_; refine jc_condF rfl rfl ?_; refine jc_seq ?_
      refine jc_any rfl rfl (by kernel_rfl) (by kernel_rfl) ?_; refine any_op (fun c => ow_move rfl ⟨rfl, List.Perm.refl _⟩) ?_; refine any_op (fun c => ow_nilCheck rfl ⟨rfl, List.Perm.refl _⟩) ?_
      refine any_op (fun c => ow_fieldAddr rfl rfl rfl (nb rfl) ⟨rfl, List.Perm.refl _⟩) ?_; refine any_op (fun c => ow_load 1 rfl rfl rfl rfl ⟨rfl, List.Perm.refl _⟩) ?_
      refine any_op (fun c => ow_move rfl ⟨rfl, List.Perm.refl _⟩) ?_; refine any_op (fun c => ow_nilCheck rfl ⟨rfl, List.Perm.refl _⟩) ?_; refine any_op (fun c => ow_fieldAddr rfl rfl rfl (nb rfl) ⟨rfl, List.Perm.refl _⟩) ?_
      refine any_op (fun c => ow_load 1 rfl rfl rfl rfl ⟨rfl, List.Perm.refl _⟩) ?_; refine any_op (fun c => ow_len rfl (fun hlen => ⟨rfl, List.Perm.refl _⟩)) ?_; refine any_op (fun c => ow_lss rfl rfl ⟨rfl, List.Perm.refl _⟩) ?_
      refine any_op (fun c => ow_move rfl ⟨rfl, List.Perm.refl _⟩) ?_; refine any_guardN rfl (decide_eq_false (by omega)) ?_; refine any_guardN rfl (decide_eq_false (by omega)) ?_
      refine any_guardN rfl (decide_eq_false (by omega)) ?_; refine any_guardN rfl (decide_eq_false (by omega)) ?_; refine any_guardN rfl (decide_eq_false (by omega)) ?_; refine any_guardN rfl (decide_eq_false (by omega)) ?_
      refine any_guardN rfl (decide_eq_false (by omega)) ?_; refine any_guardN rfl (decide_eq_false (by omega)) ?_; refine any_guardN rfl (decide_eq_false (by omega)) ?_; refine any_guardN rfl (decide_eq_false (by omega)) ?_
      refine any_guardN rfl (decide_eq_false (by omega)) ?_; refine any_guardN rfl (decide_eq_false (by omega)) ?_; refine any_op (fun c => ow_pickF rfl (decide_eq_false (by omega)) rfl ⟨rfl, List.Perm.refl _⟩) ?_
      refine any_op (fun c => ow_assign rfl ⟨rfl, List.Perm.refl _⟩) ?_; refine any_nil ?_; refine jq_then ?_; refine jc_condF rfl rfl ?_; refine jc_seq ?_; refine jc_region ?_; refine jl_op (ow_move rfl ?_) (nb rfl)
      refine jl_op (ow_call1 [1] rfl rfl (rskip_n ha h2) ?_) (nb rfl); refine jl_op (ow_assign rfl ?_) (nb rfl); refine jl_nil ?_; refine jq_then ?_; refine jc_condF rfl rfl ?_; refine jc_seq ?_; refine jc_region ?_
      refine jl_op (ow_move rfl ?_) (nb rfl); refine jl_op (ow_call1 [0] rfl rfl (risNm_n ha h3) ?_) (nb rfl); refine jl_op (ow_assign rfl ?_) (nb rfl); refine jl_nil ?_; refine jq_then ?_; refine jc_condF rfl rfl ?_
      refine jc_skip ?_; refine jq_block ?_; refine jq_then ?_; refine jc_seq ?_; refine jc_region ?_; refine jl_op (ow_move rfl ?_) (nb rfl); refine jl_op (ow_call1 [0] rfl rfl (rneed_n hl ha h4) ?_) (nb rfl); refine jl_nil ?_
      refine jq_then ?_; refine jc_seq ?_; refine jc_region ?_; refine jl_op (ow_move rfl ?_) (nb rfl); refine jl_op (ow_call1 [0] rfl rfl (rexpr_e (by decide)) ?_) (nb rfl); refine jl_op (ow_move rfl ?_) (nb rfl)
      refine jl_op (ow_extract rfl rfl ?_) (nb rfl); refine jl_op (ow_extract rfl rfl ?_) (nb rfl); refine jl_op (ow_alloc rfl rfl (fun bl => ?_)) (nb rfl); refine jl_op0 (ow_storeAll 0 rfl rfl rfl rfl rfl rfl ?_)
      refine jl_op (ow_assign rfl ?_) (nb rfl); refine jl_nil ?_; refine jq_then ?_; refine jc_seq ?_; refine jc_region ?_; refine jl_op (ow_move rfl ?_) (nb rfl)
      refine jl_op (ow_call1 [1] rfl rfl (rneed_e (by decide) _) ?_) (nb rfl); refine jl_nil ?_; refine jq_then ?_; refine jc_seq ?_; refine jc_region ?_; refine jl_op (ow_loadAll 1 rfl rfl rfl rfl ?_) (nb rfl)
      refine jl_op (ow_move rfl ?_) (nb rfl); refine jl_op0 (ow_storeAll 2 rfl rfl rfl rfl rfl rfl ?_); refine jl_op (ow_assign rfl ?_) (nb rfl); refine jl_nil ?_; refine jq_then ?_; refine jc_ret ?_; refine jq_row 0 A5 rfl ?_ ?_
      · (repeat (first | exact RowLe.nil | refine RowLe.cons (CLe.any _) ?_))
      · refine jq_retRowT rfl rfl rfl rfl rfl 0 rfl (fun K h => by rw [e] at h; exact h (a, _) ⟨by omega, by decide⟩) ?_; refine sub_step 1 rfl ?_; exact sub_end
omit hl in
theorem expr_of (F : Nat) (hL : LvP l fr F) : XpP l fr F := by
  intro b a ha hN
  have con := hL b 0 a (by omega) ha hN
  refine con_intro Tryd.func29 rfl rfl (Nat.le_of_ble_eq_true rfl) (fun c hc => ?_)
  cases e : sx fr l F 0 a with
  | er code p =>
    rw [e] at con
    refine jc_seq ?_; refine jc_region ?_; refine jl_op (ow_alloc rfl rfl (fun bl => ?_)) (nb rfl); refine jl_op (ow_assign rfl ?_) (nb rfl); refine jl_nil ?_; refine jq_then ?_; refine jc_seq ?_; refine jc_region ?_
    refine jl_op (ow_move rfl ?_) (nb rfl); refine jl_op (ow_callP [1] rfl rfl (con) (fun pp hpp => ?_)) (nb rfl); refine jl_op (ow_extract rfl rfl ?_) (nb rfl); refine jl_op (ow_extract rfl rfl ?_) (nb rfl)
    refine jl_op0 (ow_storeAll 1 rfl rfl rfl rfl rfl rfl ?_); refine jl_op (ow_assign rfl ?_) (nb rfl); refine jl_nil ?_; refine jq_then ?_; refine jc_ret ?_
    refine jq_retRowT rfl rfl rfl rfl rfl 0 rfl (fun K h => h (_, _) hpp) ?_; refine sub_step 1 rfl ?_; exact sub_end
  | ok x c =>
    rw [e] at con
    refine jc_seq ?_; refine jc_region ?_; refine jl_op (ow_alloc rfl rfl (fun bl => ?_)) (nb rfl); refine jl_op (ow_assign rfl ?_) (nb rfl); refine jl_nil ?_; refine jq_then ?_; refine jc_seq ?_; refine jc_region ?_
    refine jl_op (ow_move rfl ?_) (nb rfl); refine jl_op (ow_call1 [1] rfl rfl (con) ?_) (nb rfl); refine jl_op (ow_extract rfl rfl ?_) (nb rfl); refine jl_op (ow_extract rfl rfl ?_) (nb rfl)
    refine jl_op0 (ow_storeAll 1 rfl rfl rfl rfl rfl rfl ?_); refine jl_op (ow_assign rfl ?_) (nb rfl); refine jl_nil ?_; refine jq_then ?_; refine jc_ret ?_; refine jq_retRowT rfl rfl rfl rfl rfl 0 rfl (fun K h => h) ?_
    refine sub_step 1 rfl ?_; exact sub_end
end
end Go.Proofs.YtamajcgdfjeehaaDoor
end

section
namespace Go.Proofs.YtamajcgdfjeehaaDoor
open Go.Vc
attribute [local irreducible] JL JC JQ OpWp Con ConN Pan ConE OpPan hasW idxW isA isNum isNm numAt txtAt lineAt opAt lx lpx sx sxp
set_option maxHeartbeats 8000000

theorem sxp_none {fr : Bool} {l : List Tok} {L : List ByteArray} {sub : Nat → R T} {a : Nat} (h : opAt l L a = none) (m : Nat) (x : T) : sxp fr l L sub m x a = .ok x a := by cases m <;> simp [sxp, h]
abbrev Lix := (T × Nat × Nat × Nat) ⊕ (Nat × Int × Nat × Int × Nat)
def LI (l : List Tok) (fr : Bool) (F k a : Nat) (r : R T) : Lix → Prop
  | .inl (t, c, m, n) => (a < c ∧ c ≤ l.length) ∧ t.dep ≤ c - a ∧ n ≤ c ∧ (k = 0 → m + n = 1) ∧ (¬ k = 0 → l.length - c ≤ m) ∧ r = sxp fr l (opsL k) (sx fr l F (k + 1)) m t c
  | .inr (c, _, n, code, p) => c ≤ l.length ∧ n ≤ l.length + 1 ∧ ¬ code = 0 ∧ r = .er code p
def Lenv (k b bR bX : Nat) : Lix → Env
  | .inl (t, _, _, n) => [(0, Ptr b), (1, In .i64 (k : Int)), (4, Ptr bR), (6, .cell (.list ((opsL k).map Wrow))), (7, .cell (.list ((opnL k).map Irow))), (8, Ptr bX), (9, In .i64 (t.dep : Int)), (10, In .i64 (n : Int))]
  | .inr (_, d, n, _, _) => [(0, Ptr b), (1, In .i64 (k : Int)), (4, Ptr bR), (6, .cell (.list ((opsL k).map Wrow))), (7, .cell (.list ((opnL k).map Irow))), (8, Ptr bX), (9, In .i64 d), (10, In .i64 (n : Int))]
def Lch (l : List Tok) (fr : Bool) (b bR bX : Nat) : Lix → List Ch
  | .inl (t, c, _, _) => [.blk bR 27 Z5, .blk bX 27 t.row', Rz b l c 0 0 fr]
  | .inr (c, _, _, code, p) => [.blk bR 27 Z5, .blk bX 27 A5, Rz b l c (lineAt l p) code fr]
def Lmu (l : List Tok) : Lix → Nat
  | .inl (_, c, _, _) => l.length - c + 1
  | .inr _ => 0

section
variable {l : List Tok} {fr : Bool} (hl : l.length ≤ 1000000)
theorem level_top (F : Nat) (hF : FcP l fr F) (b a : Nat) (ha : a ≤ l.length) (hN : need l 3 a ≤ F) : Con Tryd.prog 50 [Ptr b, In .i64 3] [Rz b l a 0 0 fr] (LvPost b l fr (sx fr l F 3 a)) := by
  have con := hF b a ha hN
  refine con_intro Tryd.func50 rfl rfl (Nat.le_of_ble_eq_true rfl) (fun c hc => ?_)
  cases e : sx fr l F 3 a with
  | er code p =>
    rw [e] at con
    refine jc_seq ?_; refine jc_region ?_; refine jl_op (ow_alloc rfl rfl (fun bl => ?_)) (nb rfl); refine jl_op (ow_assign rfl ?_) (nb rfl); refine jl_nil ?_; refine jq_then ?_; refine jc_seq ?_; refine jc_region ?_
    refine jl_op (ow_buildSlice rfl rfl (nb rfl) rfl rfl (nb rfl) ?_) (nb rfl); refine jl_op (ow_buildSlice rfl rfl (nb rfl) rfl rfl (nb rfl) ?_) (nb rfl); refine jl_op (ow_assign rfl ?_) (nb rfl)
    refine jl_op (ow_assign rfl ?_) (nb rfl); refine jl_nil ?_; refine jq_then ?_; refine jc_seq ?_; refine jc_seq ?_; refine jc_region ?_; refine jl_op (ow_move rfl ?_) (nb rfl); refine jl_nil ?_; refine jq_then ?_
    refine jc_block ?_; refine jc_seq ?_; refine jc_region ?_; refine jl_op (ow_eql rfl rfl ?_) (nb rfl); refine jl_op (ow_assign rfl ?_) (nb rfl); refine jl_nil ?_; refine jq_then ?_; refine jc_condF rfl rfl ?_; refine jc_seq ?_
    refine jc_region ?_; refine jl_op (ow_eql rfl rfl ?_) (nb rfl); refine jl_op (ow_assign rfl ?_) (nb rfl); refine jl_nil ?_; refine jq_then ?_; refine jc_condF rfl rfl ?_; refine jc_seq ?_; refine jc_region ?_
    refine jl_op (ow_eql rfl rfl ?_) (nb rfl); refine jl_op (ow_assign rfl ?_) (nb rfl); refine jl_nil ?_; refine jq_then ?_; refine jc_condT rfl (decide_eq_true rfl) ?_; refine jc_seq ?_; refine jc_region ?_
    refine jl_op (ow_move rfl ?_) (nb rfl); refine jl_op (ow_callP [1] rfl rfl (con) (fun pp hpp => ?_)) (nb rfl); refine jl_op (ow_extract rfl rfl ?_) (nb rfl); refine jl_op (ow_extract rfl rfl ?_) (nb rfl)
    refine jl_op0 (ow_storeAll 1 rfl rfl rfl rfl rfl rfl ?_); refine jl_op (ow_assign rfl ?_) (nb rfl); refine jl_nil ?_; refine jq_then ?_; refine jc_ret ?_; refine jq_block_ret ?_; refine jq_then_ret ?_
    refine jq_retRowT rfl rfl rfl rfl rfl 0 rfl (fun K h => h (_, _) hpp) ?_; refine sub_step 1 rfl ?_; exact sub_end
  | ok x c =>
    rw [e] at con
    refine jc_seq ?_; refine jc_region ?_; refine jl_op (ow_alloc rfl rfl (fun bl => ?_)) (nb rfl); refine jl_op (ow_assign rfl ?_) (nb rfl); refine jl_nil ?_; refine jq_then ?_; refine jc_seq ?_; refine jc_region ?_
    refine jl_op (ow_buildSlice rfl rfl (nb rfl) rfl rfl (nb rfl) ?_) (nb rfl); refine jl_op (ow_buildSlice rfl rfl (nb rfl) rfl rfl (nb rfl) ?_) (nb rfl); refine jl_op (ow_assign rfl ?_) (nb rfl)
    refine jl_op (ow_assign rfl ?_) (nb rfl); refine jl_nil ?_; refine jq_then ?_; refine jc_seq ?_; refine jc_seq ?_; refine jc_region ?_; refine jl_op (ow_move rfl ?_) (nb rfl); refine jl_nil ?_; refine jq_then ?_
    refine jc_block ?_; refine jc_seq ?_; refine jc_region ?_; refine jl_op (ow_eql rfl rfl ?_) (nb rfl); refine jl_op (ow_assign rfl ?_) (nb rfl); refine jl_nil ?_; refine jq_then ?_; refine jc_condF rfl rfl ?_; refine jc_seq ?_
    refine jc_region ?_; refine jl_op (ow_eql rfl rfl ?_) (nb rfl); refine jl_op (ow_assign rfl ?_) (nb rfl); refine jl_nil ?_; refine jq_then ?_; refine jc_condF rfl rfl ?_; refine jc_seq ?_; refine jc_region ?_
    refine jl_op (ow_eql rfl rfl ?_) (nb rfl); refine jl_op (ow_assign rfl ?_) (nb rfl); refine jl_nil ?_; refine jq_then ?_; refine jc_condT rfl (decide_eq_true rfl) ?_; refine jc_seq ?_; refine jc_region ?_
    refine jl_op (ow_move rfl ?_) (nb rfl); refine jl_op (ow_call1 [1] rfl rfl (con) ?_) (nb rfl); refine jl_op (ow_extract rfl rfl ?_) (nb rfl); refine jl_op (ow_extract rfl rfl ?_) (nb rfl)
    refine jl_op0 (ow_storeAll 1 rfl rfl rfl rfl rfl rfl ?_); refine jl_op (ow_assign rfl ?_) (nb rfl); refine jl_nil ?_; refine jq_then ?_; refine jc_ret ?_; refine jq_block_ret ?_; refine jq_then_ret ?_
    refine jq_retRowT rfl rfl rfl rfl rfl 0 rfl (fun K h => h) ?_; refine sub_step 1 rfl ?_; exact sub_end
include hl
theorem level_step (F k b a : Nat) (hk : k = 0 ∨ k = 1 ∨ k = 2) (hG : ∀ a, a ≤ l.length → need l (k + 1) a ≤ F → Con Tryd.prog 50 [Ptr b, In .i64 ((k : Int) + 1)] [Rz b l a 0 0 fr] (LvPost b l fr (sx fr l F (k + 1) a)))
    (ha : a ≤ l.length) (hN : need l k a ≤ F + 1) : Con Tryd.prog 50 [Ptr b, In .i64 (k : Int)] [Rz b l a 0 0 fr] (LvPost b l fr (sx fr l (F + 1) k a)) := by
  unfold need at hN
  have con := hG a ha (by unfold need; omega)
  refine con_intro Tryd.func50 rfl rfl (Nat.le_of_ble_eq_true rfl) (fun c hc => ?_)
  generalize hr : sx fr l (F + 1) k a = r
  rcases hk with hk | hk | hk
  · cases hs : sx fr l F (k + 1) a with
    | er code p =>
      have e : r = .er code p := by rw [← hr, sx, if_neg (by omega), hs]
      rw [hs] at con
      refine jc_seq ?_; refine jc_region ?_; refine jl_op (ow_alloc rfl rfl (fun bl => ?_)) (nb rfl); refine jl_op (ow_assign rfl ?_) (nb rfl); refine jl_nil ?_; refine jq_then ?_; refine jc_seq ?_; refine jc_region ?_
      refine jl_op (ow_buildSlice rfl rfl (nb rfl) rfl rfl (nb rfl) ?_) (nb rfl); refine jl_op (ow_buildSlice rfl rfl (nb rfl) rfl rfl (nb rfl) ?_) (nb rfl); refine jl_op (ow_assign rfl ?_) (nb rfl)
      refine jl_op (ow_assign rfl ?_) (nb rfl); refine jl_nil ?_; refine jq_then ?_; refine jc_seq ?_; refine jc_seq ?_; refine jc_region ?_; refine jl_op (ow_move rfl ?_) (nb rfl); refine jl_nil ?_; refine jq_then ?_
      refine jc_block ?_; refine jc_seq ?_; refine jc_region ?_; refine jl_op (ow_eql rfl rfl ?_) (nb rfl); refine jl_op (ow_assign rfl ?_) (nb rfl); refine jl_nil ?_; refine jq_then ?_
      refine jc_condF rfl (decide_eq_false (by omega)) ?_; refine jc_seq ?_; refine jc_region ?_; refine jl_op (ow_eql rfl rfl ?_) (nb rfl); refine jl_op (ow_assign rfl ?_) (nb rfl); refine jl_nil ?_; refine jq_then ?_
      refine jc_condF rfl (decide_eq_false (by omega)) ?_; refine jc_seq ?_; refine jc_region ?_; refine jl_op (ow_eql rfl rfl ?_) (nb rfl); refine jl_op (ow_assign rfl ?_) (nb rfl); refine jl_nil ?_; refine jq_then ?_
      refine jc_condF rfl (decide_eq_false (by omega)) ?_; refine jc_skip ?_; refine jq_block ?_; refine jq_then ?_; refine jc_seq ?_; refine jc_region ?_; refine jl_op (ow_move rfl ?_) (nb rfl)
      refine jl_op (ow_move rfl ?_) (nb rfl); refine jl_op (ow_add64 rfl rfl (by omega) ?_) (nb rfl); refine jl_op (ow_callP [1] rfl rfl (con) (fun pp hpp => ?_)) (nb rfl); refine jl_op (ow_move rfl ?_) (nb rfl)
      refine jl_op (ow_extract rfl rfl ?_) (nb rfl); refine jl_op (ow_extract rfl rfl ?_) (nb rfl); refine jl_op (ow_alloc rfl rfl (fun bl => ?_)) (nb rfl); refine jl_op0 (ow_storeAll 0 rfl rfl rfl rfl rfl rfl ?_)
      refine jl_op (ow_assign rfl ?_) (nb rfl); refine jl_nil ?_; refine jq_then ?_; refine jc_seq ?_; refine jc_seq ?_; refine jc_region ?_; refine jl_op (ow_assign rfl ?_) (nb rfl); refine jl_nil ?_; refine jq_then ?_
      refine jc_block ?_
      rename_i bR
      refine jc_loopS [] (LI l fr F k a r) (Lenv k b bR bl) (Lch l fr b bR bl) (Lmu l) (.inr (pp.1, pp.2, 0, code, p)) ⟨hpp.1, Nat.zero_le _, hpp.2, e⟩ ?_ ?_ ?_
      · refine sub_step 2 rfl ?_; refine sub_step 0 rfl ?_; refine sub_step 0 rfl ?_; exact sub_end
      · subst hk
        (repeat (first | exact True.intro | refine ⟨rfl, ?_⟩))
      · rintro (⟨t, c, m, n⟩ | ⟨c, d, n, code, p⟩) hI
        · obtain ⟨⟨hac, hcl⟩, hdep, hn, hm0, hm1, hI⟩ := hI
          refine jc_reset (Lenv k b bR bl (.inl (t, c, m, n))) [.blk bR 27 Z5, .blk bl 27 t.row', Rz b l c 0 0 fr] ?_ ⟨[0, 0, 0], [], rfl⟩ ?_
          · (repeat (first | exact True.intro | refine ⟨rfl, ?_⟩))
          cases ho : opAt l (opsL k) c with
          | none =>
            rw [sxp_none ho] at hI
            refine jc_seq ?_; refine jc_seq ?_; refine jc_region ?_; refine jl_op (ow_move rfl ?_) (nb rfl); refine jl_op (ow_move rfl ?_) (nb rfl); refine jl_op (ow_move rfl ?_) (nb rfl)
            refine jl_op (ow_call1 [2] rfl rfl (rnext_none hcl ho) ?_) (nb rfl); refine jl_op (ow_neq rfl rfl ?_) (nb rfl); refine jl_op (ow_move rfl ?_) (nb rfl); refine jl_guardN rfl rfl (nb rfl) ?_
            refine jl_guardN rfl rfl (nb rfl) ?_; refine jl_guardN rfl rfl (nb rfl) ?_; refine jl_guardU rfl (nb rfl) ?_; refine jl_guardU rfl (nb rfl) ?_; refine jl_guardN rfl rfl (nb rfl) ?_
            refine jl_op (ow_pickF rfl rfl rfl ?_) (nb rfl); refine jl_nil ?_; refine jq_then ?_; refine jc_condF rfl rfl ?_; refine jc_exit ?_; refine jq_then_exit ?_; refine jq_then_exit ?_; refine jq_block_exit ?_
            refine jq_then ?_; refine jc_seq ?_; refine jc_region ?_; refine jl_op (ow_loadAll 2 rfl rfl rfl rfl ?_) (nb rfl); refine jl_op (ow_move rfl ?_) (nb rfl); refine jl_op0 (ow_storeAll 1 rfl rfl rfl rfl rfl rfl ?_)
            refine jl_op (ow_assign rfl ?_) (nb rfl); refine jl_nil ?_; refine jq_then ?_; refine jc_ret ?_; refine jq_retRowT rfl rfl rfl rfl rfl 0 rfl (fun K h => by rw [hI] at h; exact h) ?_; refine sub_step 1 rfl ?_
            exact sub_end
          | some o =>
            have ho0 : ¬ o = 0 := opAt_pos ho
            have hlt := opAt_lt ho
            by_cases hstop : k = 0 ∧ n = 1
            · obtain rfl : m = 0 := by have := hm0 hstop.1; omega
              rw [sxp] at hI
              have hs1 := hstop.1
              have hs2 := hstop.2
              refine jc_seq ?_; refine jc_seq ?_; refine jc_region ?_; refine jl_op (ow_move rfl ?_) (nb rfl); refine jl_op (ow_move rfl ?_) (nb rfl); refine jl_op (ow_move rfl ?_) (nb rfl)
              refine jl_op (ow_call1 [2] rfl rfl (rnext_some hcl ho) ?_) (nb rfl); refine jl_op (ow_neq rfl rfl ?_) (nb rfl); refine jl_op (ow_move rfl ?_) (nb rfl)
              refine jl_guardY rfl (decide_eq_true (by assumption)) (nb rfl) (ow_move rfl ?_); refine jl_guardY rfl (decide_eq_true (by assumption)) (nb rfl) (ow_gtr rfl rfl ?_)
              refine jl_guardY rfl (decide_eq_true (by assumption)) (nb rfl) (ow_move rfl ?_); refine jl_guardY rfl (decide_eq_false (by omega)) (nb rfl) (ow_move rfl ?_)
              refine jl_guardY rfl (decide_eq_false (by omega)) (nb rfl) (ow_eql rfl rfl ?_); refine jl_guardY rfl (decide_eq_true (by assumption)) (nb rfl) (ow_pickF rfl (decide_eq_false (by omega)) rfl ?_)
              refine jl_op (ow_pickT rfl (decide_eq_true (by assumption)) rfl ?_) (nb rfl); refine jl_nil ?_; refine jq_then ?_; refine jc_condF rfl (decide_eq_false (by omega)) ?_; refine jc_exit ?_; refine jq_then_exit ?_
              refine jq_then_exit ?_; refine jq_block_exit ?_; refine jq_then ?_; refine jc_seq ?_; refine jc_region ?_; refine jl_op (ow_loadAll 2 rfl rfl rfl rfl ?_) (nb rfl); refine jl_op (ow_move rfl ?_) (nb rfl)
              refine jl_op0 (ow_storeAll 1 rfl rfl rfl rfl rfl rfl ?_); refine jl_op (ow_assign rfl ?_) (nb rfl); refine jl_nil ?_; refine jq_then ?_; refine jc_ret ?_
              refine jq_retRowT rfl rfl rfl rfl rfl 0 rfl (fun K h => by rw [hI] at h; exact h) ?_; refine sub_step 1 rfl ?_; exact sub_end
            · have hm : 0 < m := by
                by_cases h0 : k = 0
                · have := hm0 h0; omega
                · have := hm1 h0; omega
              obtain ⟨m, rfl⟩ : ∃ m', m = m' + 1 := ⟨m - 1, by omega⟩
              have con2 := hG (c + 1) (by omega) (by unfold need; omega)
              rw [sxp, ho] at hI
              dsimp only at hI
              have hgo : k = 0 → n = 0 := fun h => by have := hm0 h; omega
              cases hr2 : sx fr l F (k + 1) (c + 1) with
              | er code2 p2 =>
                rw [hr2] at hI con2
                dsimp only at hI
                refine jc_seq ?_; refine jc_seq ?_; refine jc_region ?_; refine jl_op (ow_move rfl ?_) (nb rfl); refine jl_op (ow_move rfl ?_) (nb rfl); refine jl_op (ow_move rfl ?_) (nb rfl)
                refine jl_op (ow_call1 [2] rfl rfl (rnext_some hcl ho) ?_) (nb rfl); refine jl_op (ow_neq rfl rfl ?_) (nb rfl); refine jl_op (ow_move rfl ?_) (nb rfl)
                refine jl_guardY rfl (decide_eq_true (by assumption)) (nb rfl) (ow_move rfl ?_); refine jl_guardY rfl (decide_eq_true (by assumption)) (nb rfl) (ow_gtr rfl rfl ?_)
                refine jl_guardY rfl (decide_eq_true (by assumption)) (nb rfl) (ow_move rfl ?_); refine jl_guardY rfl (decide_eq_false (by omega)) (nb rfl) (ow_move rfl ?_)
                refine jl_guardY rfl (decide_eq_false (by omega)) (nb rfl) (ow_eql rfl rfl ?_); refine jl_guardY rfl (decide_eq_true (by assumption)) (nb rfl) (ow_pickF rfl (decide_eq_false (by omega)) rfl ?_)
                refine jl_op (ow_pickT rfl (decide_eq_true (by assumption)) rfl ?_) (nb rfl); refine jl_nil ?_; refine jq_then ?_; refine jc_condT rfl (decide_eq_true (by omega)) ?_; refine jc_skip ?_; refine jq_then ?_
                refine jc_seq ?_; refine jc_block ?_; refine jc_seq ?_; refine jc_region ?_; refine jl_op (ow_move rfl ?_) (nb rfl); refine jl_op (ow_move rfl ?_) (nb rfl); refine jl_op (ow_move rfl ?_) (nb rfl)
                refine jl_op (ow_call1 [0] rfl rfl (rnext_some hcl ho) ?_) (nb rfl); refine jl_op (ow_assign rfl ?_) (nb rfl); refine jl_nil ?_; refine jq_then ?_; refine jc_seq ?_; refine jc_region ?_
                refine jl_op (ow_move rfl ?_) (nb rfl); refine jl_op (ow_nilCheck rfl ?_) (nb rfl); refine jl_op (ow_fieldAddr rfl rfl rfl (nb rfl) ?_) (nb rfl); refine jl_op (ow_load 0 rfl rfl rfl rfl ?_) (nb rfl)
                refine jl_op (ow_add64 rfl rfl (by omega) ?_) (nb rfl); refine jl_op (ow_nilCheck rfl ?_) (nb rfl); refine jl_op (ow_fieldAddr rfl rfl rfl (nb rfl) ?_) (nb rfl)
                refine jl_op0 (ow_store1 0 rfl rfl rfl rfl (nb rfl) ?_); refine jl_nil ?_; refine jq_then ?_; refine jc_seq ?_; refine jc_region ?_; refine jl_op (ow_move rfl ?_) (nb rfl); refine jl_op (ow_move rfl ?_) (nb rfl)
                refine jl_op (ow_add64 rfl rfl (by omega) ?_) (nb rfl); refine jl_op (ow_callP [0] rfl rfl (con2) (fun pp hpp => ?_)) (nb rfl); refine jl_op (ow_move rfl ?_) (nb rfl); refine jl_op (ow_extract rfl rfl ?_) (nb rfl)
                refine jl_op (ow_extract rfl rfl ?_) (nb rfl); refine jl_op (ow_alloc rfl rfl (fun bl => ?_)) (nb rfl); refine jl_op0 (ow_storeAll 0 rfl rfl rfl rfl rfl rfl ?_); refine jl_op (ow_assign rfl ?_) (nb rfl)
                refine jl_nil ?_; refine jq_then ?_; refine jc_seq ?_; refine jc_region ?_; refine jl_op (ow_move rfl ?_) (nb rfl); refine jl_op (ow_move rfl ?_) (nb rfl); refine jl_op (ow_max2 rfl rfl ?_) (nb rfl)
                refine jl_op (ow_add rfl rfl ?_) (nb rfl); refine jl_op (ow_assign rfl ?_) (nb rfl); refine jl_nil ?_; refine jq_then ?_; refine jc_seq ?_; refine jc_region ?_; refine jl_op (ow_move rfl ?_) (nb rfl)
                refine jl_op (ow_move rfl ?_) (nb rfl); refine jl_op (ow_call1 [1] rfl rfl (rdeep_e hpp.2 (by omega) _) ?_) (nb rfl); refine jl_nil ?_; refine jq_then ?_; refine jc_region ?_; refine jl_op (ow_move rfl ?_) (nb rfl)
                refine jl_op (ow_loadAll 3 rfl rfl rfl rfl ?_) (nb rfl); refine jl_op (ow_loadAll 1 rfl rfl rfl rfl ?_) (nb rfl); refine jl_op (ow_buildSlice rfl rfl (nb rfl) rfl rfl (nb rfl) ?_) (nb rfl)
                refine jl_op (ow_build rfl rfl rfl rfl rfl ?_) (nb rfl); refine jl_op0 (ow_storeAll 3 rfl rfl rfl rfl rfl rfl ?_); refine jl_nil ?_; refine jq_block ?_; refine jq_then ?_; refine jc_region ?_
                refine jl_op (ow_move rfl ?_) (nb rfl); refine jl_op (ow_add64 rfl rfl (by omega) ?_) (nb rfl); refine jl_op (ow_assign rfl ?_) (nb rfl); refine jl_nil ?_; refine jq_row 0 A5 rfl ?_ ?_
                · (repeat (first | exact RowLe.nil | refine RowLe.cons (CLe.any _) ?_))
                refine jq_againS (i := (.inl (t, c, m + 1, n) : Lix)) ((.inr (pp.1, IntKind.i64.wrap (max (t.dep : Int) pp.2 + 1), n + 1, code2, p2) : Lix)) ⟨hpp.1, by omega, hpp.2, hI⟩ (Nat.succ_pos _) ?_ ?_
                · refine sub_step 3 rfl ?_; refine sub_step 0 rfl ?_; refine sub_step 0 rfl ?_; exact sub_end
                · (repeat (first | exact True.intro | refine ⟨rfl, ?_⟩))
              | ok y d2 =>
                have hbd2 := sx_bd _ _ _ _ _ hr2
                have hdep2 := sx_dep _ _ _ _ _ hr2
                have hd2 : ((T.bn o t y).dep : Int) = max (t.dep : Int) (y.dep : Int) + 1 := by simp only [T.dep]; omega
                rw [hr2] at hI con2
                dsimp only at hI
                by_cases hd : fr = false ∧ 8 < (T.bn o t y).dep
                · rw [dpR_er hd] at hI
                  dsimp only at hI
                  obtain ⟨hfr, hd⟩ := hd
                  have hd' : max (t.dep : Int) (y.dep : Int) + 1 > 8 := by omega
                  have hD := rdeep_n (b := b) (ln := 0) (a := d2) hl _ hd' (by omega) (by omega)
                  rw [← hfr] at hD
                  refine jc_seq ?_; refine jc_seq ?_; refine jc_region ?_; refine jl_op (ow_move rfl ?_) (nb rfl); refine jl_op (ow_move rfl ?_) (nb rfl); refine jl_op (ow_move rfl ?_) (nb rfl)
                  refine jl_op (ow_call1 [2] rfl rfl (rnext_some hcl ho) ?_) (nb rfl); refine jl_op (ow_neq rfl rfl ?_) (nb rfl); refine jl_op (ow_move rfl ?_) (nb rfl)
                  refine jl_guardY rfl (decide_eq_true (by assumption)) (nb rfl) (ow_move rfl ?_); refine jl_guardY rfl (decide_eq_true (by assumption)) (nb rfl) (ow_gtr rfl rfl ?_)
                  refine jl_guardY rfl (decide_eq_true (by assumption)) (nb rfl) (ow_move rfl ?_); refine jl_guardY rfl (decide_eq_false (by omega)) (nb rfl) (ow_move rfl ?_)
                  refine jl_guardY rfl (decide_eq_false (by omega)) (nb rfl) (ow_eql rfl rfl ?_); refine jl_guardY rfl (decide_eq_true (by assumption)) (nb rfl) (ow_pickF rfl (decide_eq_false (by omega)) rfl ?_)
                  refine jl_op (ow_pickT rfl (decide_eq_true (by assumption)) rfl ?_) (nb rfl); refine jl_nil ?_; refine jq_then ?_; refine jc_condT rfl (decide_eq_true (by omega)) ?_; refine jc_skip ?_; refine jq_then ?_
                  refine jc_seq ?_; refine jc_block ?_; refine jc_seq ?_; refine jc_region ?_; refine jl_op (ow_move rfl ?_) (nb rfl); refine jl_op (ow_move rfl ?_) (nb rfl); refine jl_op (ow_move rfl ?_) (nb rfl)
                  refine jl_op (ow_call1 [0] rfl rfl (rnext_some hcl ho) ?_) (nb rfl); refine jl_op (ow_assign rfl ?_) (nb rfl); refine jl_nil ?_; refine jq_then ?_; refine jc_seq ?_; refine jc_region ?_
                  refine jl_op (ow_move rfl ?_) (nb rfl); refine jl_op (ow_nilCheck rfl ?_) (nb rfl); refine jl_op (ow_fieldAddr rfl rfl rfl (nb rfl) ?_) (nb rfl); refine jl_op (ow_load 0 rfl rfl rfl rfl ?_) (nb rfl)
                  refine jl_op (ow_add64 rfl rfl (by omega) ?_) (nb rfl); refine jl_op (ow_nilCheck rfl ?_) (nb rfl); refine jl_op (ow_fieldAddr rfl rfl rfl (nb rfl) ?_) (nb rfl)
                  refine jl_op0 (ow_store1 0 rfl rfl rfl rfl (nb rfl) ?_); refine jl_nil ?_; refine jq_then ?_; refine jc_seq ?_; refine jc_region ?_; refine jl_op (ow_move rfl ?_) (nb rfl); refine jl_op (ow_move rfl ?_) (nb rfl)
                  refine jl_op (ow_add64 rfl rfl (by omega) ?_) (nb rfl); refine jl_op (ow_call1 [0] rfl rfl (con2) ?_) (nb rfl); refine jl_op (ow_move rfl ?_) (nb rfl); refine jl_op (ow_extract rfl rfl ?_) (nb rfl)
                  refine jl_op (ow_extract rfl rfl ?_) (nb rfl); refine jl_op (ow_alloc rfl rfl (fun bl => ?_)) (nb rfl); refine jl_op0 (ow_storeAll 0 rfl rfl rfl rfl rfl rfl ?_); refine jl_op (ow_assign rfl ?_) (nb rfl)
                  refine jl_nil ?_; refine jq_then ?_; refine jc_seq ?_; refine jc_region ?_; refine jl_op (ow_move rfl ?_) (nb rfl); refine jl_op (ow_move rfl ?_) (nb rfl); refine jl_op (ow_max2 rfl rfl ?_) (nb rfl)
                  refine jl_op (ow_add64 rfl rfl (by omega) ?_) (nb rfl); refine jl_op (ow_assign rfl ?_) (nb rfl); refine jl_nil ?_; refine jq_then ?_; refine jc_seq ?_; refine jc_region ?_; refine jl_op (ow_move rfl ?_) (nb rfl)
                  refine jl_op (ow_move rfl ?_) (nb rfl); refine jl_op (ow_call1 [1] rfl rfl (hD) ?_) (nb rfl); refine jl_nil ?_; refine jq_then ?_; refine jc_region ?_; refine jl_op (ow_move rfl ?_) (nb rfl)
                  refine jl_op (ow_loadAll 3 rfl rfl rfl rfl ?_) (nb rfl); refine jl_op (ow_loadAll 1 rfl rfl rfl rfl ?_) (nb rfl); refine jl_op (ow_buildSlice rfl rfl (nb rfl) rfl rfl (nb rfl) ?_) (nb rfl)
                  refine jl_op (ow_build rfl rfl rfl rfl rfl ?_) (nb rfl); refine jl_op0 (ow_storeAll 3 rfl rfl rfl rfl rfl rfl ?_); refine jl_nil ?_; refine jq_block ?_; refine jq_then ?_; refine jc_region ?_
                  refine jl_op (ow_move rfl ?_) (nb rfl); refine jl_op (ow_add64 rfl rfl (by omega) ?_) (nb rfl); refine jl_op (ow_assign rfl ?_) (nb rfl); refine jl_nil ?_; refine jq_row 0 A5 rfl ?_ ?_
                  · (repeat (first | exact RowLe.nil | refine RowLe.cons (CLe.any _) ?_))
                  refine jq_againS (i := (.inl (t, c, m + 1, n) : Lix)) ((.inr (d2, max (t.dep : Int) (y.dep : Int) + 1, n + 1, 4, d2 - 1) : Lix)) ⟨by omega, by omega, by decide, hI⟩ (Nat.succ_pos _) ?_ ?_
                  · refine sub_step 3 rfl ?_; refine sub_step 0 rfl ?_; refine sub_step 0 rfl ?_; exact sub_end
                  · (repeat (first | exact True.intro | refine ⟨rfl, ?_⟩))
                · rw [dpR_ok hd] at hI
                  dsimp only at hI
                  have hd' : ¬ (fr = false ∧ max (t.dep : Int) (y.dep : Int) + 1 > 8) := fun hh => hd ⟨hh.1, by omega⟩
                  refine jc_seq ?_; refine jc_seq ?_; refine jc_region ?_; refine jl_op (ow_move rfl ?_) (nb rfl); refine jl_op (ow_move rfl ?_) (nb rfl); refine jl_op (ow_move rfl ?_) (nb rfl)
                  refine jl_op (ow_call1 [2] rfl rfl (rnext_some hcl ho) ?_) (nb rfl); refine jl_op (ow_neq rfl rfl ?_) (nb rfl); refine jl_op (ow_move rfl ?_) (nb rfl)
                  refine jl_guardY rfl (decide_eq_true (by assumption)) (nb rfl) (ow_move rfl ?_); refine jl_guardY rfl (decide_eq_true (by assumption)) (nb rfl) (ow_gtr rfl rfl ?_)
                  refine jl_guardY rfl (decide_eq_true (by assumption)) (nb rfl) (ow_move rfl ?_); refine jl_guardY rfl (decide_eq_false (by omega)) (nb rfl) (ow_move rfl ?_)
                  refine jl_guardY rfl (decide_eq_false (by omega)) (nb rfl) (ow_eql rfl rfl ?_); refine jl_guardY rfl (decide_eq_true (by assumption)) (nb rfl) (ow_pickF rfl (decide_eq_false (by omega)) rfl ?_)
                  refine jl_op (ow_pickT rfl (decide_eq_true (by assumption)) rfl ?_) (nb rfl); refine jl_nil ?_; refine jq_then ?_; refine jc_condT rfl (decide_eq_true (by omega)) ?_; refine jc_skip ?_; refine jq_then ?_
                  refine jc_seq ?_; refine jc_block ?_; refine jc_seq ?_; refine jc_region ?_; refine jl_op (ow_move rfl ?_) (nb rfl); refine jl_op (ow_move rfl ?_) (nb rfl); refine jl_op (ow_move rfl ?_) (nb rfl)
                  refine jl_op (ow_call1 [0] rfl rfl (rnext_some hcl ho) ?_) (nb rfl); refine jl_op (ow_assign rfl ?_) (nb rfl); refine jl_nil ?_; refine jq_then ?_; refine jc_seq ?_; refine jc_region ?_
                  refine jl_op (ow_move rfl ?_) (nb rfl); refine jl_op (ow_nilCheck rfl ?_) (nb rfl); refine jl_op (ow_fieldAddr rfl rfl rfl (nb rfl) ?_) (nb rfl); refine jl_op (ow_load 0 rfl rfl rfl rfl ?_) (nb rfl)
                  refine jl_op (ow_add64 rfl rfl (by omega) ?_) (nb rfl); refine jl_op (ow_nilCheck rfl ?_) (nb rfl); refine jl_op (ow_fieldAddr rfl rfl rfl (nb rfl) ?_) (nb rfl)
                  refine jl_op0 (ow_store1 0 rfl rfl rfl rfl (nb rfl) ?_); refine jl_nil ?_; refine jq_then ?_; refine jc_seq ?_; refine jc_region ?_; refine jl_op (ow_move rfl ?_) (nb rfl); refine jl_op (ow_move rfl ?_) (nb rfl)
                  refine jl_op (ow_add64 rfl rfl (by omega) ?_) (nb rfl); refine jl_op (ow_call1 [0] rfl rfl (con2) ?_) (nb rfl); refine jl_op (ow_move rfl ?_) (nb rfl); refine jl_op (ow_extract rfl rfl ?_) (nb rfl)
                  refine jl_op (ow_extract rfl rfl ?_) (nb rfl); refine jl_op (ow_alloc rfl rfl (fun bl => ?_)) (nb rfl); refine jl_op0 (ow_storeAll 0 rfl rfl rfl rfl rfl rfl ?_); refine jl_op (ow_assign rfl ?_) (nb rfl)
                  refine jl_nil ?_; refine jq_then ?_; refine jc_seq ?_; refine jc_region ?_; refine jl_op (ow_move rfl ?_) (nb rfl); refine jl_op (ow_move rfl ?_) (nb rfl); refine jl_op (ow_max2 rfl rfl ?_) (nb rfl)
                  refine jl_op (ow_add64 rfl rfl (by omega) ?_) (nb rfl); refine jl_op (ow_assign rfl ?_) (nb rfl); refine jl_nil ?_; refine jq_then ?_; refine jc_seq ?_; refine jc_region ?_; refine jl_op (ow_move rfl ?_) (nb rfl)
                  refine jl_op (ow_move rfl ?_) (nb rfl); refine jl_op (ow_call1 [1] rfl rfl (rdeep_y _ hd') ?_) (nb rfl); refine jl_nil ?_; refine jq_then ?_; refine jc_region ?_; refine jl_op (ow_move rfl ?_) (nb rfl)
                  refine jl_op (ow_loadAll 3 rfl rfl rfl rfl ?_) (nb rfl); refine jl_op (ow_loadAll 1 rfl rfl rfl rfl ?_) (nb rfl); refine jl_op (ow_buildSlice rfl rfl (nb rfl) rfl rfl (nb rfl) ?_) (nb rfl)
                  refine jl_op (ow_build rfl rfl rfl rfl rfl ?_) (nb rfl); refine jl_op0 (ow_storeAll 3 rfl rfl rfl rfl rfl rfl ?_); refine jl_nil ?_; refine jq_block ?_; refine jq_then ?_; refine jc_region ?_
                  refine jl_op (ow_move rfl ?_) (nb rfl); refine jl_op (ow_add64 rfl rfl (by omega) ?_) (nb rfl); refine jl_op (ow_assign rfl ?_) (nb rfl); refine jl_nil ?_; refine jq_row 0 (T.bn o t y).row' rfl ?_ ?_
                  · (repeat (first | exact RowLe.nil | refine RowLe.cons (CLe.refl _) ?_ | refine RowLe.cons CLe.nil ?_))
                    exact RowLe.cons (CLe.eq (by simp [T.row_eq, T.args])) .nil
                  refine jq_againS (i := (.inl (t, c, m + 1, n) : Lix)) ((.inl (T.bn o t y, d2, m, n + 1) : Lix)) ⟨⟨by omega, hbd2.2⟩, by omega, by omega, fun h => by have := hm0 h; omega, fun h => by have := hm1 h; omega, hI⟩ (by simp only [Lmu]; omega) ?_ ?_
                  · refine sub_step 3 rfl ?_; refine sub_step 0 rfl ?_; refine sub_step 0 rfl ?_; exact sub_end
                  · dsimp only [Lenv]
                    rw [hd2]
                    (repeat (first | exact True.intro | refine ⟨rfl, ?_⟩))
        · obtain ⟨hcl, hn, hc0, hI⟩ := hI
          refine jc_reset (Lenv k b bR bl (.inr (c, d, n, code, p))) [.blk bR 27 Z5, .blk bl 27 A5, Rz b l c (lineAt l p) code fr] ?_ ⟨[0, 0, 0], [], rfl⟩ ?_
          · (repeat (first | exact True.intro | refine ⟨rfl, ?_⟩))
          refine jc_seq ?_; refine jc_seq ?_; refine jc_region ?_; refine jl_op (ow_move rfl ?_) (nb rfl); refine jl_op (ow_move rfl ?_) (nb rfl); refine jl_op (ow_move rfl ?_) (nb rfl)
          refine jl_op (ow_call1 [2] rfl rfl (rnext_e hc0 _ _) ?_) (nb rfl); refine jl_op (ow_neq rfl rfl ?_) (nb rfl); refine jl_op (ow_move rfl ?_) (nb rfl); refine jl_guardN rfl rfl (nb rfl) ?_
          refine jl_guardN rfl rfl (nb rfl) ?_; refine jl_guardN rfl rfl (nb rfl) ?_; refine jl_guardU rfl (nb rfl) ?_; refine jl_guardU rfl (nb rfl) ?_; refine jl_guardN rfl rfl (nb rfl) ?_
          refine jl_op (ow_pickF rfl rfl rfl ?_) (nb rfl); refine jl_nil ?_; refine jq_then ?_; refine jc_condF rfl rfl ?_; refine jc_exit ?_; refine jq_then_exit ?_; refine jq_then_exit ?_; refine jq_block_exit ?_
          refine jq_then ?_; refine jc_seq ?_; refine jc_region ?_; refine jl_op (ow_loadAll 2 rfl rfl rfl rfl ?_) (nb rfl); refine jl_op (ow_move rfl ?_) (nb rfl); refine jl_op0 (ow_storeAll 1 rfl rfl rfl rfl rfl rfl ?_)
          refine jl_op (ow_assign rfl ?_) (nb rfl); refine jl_nil ?_; refine jq_then ?_; refine jc_ret ?_; refine jq_retRowT rfl rfl rfl rfl rfl 0 rfl (fun K h => by rw [hI] at h; exact h (c, d) ⟨hcl, hc0⟩) ?_
          refine sub_step 1 rfl ?_; exact sub_end
    | ok x c =>
      have hbd := sx_bd _ _ _ _ _ hs
      have hdep0 := sx_dep _ _ _ _ _ hs
      have e : r = sxp fr l (opsL k) (sx fr l F (k + 1)) (if k = 0 then 1 else F) x c := by rw [← hr, sx, if_neg (by omega), hs]
      rw [hs] at con
      refine jc_seq ?_; refine jc_region ?_; refine jl_op (ow_alloc rfl rfl (fun bl => ?_)) (nb rfl); refine jl_op (ow_assign rfl ?_) (nb rfl); refine jl_nil ?_; refine jq_then ?_; refine jc_seq ?_; refine jc_region ?_
      refine jl_op (ow_buildSlice rfl rfl (nb rfl) rfl rfl (nb rfl) ?_) (nb rfl); refine jl_op (ow_buildSlice rfl rfl (nb rfl) rfl rfl (nb rfl) ?_) (nb rfl); refine jl_op (ow_assign rfl ?_) (nb rfl)
      refine jl_op (ow_assign rfl ?_) (nb rfl); refine jl_nil ?_; refine jq_then ?_; refine jc_seq ?_; refine jc_seq ?_; refine jc_region ?_; refine jl_op (ow_move rfl ?_) (nb rfl); refine jl_nil ?_; refine jq_then ?_
      refine jc_block ?_; refine jc_seq ?_; refine jc_region ?_; refine jl_op (ow_eql rfl rfl ?_) (nb rfl); refine jl_op (ow_assign rfl ?_) (nb rfl); refine jl_nil ?_; refine jq_then ?_
      refine jc_condF rfl (decide_eq_false (by omega)) ?_; refine jc_seq ?_; refine jc_region ?_; refine jl_op (ow_eql rfl rfl ?_) (nb rfl); refine jl_op (ow_assign rfl ?_) (nb rfl); refine jl_nil ?_; refine jq_then ?_
      refine jc_condF rfl (decide_eq_false (by omega)) ?_; refine jc_seq ?_; refine jc_region ?_; refine jl_op (ow_eql rfl rfl ?_) (nb rfl); refine jl_op (ow_assign rfl ?_) (nb rfl); refine jl_nil ?_; refine jq_then ?_
      refine jc_condF rfl (decide_eq_false (by omega)) ?_; refine jc_skip ?_; refine jq_block ?_; refine jq_then ?_; refine jc_seq ?_; refine jc_region ?_; refine jl_op (ow_move rfl ?_) (nb rfl)
      refine jl_op (ow_move rfl ?_) (nb rfl); refine jl_op (ow_add64 rfl rfl (by omega) ?_) (nb rfl); refine jl_op (ow_call1 [1] rfl rfl (con) ?_) (nb rfl); refine jl_op (ow_move rfl ?_) (nb rfl)
      refine jl_op (ow_extract rfl rfl ?_) (nb rfl); refine jl_op (ow_extract rfl rfl ?_) (nb rfl); refine jl_op (ow_alloc rfl rfl (fun bl => ?_)) (nb rfl); refine jl_op0 (ow_storeAll 0 rfl rfl rfl rfl rfl rfl ?_)
      refine jl_op (ow_assign rfl ?_) (nb rfl); refine jl_nil ?_; refine jq_then ?_; refine jc_seq ?_; refine jc_seq ?_; refine jc_region ?_; refine jl_op (ow_assign rfl ?_) (nb rfl); refine jl_nil ?_; refine jq_then ?_
      refine jc_block ?_
      rename_i bR
      refine jc_loopS [] (LI l fr F k a r) (Lenv k b bR bl) (Lch l fr b bR bl) (Lmu l) (.inl (x, c, if k = 0 then 1 else F, 0)) ⟨⟨hbd.1, hbd.2⟩, hdep0, Nat.zero_le _, fun h => by rw [if_pos h], fun h => by rw [if_neg h]; omega, e⟩ ?_ ?_ ?_
      · refine sub_step 2 rfl ?_; refine sub_step 0 rfl ?_; refine sub_step 0 rfl ?_; exact sub_end
      · subst hk
        (repeat (first | exact True.intro | refine ⟨rfl, ?_⟩))
      · rintro (⟨t, c, m, n⟩ | ⟨c, d, n, code, p⟩) hI
        · obtain ⟨⟨hac, hcl⟩, hdep, hn, hm0, hm1, hI⟩ := hI
          refine jc_reset (Lenv k b bR bl (.inl (t, c, m, n))) [.blk bR 27 Z5, .blk bl 27 t.row', Rz b l c 0 0 fr] ?_ ⟨[0, 0, 0], [], rfl⟩ ?_
          · (repeat (first | exact True.intro | refine ⟨rfl, ?_⟩))
          cases ho : opAt l (opsL k) c with
          | none =>
            rw [sxp_none ho] at hI
            refine jc_seq ?_; refine jc_seq ?_; refine jc_region ?_; refine jl_op (ow_move rfl ?_) (nb rfl); refine jl_op (ow_move rfl ?_) (nb rfl); refine jl_op (ow_move rfl ?_) (nb rfl)
            refine jl_op (ow_call1 [2] rfl rfl (rnext_none hcl ho) ?_) (nb rfl); refine jl_op (ow_neq rfl rfl ?_) (nb rfl); refine jl_op (ow_move rfl ?_) (nb rfl); refine jl_guardN rfl rfl (nb rfl) ?_
            refine jl_guardN rfl rfl (nb rfl) ?_; refine jl_guardN rfl rfl (nb rfl) ?_; refine jl_guardU rfl (nb rfl) ?_; refine jl_guardU rfl (nb rfl) ?_; refine jl_guardN rfl rfl (nb rfl) ?_
            refine jl_op (ow_pickF rfl rfl rfl ?_) (nb rfl); refine jl_nil ?_; refine jq_then ?_; refine jc_condF rfl rfl ?_; refine jc_exit ?_; refine jq_then_exit ?_; refine jq_then_exit ?_; refine jq_block_exit ?_
            refine jq_then ?_; refine jc_seq ?_; refine jc_region ?_; refine jl_op (ow_loadAll 2 rfl rfl rfl rfl ?_) (nb rfl); refine jl_op (ow_move rfl ?_) (nb rfl); refine jl_op0 (ow_storeAll 1 rfl rfl rfl rfl rfl rfl ?_)
            refine jl_op (ow_assign rfl ?_) (nb rfl); refine jl_nil ?_; refine jq_then ?_; refine jc_ret ?_; refine jq_retRowT rfl rfl rfl rfl rfl 0 rfl (fun K h => by rw [hI] at h; exact h) ?_; refine sub_step 1 rfl ?_
            exact sub_end
          | some o =>
            have ho0 : ¬ o = 0 := opAt_pos ho
            have hlt := opAt_lt ho
            by_cases hstop : k = 0 ∧ n = 1
            · obtain rfl : m = 0 := by have := hm0 hstop.1; omega
              rw [sxp] at hI
              have hs1 := hstop.1
              have hs2 := hstop.2
              refine jc_seq ?_; refine jc_seq ?_; refine jc_region ?_; refine jl_op (ow_move rfl ?_) (nb rfl); refine jl_op (ow_move rfl ?_) (nb rfl); refine jl_op (ow_move rfl ?_) (nb rfl)
              refine jl_op (ow_call1 [2] rfl rfl (rnext_some hcl ho) ?_) (nb rfl); refine jl_op (ow_neq rfl rfl ?_) (nb rfl); refine jl_op (ow_move rfl ?_) (nb rfl)
              refine jl_guardY rfl (decide_eq_true (by assumption)) (nb rfl) (ow_move rfl ?_); refine jl_guardY rfl (decide_eq_true (by assumption)) (nb rfl) (ow_gtr rfl rfl ?_)
              refine jl_guardY rfl (decide_eq_true (by assumption)) (nb rfl) (ow_move rfl ?_); refine jl_guardY rfl (decide_eq_false (by omega)) (nb rfl) (ow_move rfl ?_)
              refine jl_guardY rfl (decide_eq_false (by omega)) (nb rfl) (ow_eql rfl rfl ?_); refine jl_guardY rfl (decide_eq_true (by assumption)) (nb rfl) (ow_pickF rfl (decide_eq_false (by omega)) rfl ?_)
              refine jl_op (ow_pickT rfl (decide_eq_true (by assumption)) rfl ?_) (nb rfl); refine jl_nil ?_; refine jq_then ?_; refine jc_condF rfl (decide_eq_false (by omega)) ?_; refine jc_exit ?_; refine jq_then_exit ?_
              refine jq_then_exit ?_; refine jq_block_exit ?_; refine jq_then ?_; refine jc_seq ?_; refine jc_region ?_; refine jl_op (ow_loadAll 2 rfl rfl rfl rfl ?_) (nb rfl); refine jl_op (ow_move rfl ?_) (nb rfl)
              refine jl_op0 (ow_storeAll 1 rfl rfl rfl rfl rfl rfl ?_); refine jl_op (ow_assign rfl ?_) (nb rfl); refine jl_nil ?_; refine jq_then ?_; refine jc_ret ?_
              refine jq_retRowT rfl rfl rfl rfl rfl 0 rfl (fun K h => by rw [hI] at h; exact h) ?_; refine sub_step 1 rfl ?_; exact sub_end
            · have hm : 0 < m := by
                by_cases h0 : k = 0
                · have := hm0 h0; omega
                · have := hm1 h0; omega
              obtain ⟨m, rfl⟩ : ∃ m', m = m' + 1 := ⟨m - 1, by omega⟩
              have con2 := hG (c + 1) (by omega) (by unfold need; omega)
              rw [sxp, ho] at hI
              dsimp only at hI
              have hgo : k = 0 → n = 0 := fun h => by have := hm0 h; omega
              cases hr2 : sx fr l F (k + 1) (c + 1) with
              | er code2 p2 =>
                rw [hr2] at hI con2
                dsimp only at hI
                refine jc_seq ?_; refine jc_seq ?_; refine jc_region ?_; refine jl_op (ow_move rfl ?_) (nb rfl); refine jl_op (ow_move rfl ?_) (nb rfl); refine jl_op (ow_move rfl ?_) (nb rfl)
                refine jl_op (ow_call1 [2] rfl rfl (rnext_some hcl ho) ?_) (nb rfl); refine jl_op (ow_neq rfl rfl ?_) (nb rfl); refine jl_op (ow_move rfl ?_) (nb rfl)
                refine jl_guardY rfl (decide_eq_true (by assumption)) (nb rfl) (ow_move rfl ?_); refine jl_guardY rfl (decide_eq_true (by assumption)) (nb rfl) (ow_gtr rfl rfl ?_)
                refine jl_guardY rfl (decide_eq_true (by assumption)) (nb rfl) (ow_move rfl ?_); refine jl_guardY rfl (decide_eq_false (by omega)) (nb rfl) (ow_move rfl ?_)
                refine jl_guardY rfl (decide_eq_false (by omega)) (nb rfl) (ow_eql rfl rfl ?_); refine jl_guardY rfl (decide_eq_true (by assumption)) (nb rfl) (ow_pickF rfl (decide_eq_false (by omega)) rfl ?_)
                refine jl_op (ow_pickT rfl (decide_eq_true (by assumption)) rfl ?_) (nb rfl); refine jl_nil ?_; refine jq_then ?_; refine jc_condT rfl (decide_eq_true (by omega)) ?_; refine jc_skip ?_; refine jq_then ?_
                refine jc_seq ?_; refine jc_block ?_; refine jc_seq ?_; refine jc_region ?_; refine jl_op (ow_move rfl ?_) (nb rfl); refine jl_op (ow_move rfl ?_) (nb rfl); refine jl_op (ow_move rfl ?_) (nb rfl)
                refine jl_op (ow_call1 [0] rfl rfl (rnext_some hcl ho) ?_) (nb rfl); refine jl_op (ow_assign rfl ?_) (nb rfl); refine jl_nil ?_; refine jq_then ?_; refine jc_seq ?_; refine jc_region ?_
                refine jl_op (ow_move rfl ?_) (nb rfl); refine jl_op (ow_nilCheck rfl ?_) (nb rfl); refine jl_op (ow_fieldAddr rfl rfl rfl (nb rfl) ?_) (nb rfl); refine jl_op (ow_load 0 rfl rfl rfl rfl ?_) (nb rfl)
                refine jl_op (ow_add64 rfl rfl (by omega) ?_) (nb rfl); refine jl_op (ow_nilCheck rfl ?_) (nb rfl); refine jl_op (ow_fieldAddr rfl rfl rfl (nb rfl) ?_) (nb rfl)
                refine jl_op0 (ow_store1 0 rfl rfl rfl rfl (nb rfl) ?_); refine jl_nil ?_; refine jq_then ?_; refine jc_seq ?_; refine jc_region ?_; refine jl_op (ow_move rfl ?_) (nb rfl); refine jl_op (ow_move rfl ?_) (nb rfl)
                refine jl_op (ow_add64 rfl rfl (by omega) ?_) (nb rfl); refine jl_op (ow_callP [0] rfl rfl (con2) (fun pp hpp => ?_)) (nb rfl); refine jl_op (ow_move rfl ?_) (nb rfl); refine jl_op (ow_extract rfl rfl ?_) (nb rfl)
                refine jl_op (ow_extract rfl rfl ?_) (nb rfl); refine jl_op (ow_alloc rfl rfl (fun bl => ?_)) (nb rfl); refine jl_op0 (ow_storeAll 0 rfl rfl rfl rfl rfl rfl ?_); refine jl_op (ow_assign rfl ?_) (nb rfl)
                refine jl_nil ?_; refine jq_then ?_; refine jc_seq ?_; refine jc_region ?_; refine jl_op (ow_move rfl ?_) (nb rfl); refine jl_op (ow_move rfl ?_) (nb rfl); refine jl_op (ow_max2 rfl rfl ?_) (nb rfl)
                refine jl_op (ow_add rfl rfl ?_) (nb rfl); refine jl_op (ow_assign rfl ?_) (nb rfl); refine jl_nil ?_; refine jq_then ?_; refine jc_seq ?_; refine jc_region ?_; refine jl_op (ow_move rfl ?_) (nb rfl)
                refine jl_op (ow_move rfl ?_) (nb rfl); refine jl_op (ow_call1 [1] rfl rfl (rdeep_e hpp.2 (by omega) _) ?_) (nb rfl); refine jl_nil ?_; refine jq_then ?_; refine jc_region ?_; refine jl_op (ow_move rfl ?_) (nb rfl)
                refine jl_op (ow_loadAll 3 rfl rfl rfl rfl ?_) (nb rfl); refine jl_op (ow_loadAll 1 rfl rfl rfl rfl ?_) (nb rfl); refine jl_op (ow_buildSlice rfl rfl (nb rfl) rfl rfl (nb rfl) ?_) (nb rfl)
                refine jl_op (ow_build rfl rfl rfl rfl rfl ?_) (nb rfl); refine jl_op0 (ow_storeAll 3 rfl rfl rfl rfl rfl rfl ?_); refine jl_nil ?_; refine jq_block ?_; refine jq_then ?_; refine jc_region ?_
                refine jl_op (ow_move rfl ?_) (nb rfl); refine jl_op (ow_add64 rfl rfl (by omega) ?_) (nb rfl); refine jl_op (ow_assign rfl ?_) (nb rfl); refine jl_nil ?_; refine jq_row 0 A5 rfl ?_ ?_
                · (repeat (first | exact RowLe.nil | refine RowLe.cons (CLe.any _) ?_))
                refine jq_againS (i := (.inl (t, c, m + 1, n) : Lix)) ((.inr (pp.1, IntKind.i64.wrap (max (t.dep : Int) pp.2 + 1), n + 1, code2, p2) : Lix)) ⟨hpp.1, by omega, hpp.2, hI⟩ (Nat.succ_pos _) ?_ ?_
                · refine sub_step 3 rfl ?_; refine sub_step 0 rfl ?_; refine sub_step 0 rfl ?_; exact sub_end
                · (repeat (first | exact True.intro | refine ⟨rfl, ?_⟩))
              | ok y d2 =>
                have hbd2 := sx_bd _ _ _ _ _ hr2
                have hdep2 := sx_dep _ _ _ _ _ hr2
                have hd2 : ((T.bn o t y).dep : Int) = max (t.dep : Int) (y.dep : Int) + 1 := by simp only [T.dep]; omega
                rw [hr2] at hI con2
                dsimp only at hI
                by_cases hd : fr = false ∧ 8 < (T.bn o t y).dep
                · rw [dpR_er hd] at hI
                  dsimp only at hI
                  obtain ⟨hfr, hd⟩ := hd
                  have hd' : max (t.dep : Int) (y.dep : Int) + 1 > 8 := by omega
                  have hD := rdeep_n (b := b) (ln := 0) (a := d2) hl _ hd' (by omega) (by omega)
                  rw [← hfr] at hD
                  refine jc_seq ?_; refine jc_seq ?_; refine jc_region ?_; refine jl_op (ow_move rfl ?_) (nb rfl); refine jl_op (ow_move rfl ?_) (nb rfl); refine jl_op (ow_move rfl ?_) (nb rfl)
                  refine jl_op (ow_call1 [2] rfl rfl (rnext_some hcl ho) ?_) (nb rfl); refine jl_op (ow_neq rfl rfl ?_) (nb rfl); refine jl_op (ow_move rfl ?_) (nb rfl)
                  refine jl_guardY rfl (decide_eq_true (by assumption)) (nb rfl) (ow_move rfl ?_); refine jl_guardY rfl (decide_eq_true (by assumption)) (nb rfl) (ow_gtr rfl rfl ?_)
                  refine jl_guardY rfl (decide_eq_true (by assumption)) (nb rfl) (ow_move rfl ?_); refine jl_guardY rfl (decide_eq_false (by omega)) (nb rfl) (ow_move rfl ?_)
                  refine jl_guardY rfl (decide_eq_false (by omega)) (nb rfl) (ow_eql rfl rfl ?_); refine jl_guardY rfl (decide_eq_true (by assumption)) (nb rfl) (ow_pickF rfl (decide_eq_false (by omega)) rfl ?_)
                  refine jl_op (ow_pickT rfl (decide_eq_true (by assumption)) rfl ?_) (nb rfl); refine jl_nil ?_; refine jq_then ?_; refine jc_condT rfl (decide_eq_true (by omega)) ?_; refine jc_skip ?_; refine jq_then ?_
                  refine jc_seq ?_; refine jc_block ?_; refine jc_seq ?_; refine jc_region ?_; refine jl_op (ow_move rfl ?_) (nb rfl); refine jl_op (ow_move rfl ?_) (nb rfl); refine jl_op (ow_move rfl ?_) (nb rfl)
                  refine jl_op (ow_call1 [0] rfl rfl (rnext_some hcl ho) ?_) (nb rfl); refine jl_op (ow_assign rfl ?_) (nb rfl); refine jl_nil ?_; refine jq_then ?_; refine jc_seq ?_; refine jc_region ?_
                  refine jl_op (ow_move rfl ?_) (nb rfl); refine jl_op (ow_nilCheck rfl ?_) (nb rfl); refine jl_op (ow_fieldAddr rfl rfl rfl (nb rfl) ?_) (nb rfl); refine jl_op (ow_load 0 rfl rfl rfl rfl ?_) (nb rfl)
                  refine jl_op (ow_add64 rfl rfl (by omega) ?_) (nb rfl); refine jl_op (ow_nilCheck rfl ?_) (nb rfl); refine jl_op (ow_fieldAddr rfl rfl rfl (nb rfl) ?_) (nb rfl)
                  refine jl_op0 (ow_store1 0 rfl rfl rfl rfl (nb rfl) ?_); refine jl_nil ?_; refine jq_then ?_; refine jc_seq ?_; refine jc_region ?_; refine jl_op (ow_move rfl ?_) (nb rfl); refine jl_op (ow_move rfl ?_) (nb rfl)
                  refine jl_op (ow_add64 rfl rfl (by omega) ?_) (nb rfl); refine jl_op (ow_call1 [0] rfl rfl (con2) ?_) (nb rfl); refine jl_op (ow_move rfl ?_) (nb rfl); refine jl_op (ow_extract rfl rfl ?_) (nb rfl)
                  refine jl_op (ow_extract rfl rfl ?_) (nb rfl); refine jl_op (ow_alloc rfl rfl (fun bl => ?_)) (nb rfl); refine jl_op0 (ow_storeAll 0 rfl rfl rfl rfl rfl rfl ?_); refine jl_op (ow_assign rfl ?_) (nb rfl)
                  refine jl_nil ?_; refine jq_then ?_; refine jc_seq ?_; refine jc_region ?_; refine jl_op (ow_move rfl ?_) (nb rfl); refine jl_op (ow_move rfl ?_) (nb rfl); refine jl_op (ow_max2 rfl rfl ?_) (nb rfl)
                  refine jl_op (ow_add64 rfl rfl (by omega) ?_) (nb rfl); refine jl_op (ow_assign rfl ?_) (nb rfl); refine jl_nil ?_; refine jq_then ?_; refine jc_seq ?_; refine jc_region ?_; refine jl_op (ow_move rfl ?_) (nb rfl)
                  refine jl_op (ow_move rfl ?_) (nb rfl); refine jl_op (ow_call1 [1] rfl rfl (hD) ?_) (nb rfl); refine jl_nil ?_; refine jq_then ?_; refine jc_region ?_; refine jl_op (ow_move rfl ?_) (nb rfl)
                  refine jl_op (ow_loadAll 3 rfl rfl rfl rfl ?_) (nb rfl); refine jl_op (ow_loadAll 1 rfl rfl rfl rfl ?_) (nb rfl); refine jl_op (ow_buildSlice rfl rfl (nb rfl) rfl rfl (nb rfl) ?_) (nb rfl)
                  refine jl_op (ow_build rfl rfl rfl rfl rfl ?_) (nb rfl); refine jl_op0 (ow_storeAll 3 rfl rfl rfl rfl rfl rfl ?_); refine jl_nil ?_; refine jq_block ?_; refine jq_then ?_; refine jc_region ?_
                  refine jl_op (ow_move rfl ?_) (nb rfl); refine jl_op (ow_add64 rfl rfl (by omega) ?_) (nb rfl); refine jl_op (ow_assign rfl ?_) (nb rfl); refine jl_nil ?_; refine jq_row 0 A5 rfl ?_ ?_
                  · (repeat (first | exact RowLe.nil | refine RowLe.cons (CLe.any _) ?_))
                  refine jq_againS (i := (.inl (t, c, m + 1, n) : Lix)) ((.inr (d2, max (t.dep : Int) (y.dep : Int) + 1, n + 1, 4, d2 - 1) : Lix)) ⟨by omega, by omega, by decide, hI⟩ (Nat.succ_pos _) ?_ ?_
                  · refine sub_step 3 rfl ?_; refine sub_step 0 rfl ?_; refine sub_step 0 rfl ?_; exact sub_end
                  · (repeat (first | exact True.intro | refine ⟨rfl, ?_⟩))
                · rw [dpR_ok hd] at hI
                  dsimp only at hI
                  have hd' : ¬ (fr = false ∧ max (t.dep : Int) (y.dep : Int) + 1 > 8) := fun hh => hd ⟨hh.1, by omega⟩
                  refine jc_seq ?_; refine jc_seq ?_; refine jc_region ?_; refine jl_op (ow_move rfl ?_) (nb rfl); refine jl_op (ow_move rfl ?_) (nb rfl); refine jl_op (ow_move rfl ?_) (nb rfl)
                  refine jl_op (ow_call1 [2] rfl rfl (rnext_some hcl ho) ?_) (nb rfl); refine jl_op (ow_neq rfl rfl ?_) (nb rfl); refine jl_op (ow_move rfl ?_) (nb rfl)
                  refine jl_guardY rfl (decide_eq_true (by assumption)) (nb rfl) (ow_move rfl ?_); refine jl_guardY rfl (decide_eq_true (by assumption)) (nb rfl) (ow_gtr rfl rfl ?_)
                  refine jl_guardY rfl (decide_eq_true (by assumption)) (nb rfl) (ow_move rfl ?_); refine jl_guardY rfl (decide_eq_false (by omega)) (nb rfl) (ow_move rfl ?_)
                  refine jl_guardY rfl (decide_eq_false (by omega)) (nb rfl) (ow_eql rfl rfl ?_); refine jl_guardY rfl (decide_eq_true (by assumption)) (nb rfl) (ow_pickF rfl (decide_eq_false (by omega)) rfl ?_)
                  refine jl_op (ow_pickT rfl (decide_eq_true (by assumption)) rfl ?_) (nb rfl); refine jl_nil ?_; refine jq_then ?_; refine jc_condT rfl (decide_eq_true (by omega)) ?_; refine jc_skip ?_; refine jq_then ?_
                  refine jc_seq ?_; refine jc_block ?_; refine jc_seq ?_; refine jc_region ?_; refine jl_op (ow_move rfl ?_) (nb rfl); refine jl_op (ow_move rfl ?_) (nb rfl); refine jl_op (ow_move rfl ?_) (nb rfl)
                  refine jl_op (ow_call1 [0] rfl rfl (rnext_some hcl ho) ?_) (nb rfl); refine jl_op (ow_assign rfl ?_) (nb rfl); refine jl_nil ?_; refine jq_then ?_; refine jc_seq ?_; refine jc_region ?_
                  refine jl_op (ow_move rfl ?_) (nb rfl); refine jl_op (ow_nilCheck rfl ?_) (nb rfl); refine jl_op (ow_fieldAddr rfl rfl rfl (nb rfl) ?_) (nb rfl); refine jl_op (ow_load 0 rfl rfl rfl rfl ?_) (nb rfl)
                  refine jl_op (ow_add64 rfl rfl (by omega) ?_) (nb rfl); refine jl_op (ow_nilCheck rfl ?_) (nb rfl); refine jl_op (ow_fieldAddr rfl rfl rfl (nb rfl) ?_) (nb rfl)
                  refine jl_op0 (ow_store1 0 rfl rfl rfl rfl (nb rfl) ?_); refine jl_nil ?_; refine jq_then ?_; refine jc_seq ?_; refine jc_region ?_; refine jl_op (ow_move rfl ?_) (nb rfl); refine jl_op (ow_move rfl ?_) (nb rfl)
                  refine jl_op (ow_add64 rfl rfl (by omega) ?_) (nb rfl); refine jl_op (ow_call1 [0] rfl rfl (con2) ?_) (nb rfl); refine jl_op (ow_move rfl ?_) (nb rfl); refine jl_op (ow_extract rfl rfl ?_) (nb rfl)
                  refine jl_op (ow_extract rfl rfl ?_) (nb rfl); refine jl_op (ow_alloc rfl rfl (fun bl => ?_)) (nb rfl); refine jl_op0 (ow_storeAll 0 rfl rfl rfl rfl rfl rfl ?_); refine jl_op (ow_assign rfl ?_) (nb rfl)
                  refine jl_nil ?_; refine jq_then ?_; refine jc_seq ?_; refine jc_region ?_; refine jl_op (ow_move rfl ?_) (nb rfl); refine jl_op (ow_move rfl ?_) (nb rfl); refine jl_op (ow_max2 rfl rfl ?_) (nb rfl)
                  refine jl_op (ow_add64 rfl rfl (by omega) ?_) (nb rfl); refine jl_op (ow_assign rfl ?_) (nb rfl); refine jl_nil ?_; refine jq_then ?_; refine jc_seq ?_; refine jc_region ?_; refine jl_op (ow_move rfl ?_) (nb rfl)
                  refine jl_op (ow_move rfl ?_) (nb rfl); refine jl_op (ow_call1 [1] rfl rfl (rdeep_y _ hd') ?_) (nb rfl); refine jl_nil ?_; refine jq_then ?_; refine jc_region ?_; refine jl_op (ow_move rfl ?_) (nb rfl)
                  refine jl_op (ow_loadAll 3 rfl rfl rfl rfl ?_) (nb rfl); refine jl_op (ow_loadAll 1 rfl rfl rfl rfl ?_) (nb rfl); refine jl_op (ow_buildSlice rfl rfl (nb rfl) rfl rfl (nb rfl) ?_) (nb rfl)
                  refine jl_op (ow_build rfl rfl rfl rfl rfl ?_) (nb rfl); refine jl_op0 (ow_storeAll 3 rfl rfl rfl rfl rfl rfl ?_); refine jl_nil ?_; refine jq_block ?_; refine jq_then ?_; refine jc_region ?_
                  refine jl_op (ow_move rfl ?_) (nb rfl); refine jl_op (ow_add64 rfl rfl (by omega) ?_) (nb rfl); refine jl_op (ow_assign rfl ?_) (nb rfl); refine jl_nil ?_; refine jq_row 0 (T.bn o t y).row' rfl ?_ ?_
                  · (repeat (first | exact RowLe.nil | refine RowLe.cons (CLe.refl _) ?_ | refine RowLe.cons CLe.nil ?_))
                    exact RowLe.cons (CLe.eq (by simp [T.row_eq, T.args])) .nil
                  refine jq_againS (i := (.inl (t, c, m + 1, n) : Lix)) ((.inl (T.bn o t y, d2, m, n + 1) : Lix)) ⟨⟨by omega, hbd2.2⟩, by omega, by omega, fun h => by have := hm0 h; omega, fun h => by have := hm1 h; omega, hI⟩ (by simp only [Lmu]; omega) ?_ ?_
                  · refine sub_step 3 rfl ?_; refine sub_step 0 rfl ?_; refine sub_step 0 rfl ?_; exact sub_end
                  · dsimp only [Lenv]
                    rw [hd2]
                    (repeat (first | exact True.intro | refine ⟨rfl, ?_⟩))
        · obtain ⟨hcl, hn, hc0, hI⟩ := hI
          refine jc_reset (Lenv k b bR bl (.inr (c, d, n, code, p))) [.blk bR 27 Z5, .blk bl 27 A5, Rz b l c (lineAt l p) code fr] ?_ ⟨[0, 0, 0], [], rfl⟩ ?_
          · (repeat (first | exact True.intro | refine ⟨rfl, ?_⟩))
          refine jc_seq ?_; refine jc_seq ?_; refine jc_region ?_; refine jl_op (ow_move rfl ?_) (nb rfl); refine jl_op (ow_move rfl ?_) (nb rfl); refine jl_op (ow_move rfl ?_) (nb rfl)
          refine jl_op (ow_call1 [2] rfl rfl (rnext_e hc0 _ _) ?_) (nb rfl); refine jl_op (ow_neq rfl rfl ?_) (nb rfl); refine jl_op (ow_move rfl ?_) (nb rfl); refine jl_guardN rfl rfl (nb rfl) ?_
          refine jl_guardN rfl rfl (nb rfl) ?_; refine jl_guardN rfl rfl (nb rfl) ?_; refine jl_guardU rfl (nb rfl) ?_; refine jl_guardU rfl (nb rfl) ?_; refine jl_guardN rfl rfl (nb rfl) ?_
          refine jl_op (ow_pickF rfl rfl rfl ?_) (nb rfl); refine jl_nil ?_; refine jq_then ?_; refine jc_condF rfl rfl ?_; refine jc_exit ?_; refine jq_then_exit ?_; refine jq_then_exit ?_; refine jq_block_exit ?_
          refine jq_then ?_; refine jc_seq ?_; refine jc_region ?_; refine jl_op (ow_loadAll 2 rfl rfl rfl rfl ?_) (nb rfl); refine jl_op (ow_move rfl ?_) (nb rfl); refine jl_op0 (ow_storeAll 1 rfl rfl rfl rfl rfl rfl ?_)
          refine jl_op (ow_assign rfl ?_) (nb rfl); refine jl_nil ?_; refine jq_then ?_; refine jc_ret ?_; refine jq_retRowT rfl rfl rfl rfl rfl 0 rfl (fun K h => by rw [hI] at h; exact h (c, d) ⟨hcl, hc0⟩) ?_
          refine sub_step 1 rfl ?_; exact sub_end
  · cases hs : sx fr l F (k + 1) a with
    | er code p =>
      have e : r = .er code p := by rw [← hr, sx, if_neg (by omega), hs]
      rw [hs] at con
      refine jc_seq ?_; refine jc_region ?_; refine jl_op (ow_alloc rfl rfl (fun bl => ?_)) (nb rfl); refine jl_op (ow_assign rfl ?_) (nb rfl); refine jl_nil ?_; refine jq_then ?_; refine jc_seq ?_; refine jc_region ?_
      refine jl_op (ow_buildSlice rfl rfl (nb rfl) rfl rfl (nb rfl) ?_) (nb rfl); refine jl_op (ow_buildSlice rfl rfl (nb rfl) rfl rfl (nb rfl) ?_) (nb rfl); refine jl_op (ow_assign rfl ?_) (nb rfl)
      refine jl_op (ow_assign rfl ?_) (nb rfl); refine jl_nil ?_; refine jq_then ?_; refine jc_seq ?_; refine jc_seq ?_; refine jc_region ?_; refine jl_op (ow_move rfl ?_) (nb rfl); refine jl_nil ?_; refine jq_then ?_
      refine jc_block ?_; refine jc_seq ?_; refine jc_region ?_; refine jl_op (ow_eql rfl rfl ?_) (nb rfl); refine jl_op (ow_assign rfl ?_) (nb rfl); refine jl_nil ?_; refine jq_then ?_
      refine jc_condT rfl (decide_eq_true (by omega)) ?_; refine jc_region ?_; refine jl_op (ow_buildSlice rfl rfl (nb rfl) rfl rfl (nb rfl) ?_) (nb rfl); refine jl_op (ow_buildSlice rfl rfl (nb rfl) rfl rfl (nb rfl) ?_) (nb rfl)
      refine jl_op (ow_assign rfl ?_) (nb rfl); refine jl_op (ow_assign rfl ?_) (nb rfl); refine jl_nil ?_; refine jq_block ?_; refine jq_then ?_; refine jc_seq ?_; refine jc_region ?_; refine jl_op (ow_move rfl ?_) (nb rfl)
      refine jl_op (ow_move rfl ?_) (nb rfl); refine jl_op (ow_add64 rfl rfl (by omega) ?_) (nb rfl); refine jl_op (ow_callP [1] rfl rfl (con) (fun pp hpp => ?_)) (nb rfl); refine jl_op (ow_move rfl ?_) (nb rfl)
      refine jl_op (ow_extract rfl rfl ?_) (nb rfl); refine jl_op (ow_extract rfl rfl ?_) (nb rfl); refine jl_op (ow_alloc rfl rfl (fun bl => ?_)) (nb rfl); refine jl_op0 (ow_storeAll 0 rfl rfl rfl rfl rfl rfl ?_)
      refine jl_op (ow_assign rfl ?_) (nb rfl); refine jl_nil ?_; refine jq_then ?_; refine jc_seq ?_; refine jc_seq ?_; refine jc_region ?_; refine jl_op (ow_assign rfl ?_) (nb rfl); refine jl_nil ?_; refine jq_then ?_
      refine jc_block ?_
      rename_i bR
      refine jc_loopS [] (LI l fr F k a r) (Lenv k b bR bl) (Lch l fr b bR bl) (Lmu l) (.inr (pp.1, pp.2, 0, code, p)) ⟨hpp.1, Nat.zero_le _, hpp.2, e⟩ ?_ ?_ ?_
      · refine sub_step 2 rfl ?_; refine sub_step 0 rfl ?_; refine sub_step 0 rfl ?_; exact sub_end
      · subst hk
        (repeat (first | exact True.intro | refine ⟨rfl, ?_⟩))
      · rintro (⟨t, c, m, n⟩ | ⟨c, d, n, code, p⟩) hI
        · obtain ⟨⟨hac, hcl⟩, hdep, hn, hm0, hm1, hI⟩ := hI
          refine jc_reset (Lenv k b bR bl (.inl (t, c, m, n))) [.blk bR 27 Z5, .blk bl 27 t.row', Rz b l c 0 0 fr] ?_ ⟨[0, 0, 0], [], rfl⟩ ?_
          · (repeat (first | exact True.intro | refine ⟨rfl, ?_⟩))
          cases ho : opAt l (opsL k) c with
          | none =>
            rw [sxp_none ho] at hI
            refine jc_seq ?_; refine jc_seq ?_; refine jc_region ?_; refine jl_op (ow_move rfl ?_) (nb rfl); refine jl_op (ow_move rfl ?_) (nb rfl); refine jl_op (ow_move rfl ?_) (nb rfl)
            refine jl_op (ow_call1 [2] rfl rfl (rnext_none hcl ho) ?_) (nb rfl); refine jl_op (ow_neq rfl rfl ?_) (nb rfl); refine jl_op (ow_move rfl ?_) (nb rfl); refine jl_guardN rfl rfl (nb rfl) ?_
            refine jl_guardN rfl rfl (nb rfl) ?_; refine jl_guardN rfl rfl (nb rfl) ?_; refine jl_guardU rfl (nb rfl) ?_; refine jl_guardU rfl (nb rfl) ?_; refine jl_guardN rfl rfl (nb rfl) ?_
            refine jl_op (ow_pickF rfl rfl rfl ?_) (nb rfl); refine jl_nil ?_; refine jq_then ?_; refine jc_condF rfl rfl ?_; refine jc_exit ?_; refine jq_then_exit ?_; refine jq_then_exit ?_; refine jq_block_exit ?_
            refine jq_then ?_; refine jc_seq ?_; refine jc_region ?_; refine jl_op (ow_loadAll 2 rfl rfl rfl rfl ?_) (nb rfl); refine jl_op (ow_move rfl ?_) (nb rfl); refine jl_op0 (ow_storeAll 1 rfl rfl rfl rfl rfl rfl ?_)
            refine jl_op (ow_assign rfl ?_) (nb rfl); refine jl_nil ?_; refine jq_then ?_; refine jc_ret ?_; refine jq_retRowT rfl rfl rfl rfl rfl 0 rfl (fun K h => by rw [hI] at h; exact h) ?_; refine sub_step 1 rfl ?_
            exact sub_end
          | some o =>
            have ho0 : ¬ o = 0 := opAt_pos ho
            have hlt := opAt_lt ho
            by_cases hstop : k = 0 ∧ n = 1
            · exact absurd hstop.1 (by omega)
            · have hm : 0 < m := by
                by_cases h0 : k = 0
                · have := hm0 h0; omega
                · have := hm1 h0; omega
              obtain ⟨m, rfl⟩ : ∃ m', m = m' + 1 := ⟨m - 1, by omega⟩
              have con2 := hG (c + 1) (by omega) (by unfold need; omega)
              rw [sxp, ho] at hI
              dsimp only at hI
              have hgo : k = 0 → n = 0 := fun h => by have := hm0 h; omega
              cases hr2 : sx fr l F (k + 1) (c + 1) with
              | er code2 p2 =>
                rw [hr2] at hI con2
                dsimp only at hI
                refine jc_seq ?_; refine jc_seq ?_; refine jc_region ?_; refine jl_op (ow_move rfl ?_) (nb rfl); refine jl_op (ow_move rfl ?_) (nb rfl); refine jl_op (ow_move rfl ?_) (nb rfl)
                refine jl_op (ow_call1 [2] rfl rfl (rnext_some hcl ho) ?_) (nb rfl); refine jl_op (ow_neq rfl rfl ?_) (nb rfl); refine jl_op (ow_move rfl ?_) (nb rfl)
                refine jl_guardY rfl (decide_eq_true (by assumption)) (nb rfl) (ow_move rfl ?_); refine jl_guardY rfl (decide_eq_true (by assumption)) (nb rfl) (ow_gtr rfl rfl ?_)
                refine jl_guardY rfl (decide_eq_true (by assumption)) (nb rfl) (ow_move rfl ?_); refine jl_guardN rfl (decide_eq_true (by omega)) (nb rfl) ?_; refine jl_guardN rfl (decide_eq_true (by omega)) (nb rfl) ?_
                refine jl_guardY rfl (decide_eq_true (by assumption)) (nb rfl) (ow_pickT rfl (decide_eq_true (by omega)) rfl ?_); refine jl_op (ow_pickT rfl (decide_eq_true (by assumption)) rfl ?_) (nb rfl); refine jl_nil ?_
                refine jq_then ?_; refine jc_condT rfl rfl ?_; refine jc_skip ?_; refine jq_then ?_; refine jc_seq ?_; refine jc_block ?_; refine jc_seq ?_; refine jc_region ?_; refine jl_op (ow_move rfl ?_) (nb rfl)
                refine jl_op (ow_move rfl ?_) (nb rfl); refine jl_op (ow_move rfl ?_) (nb rfl); refine jl_op (ow_call1 [0] rfl rfl (rnext_some hcl ho) ?_) (nb rfl); refine jl_op (ow_assign rfl ?_) (nb rfl); refine jl_nil ?_
                refine jq_then ?_; refine jc_seq ?_; refine jc_region ?_; refine jl_op (ow_move rfl ?_) (nb rfl); refine jl_op (ow_nilCheck rfl ?_) (nb rfl); refine jl_op (ow_fieldAddr rfl rfl rfl (nb rfl) ?_) (nb rfl)
                refine jl_op (ow_load 0 rfl rfl rfl rfl ?_) (nb rfl); refine jl_op (ow_add64 rfl rfl (by omega) ?_) (nb rfl); refine jl_op (ow_nilCheck rfl ?_) (nb rfl); refine jl_op (ow_fieldAddr rfl rfl rfl (nb rfl) ?_) (nb rfl)
                refine jl_op0 (ow_store1 0 rfl rfl rfl rfl (nb rfl) ?_); refine jl_nil ?_; refine jq_then ?_; refine jc_seq ?_; refine jc_region ?_; refine jl_op (ow_move rfl ?_) (nb rfl); refine jl_op (ow_move rfl ?_) (nb rfl)
                refine jl_op (ow_add64 rfl rfl (by omega) ?_) (nb rfl); refine jl_op (ow_callP [0] rfl rfl (con2) (fun pp hpp => ?_)) (nb rfl); refine jl_op (ow_move rfl ?_) (nb rfl); refine jl_op (ow_extract rfl rfl ?_) (nb rfl)
                refine jl_op (ow_extract rfl rfl ?_) (nb rfl); refine jl_op (ow_alloc rfl rfl (fun bl => ?_)) (nb rfl); refine jl_op0 (ow_storeAll 0 rfl rfl rfl rfl rfl rfl ?_); refine jl_op (ow_assign rfl ?_) (nb rfl)
                refine jl_nil ?_; refine jq_then ?_; refine jc_seq ?_; refine jc_region ?_; refine jl_op (ow_move rfl ?_) (nb rfl); refine jl_op (ow_move rfl ?_) (nb rfl); refine jl_op (ow_max2 rfl rfl ?_) (nb rfl)
                refine jl_op (ow_add rfl rfl ?_) (nb rfl); refine jl_op (ow_assign rfl ?_) (nb rfl); refine jl_nil ?_; refine jq_then ?_; refine jc_seq ?_; refine jc_region ?_; refine jl_op (ow_move rfl ?_) (nb rfl)
                refine jl_op (ow_move rfl ?_) (nb rfl); refine jl_op (ow_call1 [1] rfl rfl (rdeep_e hpp.2 (by omega) _) ?_) (nb rfl); refine jl_nil ?_; refine jq_then ?_; refine jc_region ?_; refine jl_op (ow_move rfl ?_) (nb rfl)
                refine jl_op (ow_loadAll 3 rfl rfl rfl rfl ?_) (nb rfl); refine jl_op (ow_loadAll 1 rfl rfl rfl rfl ?_) (nb rfl); refine jl_op (ow_buildSlice rfl rfl (nb rfl) rfl rfl (nb rfl) ?_) (nb rfl)
                refine jl_op (ow_build rfl rfl rfl rfl rfl ?_) (nb rfl); refine jl_op0 (ow_storeAll 3 rfl rfl rfl rfl rfl rfl ?_); refine jl_nil ?_; refine jq_block ?_; refine jq_then ?_; refine jc_region ?_
                refine jl_op (ow_move rfl ?_) (nb rfl); refine jl_op (ow_add64 rfl rfl (by omega) ?_) (nb rfl); refine jl_op (ow_assign rfl ?_) (nb rfl); refine jl_nil ?_; refine jq_row 0 A5 rfl ?_ ?_
                · (repeat (first | exact RowLe.nil | refine RowLe.cons (CLe.any _) ?_))
                refine jq_againS (i := (.inl (t, c, m + 1, n) : Lix)) ((.inr (pp.1, IntKind.i64.wrap (max (t.dep : Int) pp.2 + 1), n + 1, code2, p2) : Lix)) ⟨hpp.1, by omega, hpp.2, hI⟩ (Nat.succ_pos _) ?_ ?_
                · refine sub_step 3 rfl ?_; refine sub_step 0 rfl ?_; refine sub_step 0 rfl ?_; exact sub_end
                · (repeat (first | exact True.intro | refine ⟨rfl, ?_⟩))
              | ok y d2 =>
                have hbd2 := sx_bd _ _ _ _ _ hr2
                have hdep2 := sx_dep _ _ _ _ _ hr2
                have hd2 : ((T.bn o t y).dep : Int) = max (t.dep : Int) (y.dep : Int) + 1 := by simp only [T.dep]; omega
                rw [hr2] at hI con2
                dsimp only at hI
                by_cases hd : fr = false ∧ 8 < (T.bn o t y).dep
                · rw [dpR_er hd] at hI
                  dsimp only at hI
                  obtain ⟨hfr, hd⟩ := hd
                  have hd' : max (t.dep : Int) (y.dep : Int) + 1 > 8 := by omega
                  have hD := rdeep_n (b := b) (ln := 0) (a := d2) hl _ hd' (by omega) (by omega)
                  rw [← hfr] at hD
                  refine jc_seq ?_; refine jc_seq ?_; refine jc_region ?_; refine jl_op (ow_move rfl ?_) (nb rfl); refine jl_op (ow_move rfl ?_) (nb rfl); refine jl_op (ow_move rfl ?_) (nb rfl)
                  refine jl_op (ow_call1 [2] rfl rfl (rnext_some hcl ho) ?_) (nb rfl); refine jl_op (ow_neq rfl rfl ?_) (nb rfl); refine jl_op (ow_move rfl ?_) (nb rfl)
                  refine jl_guardY rfl (decide_eq_true (by assumption)) (nb rfl) (ow_move rfl ?_); refine jl_guardY rfl (decide_eq_true (by assumption)) (nb rfl) (ow_gtr rfl rfl ?_)
                  refine jl_guardY rfl (decide_eq_true (by assumption)) (nb rfl) (ow_move rfl ?_); refine jl_guardN rfl (decide_eq_true (by omega)) (nb rfl) ?_; refine jl_guardN rfl (decide_eq_true (by omega)) (nb rfl) ?_
                  refine jl_guardY rfl (decide_eq_true (by assumption)) (nb rfl) (ow_pickT rfl (decide_eq_true (by omega)) rfl ?_); refine jl_op (ow_pickT rfl (decide_eq_true (by assumption)) rfl ?_) (nb rfl); refine jl_nil ?_
                  refine jq_then ?_; refine jc_condT rfl rfl ?_; refine jc_skip ?_; refine jq_then ?_; refine jc_seq ?_; refine jc_block ?_; refine jc_seq ?_; refine jc_region ?_; refine jl_op (ow_move rfl ?_) (nb rfl)
                  refine jl_op (ow_move rfl ?_) (nb rfl); refine jl_op (ow_move rfl ?_) (nb rfl); refine jl_op (ow_call1 [0] rfl rfl (rnext_some hcl ho) ?_) (nb rfl); refine jl_op (ow_assign rfl ?_) (nb rfl); refine jl_nil ?_
                  refine jq_then ?_; refine jc_seq ?_; refine jc_region ?_; refine jl_op (ow_move rfl ?_) (nb rfl); refine jl_op (ow_nilCheck rfl ?_) (nb rfl); refine jl_op (ow_fieldAddr rfl rfl rfl (nb rfl) ?_) (nb rfl)
                  refine jl_op (ow_load 0 rfl rfl rfl rfl ?_) (nb rfl); refine jl_op (ow_add64 rfl rfl (by omega) ?_) (nb rfl); refine jl_op (ow_nilCheck rfl ?_) (nb rfl)
                  refine jl_op (ow_fieldAddr rfl rfl rfl (nb rfl) ?_) (nb rfl); refine jl_op0 (ow_store1 0 rfl rfl rfl rfl (nb rfl) ?_); refine jl_nil ?_; refine jq_then ?_; refine jc_seq ?_; refine jc_region ?_
                  refine jl_op (ow_move rfl ?_) (nb rfl); refine jl_op (ow_move rfl ?_) (nb rfl); refine jl_op (ow_add64 rfl rfl (by omega) ?_) (nb rfl); refine jl_op (ow_call1 [0] rfl rfl (con2) ?_) (nb rfl)
                  refine jl_op (ow_move rfl ?_) (nb rfl); refine jl_op (ow_extract rfl rfl ?_) (nb rfl); refine jl_op (ow_extract rfl rfl ?_) (nb rfl); refine jl_op (ow_alloc rfl rfl (fun bl => ?_)) (nb rfl)
                  refine jl_op0 (ow_storeAll 0 rfl rfl rfl rfl rfl rfl ?_); refine jl_op (ow_assign rfl ?_) (nb rfl); refine jl_nil ?_; refine jq_then ?_; refine jc_seq ?_; refine jc_region ?_
                  refine jl_op (ow_move rfl ?_) (nb rfl); refine jl_op (ow_move rfl ?_) (nb rfl); refine jl_op (ow_max2 rfl rfl ?_) (nb rfl); refine jl_op (ow_add64 rfl rfl (by omega) ?_) (nb rfl)
                  refine jl_op (ow_assign rfl ?_) (nb rfl); refine jl_nil ?_; refine jq_then ?_; refine jc_seq ?_; refine jc_region ?_; refine jl_op (ow_move rfl ?_) (nb rfl); refine jl_op (ow_move rfl ?_) (nb rfl)
                  refine jl_op (ow_call1 [1] rfl rfl (hD) ?_) (nb rfl); refine jl_nil ?_; refine jq_then ?_; refine jc_region ?_; refine jl_op (ow_move rfl ?_) (nb rfl); refine jl_op (ow_loadAll 3 rfl rfl rfl rfl ?_) (nb rfl)
                  refine jl_op (ow_loadAll 1 rfl rfl rfl rfl ?_) (nb rfl); refine jl_op (ow_buildSlice rfl rfl (nb rfl) rfl rfl (nb rfl) ?_) (nb rfl); refine jl_op (ow_build rfl rfl rfl rfl rfl ?_) (nb rfl)
                  refine jl_op0 (ow_storeAll 3 rfl rfl rfl rfl rfl rfl ?_); refine jl_nil ?_; refine jq_block ?_; refine jq_then ?_; refine jc_region ?_; refine jl_op (ow_move rfl ?_) (nb rfl)
                  refine jl_op (ow_add64 rfl rfl (by omega) ?_) (nb rfl); refine jl_op (ow_assign rfl ?_) (nb rfl); refine jl_nil ?_; refine jq_row 0 A5 rfl ?_ ?_
                  · (repeat (first | exact RowLe.nil | refine RowLe.cons (CLe.any _) ?_))
                  refine jq_againS (i := (.inl (t, c, m + 1, n) : Lix)) ((.inr (d2, max (t.dep : Int) (y.dep : Int) + 1, n + 1, 4, d2 - 1) : Lix)) ⟨by omega, by omega, by decide, hI⟩ (Nat.succ_pos _) ?_ ?_
                  · refine sub_step 3 rfl ?_; refine sub_step 0 rfl ?_; refine sub_step 0 rfl ?_; exact sub_end
                  · (repeat (first | exact True.intro | refine ⟨rfl, ?_⟩))
                · rw [dpR_ok hd] at hI
                  dsimp only at hI
                  have hd' : ¬ (fr = false ∧ max (t.dep : Int) (y.dep : Int) + 1 > 8) := fun hh => hd ⟨hh.1, by omega⟩
                  refine jc_seq ?_; refine jc_seq ?_; refine jc_region ?_; refine jl_op (ow_move rfl ?_) (nb rfl); refine jl_op (ow_move rfl ?_) (nb rfl); refine jl_op (ow_move rfl ?_) (nb rfl)
                  refine jl_op (ow_call1 [2] rfl rfl (rnext_some hcl ho) ?_) (nb rfl); refine jl_op (ow_neq rfl rfl ?_) (nb rfl); refine jl_op (ow_move rfl ?_) (nb rfl)
                  refine jl_guardY rfl (decide_eq_true (by assumption)) (nb rfl) (ow_move rfl ?_); refine jl_guardY rfl (decide_eq_true (by assumption)) (nb rfl) (ow_gtr rfl rfl ?_)
                  refine jl_guardY rfl (decide_eq_true (by assumption)) (nb rfl) (ow_move rfl ?_); refine jl_guardN rfl (decide_eq_true (by omega)) (nb rfl) ?_; refine jl_guardN rfl (decide_eq_true (by omega)) (nb rfl) ?_
                  refine jl_guardY rfl (decide_eq_true (by assumption)) (nb rfl) (ow_pickT rfl (decide_eq_true (by omega)) rfl ?_); refine jl_op (ow_pickT rfl (decide_eq_true (by assumption)) rfl ?_) (nb rfl); refine jl_nil ?_
                  refine jq_then ?_; refine jc_condT rfl rfl ?_; refine jc_skip ?_; refine jq_then ?_; refine jc_seq ?_; refine jc_block ?_; refine jc_seq ?_; refine jc_region ?_; refine jl_op (ow_move rfl ?_) (nb rfl)
                  refine jl_op (ow_move rfl ?_) (nb rfl); refine jl_op (ow_move rfl ?_) (nb rfl); refine jl_op (ow_call1 [0] rfl rfl (rnext_some hcl ho) ?_) (nb rfl); refine jl_op (ow_assign rfl ?_) (nb rfl); refine jl_nil ?_
                  refine jq_then ?_; refine jc_seq ?_; refine jc_region ?_; refine jl_op (ow_move rfl ?_) (nb rfl); refine jl_op (ow_nilCheck rfl ?_) (nb rfl); refine jl_op (ow_fieldAddr rfl rfl rfl (nb rfl) ?_) (nb rfl)
                  refine jl_op (ow_load 0 rfl rfl rfl rfl ?_) (nb rfl); refine jl_op (ow_add64 rfl rfl (by omega) ?_) (nb rfl); refine jl_op (ow_nilCheck rfl ?_) (nb rfl)
                  refine jl_op (ow_fieldAddr rfl rfl rfl (nb rfl) ?_) (nb rfl); refine jl_op0 (ow_store1 0 rfl rfl rfl rfl (nb rfl) ?_); refine jl_nil ?_; refine jq_then ?_; refine jc_seq ?_; refine jc_region ?_
                  refine jl_op (ow_move rfl ?_) (nb rfl); refine jl_op (ow_move rfl ?_) (nb rfl); refine jl_op (ow_add64 rfl rfl (by omega) ?_) (nb rfl); refine jl_op (ow_call1 [0] rfl rfl (con2) ?_) (nb rfl)
                  refine jl_op (ow_move rfl ?_) (nb rfl); refine jl_op (ow_extract rfl rfl ?_) (nb rfl); refine jl_op (ow_extract rfl rfl ?_) (nb rfl); refine jl_op (ow_alloc rfl rfl (fun bl => ?_)) (nb rfl)
                  refine jl_op0 (ow_storeAll 0 rfl rfl rfl rfl rfl rfl ?_); refine jl_op (ow_assign rfl ?_) (nb rfl); refine jl_nil ?_; refine jq_then ?_; refine jc_seq ?_; refine jc_region ?_
                  refine jl_op (ow_move rfl ?_) (nb rfl); refine jl_op (ow_move rfl ?_) (nb rfl); refine jl_op (ow_max2 rfl rfl ?_) (nb rfl); refine jl_op (ow_add64 rfl rfl (by omega) ?_) (nb rfl)
                  refine jl_op (ow_assign rfl ?_) (nb rfl); refine jl_nil ?_; refine jq_then ?_; refine jc_seq ?_; refine jc_region ?_; refine jl_op (ow_move rfl ?_) (nb rfl); refine jl_op (ow_move rfl ?_) (nb rfl)
                  refine jl_op (ow_call1 [1] rfl rfl (rdeep_y _ hd') ?_) (nb rfl); refine jl_nil ?_; refine jq_then ?_; refine jc_region ?_; refine jl_op (ow_move rfl ?_) (nb rfl)
                  refine jl_op (ow_loadAll 3 rfl rfl rfl rfl ?_) (nb rfl); refine jl_op (ow_loadAll 1 rfl rfl rfl rfl ?_) (nb rfl); refine jl_op (ow_buildSlice rfl rfl (nb rfl) rfl rfl (nb rfl) ?_) (nb rfl)
                  refine jl_op (ow_build rfl rfl rfl rfl rfl ?_) (nb rfl); refine jl_op0 (ow_storeAll 3 rfl rfl rfl rfl rfl rfl ?_); refine jl_nil ?_; refine jq_block ?_; refine jq_then ?_; refine jc_region ?_
                  refine jl_op (ow_move rfl ?_) (nb rfl); refine jl_op (ow_add64 rfl rfl (by omega) ?_) (nb rfl); refine jl_op (ow_assign rfl ?_) (nb rfl); refine jl_nil ?_; refine jq_row 0 (T.bn o t y).row' rfl ?_ ?_
                  · (repeat (first | exact RowLe.nil | refine RowLe.cons (CLe.refl _) ?_ | refine RowLe.cons CLe.nil ?_))
                    exact RowLe.cons (CLe.eq (by simp [T.row_eq, T.args])) .nil
                  refine jq_againS (i := (.inl (t, c, m + 1, n) : Lix)) ((.inl (T.bn o t y, d2, m, n + 1) : Lix)) ⟨⟨by omega, hbd2.2⟩, by omega, by omega, fun h => by have := hm0 h; omega, fun h => by have := hm1 h; omega, hI⟩ (by simp only [Lmu]; omega) ?_ ?_
                  · refine sub_step 3 rfl ?_; refine sub_step 0 rfl ?_; refine sub_step 0 rfl ?_; exact sub_end
                  · dsimp only [Lenv]
                    rw [hd2]
                    (repeat (first | exact True.intro | refine ⟨rfl, ?_⟩))
        · obtain ⟨hcl, hn, hc0, hI⟩ := hI
          refine jc_reset (Lenv k b bR bl (.inr (c, d, n, code, p))) [.blk bR 27 Z5, .blk bl 27 A5, Rz b l c (lineAt l p) code fr] ?_ ⟨[0, 0, 0], [], rfl⟩ ?_
          · (repeat (first | exact True.intro | refine ⟨rfl, ?_⟩))
          refine jc_seq ?_; refine jc_seq ?_; refine jc_region ?_; refine jl_op (ow_move rfl ?_) (nb rfl); refine jl_op (ow_move rfl ?_) (nb rfl); refine jl_op (ow_move rfl ?_) (nb rfl)
          refine jl_op (ow_call1 [2] rfl rfl (rnext_e hc0 _ _) ?_) (nb rfl); refine jl_op (ow_neq rfl rfl ?_) (nb rfl); refine jl_op (ow_move rfl ?_) (nb rfl); refine jl_guardN rfl rfl (nb rfl) ?_
          refine jl_guardN rfl rfl (nb rfl) ?_; refine jl_guardN rfl rfl (nb rfl) ?_; refine jl_guardU rfl (nb rfl) ?_; refine jl_guardU rfl (nb rfl) ?_; refine jl_guardN rfl rfl (nb rfl) ?_
          refine jl_op (ow_pickF rfl rfl rfl ?_) (nb rfl); refine jl_nil ?_; refine jq_then ?_; refine jc_condF rfl rfl ?_; refine jc_exit ?_; refine jq_then_exit ?_; refine jq_then_exit ?_; refine jq_block_exit ?_
          refine jq_then ?_; refine jc_seq ?_; refine jc_region ?_; refine jl_op (ow_loadAll 2 rfl rfl rfl rfl ?_) (nb rfl); refine jl_op (ow_move rfl ?_) (nb rfl); refine jl_op0 (ow_storeAll 1 rfl rfl rfl rfl rfl rfl ?_)
          refine jl_op (ow_assign rfl ?_) (nb rfl); refine jl_nil ?_; refine jq_then ?_; refine jc_ret ?_; refine jq_retRowT rfl rfl rfl rfl rfl 0 rfl (fun K h => by rw [hI] at h; exact h (c, d) ⟨hcl, hc0⟩) ?_
          refine sub_step 1 rfl ?_; exact sub_end
    | ok x c =>
      have hbd := sx_bd _ _ _ _ _ hs
      have hdep0 := sx_dep _ _ _ _ _ hs
      have e : r = sxp fr l (opsL k) (sx fr l F (k + 1)) (if k = 0 then 1 else F) x c := by rw [← hr, sx, if_neg (by omega), hs]
      rw [hs] at con
      refine jc_seq ?_; refine jc_region ?_; refine jl_op (ow_alloc rfl rfl (fun bl => ?_)) (nb rfl); refine jl_op (ow_assign rfl ?_) (nb rfl); refine jl_nil ?_; refine jq_then ?_; refine jc_seq ?_; refine jc_region ?_
      refine jl_op (ow_buildSlice rfl rfl (nb rfl) rfl rfl (nb rfl) ?_) (nb rfl); refine jl_op (ow_buildSlice rfl rfl (nb rfl) rfl rfl (nb rfl) ?_) (nb rfl); refine jl_op (ow_assign rfl ?_) (nb rfl)
      refine jl_op (ow_assign rfl ?_) (nb rfl); refine jl_nil ?_; refine jq_then ?_; refine jc_seq ?_; refine jc_seq ?_; refine jc_region ?_; refine jl_op (ow_move rfl ?_) (nb rfl); refine jl_nil ?_; refine jq_then ?_
      refine jc_block ?_; refine jc_seq ?_; refine jc_region ?_; refine jl_op (ow_eql rfl rfl ?_) (nb rfl); refine jl_op (ow_assign rfl ?_) (nb rfl); refine jl_nil ?_; refine jq_then ?_
      refine jc_condT rfl (decide_eq_true (by omega)) ?_; refine jc_region ?_; refine jl_op (ow_buildSlice rfl rfl (nb rfl) rfl rfl (nb rfl) ?_) (nb rfl); refine jl_op (ow_buildSlice rfl rfl (nb rfl) rfl rfl (nb rfl) ?_) (nb rfl)
      refine jl_op (ow_assign rfl ?_) (nb rfl); refine jl_op (ow_assign rfl ?_) (nb rfl); refine jl_nil ?_; refine jq_block ?_; refine jq_then ?_; refine jc_seq ?_; refine jc_region ?_; refine jl_op (ow_move rfl ?_) (nb rfl)
      refine jl_op (ow_move rfl ?_) (nb rfl); refine jl_op (ow_add64 rfl rfl (by omega) ?_) (nb rfl); refine jl_op (ow_call1 [1] rfl rfl (con) ?_) (nb rfl); refine jl_op (ow_move rfl ?_) (nb rfl)
      refine jl_op (ow_extract rfl rfl ?_) (nb rfl); refine jl_op (ow_extract rfl rfl ?_) (nb rfl); refine jl_op (ow_alloc rfl rfl (fun bl => ?_)) (nb rfl); refine jl_op0 (ow_storeAll 0 rfl rfl rfl rfl rfl rfl ?_)
      refine jl_op (ow_assign rfl ?_) (nb rfl); refine jl_nil ?_; refine jq_then ?_; refine jc_seq ?_; refine jc_seq ?_; refine jc_region ?_; refine jl_op (ow_assign rfl ?_) (nb rfl); refine jl_nil ?_; refine jq_then ?_
      refine jc_block ?_
      rename_i bR
      refine jc_loopS [] (LI l fr F k a r) (Lenv k b bR bl) (Lch l fr b bR bl) (Lmu l) (.inl (x, c, if k = 0 then 1 else F, 0)) ⟨⟨hbd.1, hbd.2⟩, hdep0, Nat.zero_le _, fun h => by rw [if_pos h], fun h => by rw [if_neg h]; omega, e⟩ ?_ ?_ ?_
      · refine sub_step 2 rfl ?_; refine sub_step 0 rfl ?_; refine sub_step 0 rfl ?_; exact sub_end
      · subst hk
        (repeat (first | exact True.intro | refine ⟨rfl, ?_⟩))
      · rintro (⟨t, c, m, n⟩ | ⟨c, d, n, code, p⟩) hI
        · obtain ⟨⟨hac, hcl⟩, hdep, hn, hm0, hm1, hI⟩ := hI
          refine jc_reset (Lenv k b bR bl (.inl (t, c, m, n))) [.blk bR 27 Z5, .blk bl 27 t.row', Rz b l c 0 0 fr] ?_ ⟨[0, 0, 0], [], rfl⟩ ?_
          · (repeat (first | exact True.intro | refine ⟨rfl, ?_⟩))
          cases ho : opAt l (opsL k) c with
          | none =>
            rw [sxp_none ho] at hI
            refine jc_seq ?_; refine jc_seq ?_; refine jc_region ?_; refine jl_op (ow_move rfl ?_) (nb rfl); refine jl_op (ow_move rfl ?_) (nb rfl); refine jl_op (ow_move rfl ?_) (nb rfl)
            refine jl_op (ow_call1 [2] rfl rfl (rnext_none hcl ho) ?_) (nb rfl); refine jl_op (ow_neq rfl rfl ?_) (nb rfl); refine jl_op (ow_move rfl ?_) (nb rfl); refine jl_guardN rfl rfl (nb rfl) ?_
            refine jl_guardN rfl rfl (nb rfl) ?_; refine jl_guardN rfl rfl (nb rfl) ?_; refine jl_guardU rfl (nb rfl) ?_; refine jl_guardU rfl (nb rfl) ?_; refine jl_guardN rfl rfl (nb rfl) ?_
            refine jl_op (ow_pickF rfl rfl rfl ?_) (nb rfl); refine jl_nil ?_; refine jq_then ?_; refine jc_condF rfl rfl ?_; refine jc_exit ?_; refine jq_then_exit ?_; refine jq_then_exit ?_; refine jq_block_exit ?_
            refine jq_then ?_; refine jc_seq ?_; refine jc_region ?_; refine jl_op (ow_loadAll 2 rfl rfl rfl rfl ?_) (nb rfl); refine jl_op (ow_move rfl ?_) (nb rfl); refine jl_op0 (ow_storeAll 1 rfl rfl rfl rfl rfl rfl ?_)
            refine jl_op (ow_assign rfl ?_) (nb rfl); refine jl_nil ?_; refine jq_then ?_; refine jc_ret ?_; refine jq_retRowT rfl rfl rfl rfl rfl 0 rfl (fun K h => by rw [hI] at h; exact h) ?_; refine sub_step 1 rfl ?_
            exact sub_end
          | some o =>
            have ho0 : ¬ o = 0 := opAt_pos ho
            have hlt := opAt_lt ho
            by_cases hstop : k = 0 ∧ n = 1
            · exact absurd hstop.1 (by omega)
            · have hm : 0 < m := by
                by_cases h0 : k = 0
                · have := hm0 h0; omega
                · have := hm1 h0; omega
              obtain ⟨m, rfl⟩ : ∃ m', m = m' + 1 := ⟨m - 1, by omega⟩
              have con2 := hG (c + 1) (by omega) (by unfold need; omega)
              rw [sxp, ho] at hI
              dsimp only at hI
              have hgo : k = 0 → n = 0 := fun h => by have := hm0 h; omega
              cases hr2 : sx fr l F (k + 1) (c + 1) with
              | er code2 p2 =>
                rw [hr2] at hI con2
                dsimp only at hI
                refine jc_seq ?_; refine jc_seq ?_; refine jc_region ?_; refine jl_op (ow_move rfl ?_) (nb rfl); refine jl_op (ow_move rfl ?_) (nb rfl); refine jl_op (ow_move rfl ?_) (nb rfl)
                refine jl_op (ow_call1 [2] rfl rfl (rnext_some hcl ho) ?_) (nb rfl); refine jl_op (ow_neq rfl rfl ?_) (nb rfl); refine jl_op (ow_move rfl ?_) (nb rfl)
                refine jl_guardY rfl (decide_eq_true (by assumption)) (nb rfl) (ow_move rfl ?_); refine jl_guardY rfl (decide_eq_true (by assumption)) (nb rfl) (ow_gtr rfl rfl ?_)
                refine jl_guardY rfl (decide_eq_true (by assumption)) (nb rfl) (ow_move rfl ?_); refine jl_guardN rfl (decide_eq_true (by omega)) (nb rfl) ?_; refine jl_guardN rfl (decide_eq_true (by omega)) (nb rfl) ?_
                refine jl_guardY rfl (decide_eq_true (by assumption)) (nb rfl) (ow_pickT rfl (decide_eq_true (by omega)) rfl ?_); refine jl_op (ow_pickT rfl (decide_eq_true (by assumption)) rfl ?_) (nb rfl); refine jl_nil ?_
                refine jq_then ?_; refine jc_condT rfl rfl ?_; refine jc_skip ?_; refine jq_then ?_; refine jc_seq ?_; refine jc_block ?_; refine jc_seq ?_; refine jc_region ?_; refine jl_op (ow_move rfl ?_) (nb rfl)
                refine jl_op (ow_move rfl ?_) (nb rfl); refine jl_op (ow_move rfl ?_) (nb rfl); refine jl_op (ow_call1 [0] rfl rfl (rnext_some hcl ho) ?_) (nb rfl); refine jl_op (ow_assign rfl ?_) (nb rfl); refine jl_nil ?_
                refine jq_then ?_; refine jc_seq ?_; refine jc_region ?_; refine jl_op (ow_move rfl ?_) (nb rfl); refine jl_op (ow_nilCheck rfl ?_) (nb rfl); refine jl_op (ow_fieldAddr rfl rfl rfl (nb rfl) ?_) (nb rfl)
                refine jl_op (ow_load 0 rfl rfl rfl rfl ?_) (nb rfl); refine jl_op (ow_add64 rfl rfl (by omega) ?_) (nb rfl); refine jl_op (ow_nilCheck rfl ?_) (nb rfl); refine jl_op (ow_fieldAddr rfl rfl rfl (nb rfl) ?_) (nb rfl)
                refine jl_op0 (ow_store1 0 rfl rfl rfl rfl (nb rfl) ?_); refine jl_nil ?_; refine jq_then ?_; refine jc_seq ?_; refine jc_region ?_; refine jl_op (ow_move rfl ?_) (nb rfl); refine jl_op (ow_move rfl ?_) (nb rfl)
                refine jl_op (ow_add64 rfl rfl (by omega) ?_) (nb rfl); refine jl_op (ow_callP [0] rfl rfl (con2) (fun pp hpp => ?_)) (nb rfl); refine jl_op (ow_move rfl ?_) (nb rfl); refine jl_op (ow_extract rfl rfl ?_) (nb rfl)
                refine jl_op (ow_extract rfl rfl ?_) (nb rfl); refine jl_op (ow_alloc rfl rfl (fun bl => ?_)) (nb rfl); refine jl_op0 (ow_storeAll 0 rfl rfl rfl rfl rfl rfl ?_); refine jl_op (ow_assign rfl ?_) (nb rfl)
                refine jl_nil ?_; refine jq_then ?_; refine jc_seq ?_; refine jc_region ?_; refine jl_op (ow_move rfl ?_) (nb rfl); refine jl_op (ow_move rfl ?_) (nb rfl); refine jl_op (ow_max2 rfl rfl ?_) (nb rfl)
                refine jl_op (ow_add rfl rfl ?_) (nb rfl); refine jl_op (ow_assign rfl ?_) (nb rfl); refine jl_nil ?_; refine jq_then ?_; refine jc_seq ?_; refine jc_region ?_; refine jl_op (ow_move rfl ?_) (nb rfl)
                refine jl_op (ow_move rfl ?_) (nb rfl); refine jl_op (ow_call1 [1] rfl rfl (rdeep_e hpp.2 (by omega) _) ?_) (nb rfl); refine jl_nil ?_; refine jq_then ?_; refine jc_region ?_; refine jl_op (ow_move rfl ?_) (nb rfl)
                refine jl_op (ow_loadAll 3 rfl rfl rfl rfl ?_) (nb rfl); refine jl_op (ow_loadAll 1 rfl rfl rfl rfl ?_) (nb rfl); refine jl_op (ow_buildSlice rfl rfl (nb rfl) rfl rfl (nb rfl) ?_) (nb rfl)
                refine jl_op (ow_build rfl rfl rfl rfl rfl ?_) (nb rfl); refine jl_op0 (ow_storeAll 3 rfl rfl rfl rfl rfl rfl ?_); refine jl_nil ?_; refine jq_block ?_; refine jq_then ?_; refine jc_region ?_
                refine jl_op (ow_move rfl ?_) (nb rfl); refine jl_op (ow_add64 rfl rfl (by omega) ?_) (nb rfl); refine jl_op (ow_assign rfl ?_) (nb rfl); refine jl_nil ?_; refine jq_row 0 A5 rfl ?_ ?_
                · (repeat (first | exact RowLe.nil | refine RowLe.cons (CLe.any _) ?_))
                refine jq_againS (i := (.inl (t, c, m + 1, n) : Lix)) ((.inr (pp.1, IntKind.i64.wrap (max (t.dep : Int) pp.2 + 1), n + 1, code2, p2) : Lix)) ⟨hpp.1, by omega, hpp.2, hI⟩ (Nat.succ_pos _) ?_ ?_
                · refine sub_step 3 rfl ?_; refine sub_step 0 rfl ?_; refine sub_step 0 rfl ?_; exact sub_end
                · (repeat (first | exact True.intro | refine ⟨rfl, ?_⟩))
              | ok y d2 =>
                have hbd2 := sx_bd _ _ _ _ _ hr2
                have hdep2 := sx_dep _ _ _ _ _ hr2
                have hd2 : ((T.bn o t y).dep : Int) = max (t.dep : Int) (y.dep : Int) + 1 := by simp only [T.dep]; omega
                rw [hr2] at hI con2
                dsimp only at hI
                by_cases hd : fr = false ∧ 8 < (T.bn o t y).dep
                · rw [dpR_er hd] at hI
                  dsimp only at hI
                  obtain ⟨hfr, hd⟩ := hd
                  have hd' : max (t.dep : Int) (y.dep : Int) + 1 > 8 := by omega
                  have hD := rdeep_n (b := b) (ln := 0) (a := d2) hl _ hd' (by omega) (by omega)
                  rw [← hfr] at hD
                  refine jc_seq ?_; refine jc_seq ?_; refine jc_region ?_; refine jl_op (ow_move rfl ?_) (nb rfl); refine jl_op (ow_move rfl ?_) (nb rfl); refine jl_op (ow_move rfl ?_) (nb rfl)
                  refine jl_op (ow_call1 [2] rfl rfl (rnext_some hcl ho) ?_) (nb rfl); refine jl_op (ow_neq rfl rfl ?_) (nb rfl); refine jl_op (ow_move rfl ?_) (nb rfl)
                  refine jl_guardY rfl (decide_eq_true (by assumption)) (nb rfl) (ow_move rfl ?_); refine jl_guardY rfl (decide_eq_true (by assumption)) (nb rfl) (ow_gtr rfl rfl ?_)
                  refine jl_guardY rfl (decide_eq_true (by assumption)) (nb rfl) (ow_move rfl ?_); refine jl_guardN rfl (decide_eq_true (by omega)) (nb rfl) ?_; refine jl_guardN rfl (decide_eq_true (by omega)) (nb rfl) ?_
                  refine jl_guardY rfl (decide_eq_true (by assumption)) (nb rfl) (ow_pickT rfl (decide_eq_true (by omega)) rfl ?_); refine jl_op (ow_pickT rfl (decide_eq_true (by assumption)) rfl ?_) (nb rfl); refine jl_nil ?_
                  refine jq_then ?_; refine jc_condT rfl rfl ?_; refine jc_skip ?_; refine jq_then ?_; refine jc_seq ?_; refine jc_block ?_; refine jc_seq ?_; refine jc_region ?_; refine jl_op (ow_move rfl ?_) (nb rfl)
                  refine jl_op (ow_move rfl ?_) (nb rfl); refine jl_op (ow_move rfl ?_) (nb rfl); refine jl_op (ow_call1 [0] rfl rfl (rnext_some hcl ho) ?_) (nb rfl); refine jl_op (ow_assign rfl ?_) (nb rfl); refine jl_nil ?_
                  refine jq_then ?_; refine jc_seq ?_; refine jc_region ?_; refine jl_op (ow_move rfl ?_) (nb rfl); refine jl_op (ow_nilCheck rfl ?_) (nb rfl); refine jl_op (ow_fieldAddr rfl rfl rfl (nb rfl) ?_) (nb rfl)
                  refine jl_op (ow_load 0 rfl rfl rfl rfl ?_) (nb rfl); refine jl_op (ow_add64 rfl rfl (by omega) ?_) (nb rfl); refine jl_op (ow_nilCheck rfl ?_) (nb rfl)
                  refine jl_op (ow_fieldAddr rfl rfl rfl (nb rfl) ?_) (nb rfl); refine jl_op0 (ow_store1 0 rfl rfl rfl rfl (nb rfl) ?_); refine jl_nil ?_; refine jq_then ?_; refine jc_seq ?_; refine jc_region ?_
                  refine jl_op (ow_move rfl ?_) (nb rfl); refine jl_op (ow_move rfl ?_) (nb rfl); refine jl_op (ow_add64 rfl rfl (by omega) ?_) (nb rfl); refine jl_op (ow_call1 [0] rfl rfl (con2) ?_) (nb rfl)
                  refine jl_op (ow_move rfl ?_) (nb rfl); refine jl_op (ow_extract rfl rfl ?_) (nb rfl); refine jl_op (ow_extract rfl rfl ?_) (nb rfl); refine jl_op (ow_alloc rfl rfl (fun bl => ?_)) (nb rfl)
                  refine jl_op0 (ow_storeAll 0 rfl rfl rfl rfl rfl rfl ?_); refine jl_op (ow_assign rfl ?_) (nb rfl); refine jl_nil ?_; refine jq_then ?_; refine jc_seq ?_; refine jc_region ?_
                  refine jl_op (ow_move rfl ?_) (nb rfl); refine jl_op (ow_move rfl ?_) (nb rfl); refine jl_op (ow_max2 rfl rfl ?_) (nb rfl); refine jl_op (ow_add64 rfl rfl (by omega) ?_) (nb rfl)
                  refine jl_op (ow_assign rfl ?_) (nb rfl); refine jl_nil ?_; refine jq_then ?_; refine jc_seq ?_; refine jc_region ?_; refine jl_op (ow_move rfl ?_) (nb rfl); refine jl_op (ow_move rfl ?_) (nb rfl)
                  refine jl_op (ow_call1 [1] rfl rfl (hD) ?_) (nb rfl); refine jl_nil ?_; refine jq_then ?_; refine jc_region ?_; refine jl_op (ow_move rfl ?_) (nb rfl); refine jl_op (ow_loadAll 3 rfl rfl rfl rfl ?_) (nb rfl)
                  refine jl_op (ow_loadAll 1 rfl rfl rfl rfl ?_) (nb rfl); refine jl_op (ow_buildSlice rfl rfl (nb rfl) rfl rfl (nb rfl) ?_) (nb rfl); refine jl_op (ow_build rfl rfl rfl rfl rfl ?_) (nb rfl)
                  refine jl_op0 (ow_storeAll 3 rfl rfl rfl rfl rfl rfl ?_); refine jl_nil ?_; refine jq_block ?_; refine jq_then ?_; refine jc_region ?_; refine jl_op (ow_move rfl ?_) (nb rfl)
                  refine jl_op (ow_add64 rfl rfl (by omega) ?_) (nb rfl); refine jl_op (ow_assign rfl ?_) (nb rfl); refine jl_nil ?_; refine jq_row 0 A5 rfl ?_ ?_
                  · (repeat (first | exact RowLe.nil | refine RowLe.cons (CLe.any _) ?_))
                  refine jq_againS (i := (.inl (t, c, m + 1, n) : Lix)) ((.inr (d2, max (t.dep : Int) (y.dep : Int) + 1, n + 1, 4, d2 - 1) : Lix)) ⟨by omega, by omega, by decide, hI⟩ (Nat.succ_pos _) ?_ ?_
                  · refine sub_step 3 rfl ?_; refine sub_step 0 rfl ?_; refine sub_step 0 rfl ?_; exact sub_end
                  · (repeat (first | exact True.intro | refine ⟨rfl, ?_⟩))
                · rw [dpR_ok hd] at hI
                  dsimp only at hI
                  have hd' : ¬ (fr = false ∧ max (t.dep : Int) (y.dep : Int) + 1 > 8) := fun hh => hd ⟨hh.1, by omega⟩
                  refine jc_seq ?_; refine jc_seq ?_; refine jc_region ?_; refine jl_op (ow_move rfl ?_) (nb rfl); refine jl_op (ow_move rfl ?_) (nb rfl); refine jl_op (ow_move rfl ?_) (nb rfl)
                  refine jl_op (ow_call1 [2] rfl rfl (rnext_some hcl ho) ?_) (nb rfl); refine jl_op (ow_neq rfl rfl ?_) (nb rfl); refine jl_op (ow_move rfl ?_) (nb rfl)
                  refine jl_guardY rfl (decide_eq_true (by assumption)) (nb rfl) (ow_move rfl ?_); refine jl_guardY rfl (decide_eq_true (by assumption)) (nb rfl) (ow_gtr rfl rfl ?_)
                  refine jl_guardY rfl (decide_eq_true (by assumption)) (nb rfl) (ow_move rfl ?_); refine jl_guardN rfl (decide_eq_true (by omega)) (nb rfl) ?_; refine jl_guardN rfl (decide_eq_true (by omega)) (nb rfl) ?_
                  refine jl_guardY rfl (decide_eq_true (by assumption)) (nb rfl) (ow_pickT rfl (decide_eq_true (by omega)) rfl ?_); refine jl_op (ow_pickT rfl (decide_eq_true (by assumption)) rfl ?_) (nb rfl); refine jl_nil ?_
                  refine jq_then ?_; refine jc_condT rfl rfl ?_; refine jc_skip ?_; refine jq_then ?_; refine jc_seq ?_; refine jc_block ?_; refine jc_seq ?_; refine jc_region ?_; refine jl_op (ow_move rfl ?_) (nb rfl)
                  refine jl_op (ow_move rfl ?_) (nb rfl); refine jl_op (ow_move rfl ?_) (nb rfl); refine jl_op (ow_call1 [0] rfl rfl (rnext_some hcl ho) ?_) (nb rfl); refine jl_op (ow_assign rfl ?_) (nb rfl); refine jl_nil ?_
                  refine jq_then ?_; refine jc_seq ?_; refine jc_region ?_; refine jl_op (ow_move rfl ?_) (nb rfl); refine jl_op (ow_nilCheck rfl ?_) (nb rfl); refine jl_op (ow_fieldAddr rfl rfl rfl (nb rfl) ?_) (nb rfl)
                  refine jl_op (ow_load 0 rfl rfl rfl rfl ?_) (nb rfl); refine jl_op (ow_add64 rfl rfl (by omega) ?_) (nb rfl); refine jl_op (ow_nilCheck rfl ?_) (nb rfl)
                  refine jl_op (ow_fieldAddr rfl rfl rfl (nb rfl) ?_) (nb rfl); refine jl_op0 (ow_store1 0 rfl rfl rfl rfl (nb rfl) ?_); refine jl_nil ?_; refine jq_then ?_; refine jc_seq ?_; refine jc_region ?_
                  refine jl_op (ow_move rfl ?_) (nb rfl); refine jl_op (ow_move rfl ?_) (nb rfl); refine jl_op (ow_add64 rfl rfl (by omega) ?_) (nb rfl); refine jl_op (ow_call1 [0] rfl rfl (con2) ?_) (nb rfl)
                  refine jl_op (ow_move rfl ?_) (nb rfl); refine jl_op (ow_extract rfl rfl ?_) (nb rfl); refine jl_op (ow_extract rfl rfl ?_) (nb rfl); refine jl_op (ow_alloc rfl rfl (fun bl => ?_)) (nb rfl)
                  refine jl_op0 (ow_storeAll 0 rfl rfl rfl rfl rfl rfl ?_); refine jl_op (ow_assign rfl ?_) (nb rfl); refine jl_nil ?_; refine jq_then ?_; refine jc_seq ?_; refine jc_region ?_
                  refine jl_op (ow_move rfl ?_) (nb rfl); refine jl_op (ow_move rfl ?_) (nb rfl); refine jl_op (ow_max2 rfl rfl ?_) (nb rfl); refine jl_op (ow_add64 rfl rfl (by omega) ?_) (nb rfl)
                  refine jl_op (ow_assign rfl ?_) (nb rfl); refine jl_nil ?_; refine jq_then ?_; refine jc_seq ?_; refine jc_region ?_; refine jl_op (ow_move rfl ?_) (nb rfl); refine jl_op (ow_move rfl ?_) (nb rfl)
                  refine jl_op (ow_call1 [1] rfl rfl (rdeep_y _ hd') ?_) (nb rfl); refine jl_nil ?_; refine jq_then ?_; refine jc_region ?_; refine jl_op (ow_move rfl ?_) (nb rfl)
                  refine jl_op (ow_loadAll 3 rfl rfl rfl rfl ?_) (nb rfl); refine jl_op (ow_loadAll 1 rfl rfl rfl rfl ?_) (nb rfl); refine jl_op (ow_buildSlice rfl rfl (nb rfl) rfl rfl (nb rfl) ?_) (nb rfl)
                  refine jl_op (ow_build rfl rfl rfl rfl rfl ?_) (nb rfl); refine jl_op0 (ow_storeAll 3 rfl rfl rfl rfl rfl rfl ?_); refine jl_nil ?_; refine jq_block ?_; refine jq_then ?_; refine jc_region ?_
                  refine jl_op (ow_move rfl ?_) (nb rfl); refine jl_op (ow_add64 rfl rfl (by omega) ?_) (nb rfl); refine jl_op (ow_assign rfl ?_) (nb rfl); refine jl_nil ?_; refine jq_row 0 (T.bn o t y).row' rfl ?_ ?_
                  · (repeat (first | exact RowLe.nil | refine RowLe.cons (CLe.refl _) ?_ | refine RowLe.cons CLe.nil ?_))
                    exact RowLe.cons (CLe.eq (by simp [T.row_eq, T.args])) .nil
                  refine jq_againS (i := (.inl (t, c, m + 1, n) : Lix)) ((.inl (T.bn o t y, d2, m, n + 1) : Lix)) ⟨⟨by omega, hbd2.2⟩, by omega, by omega, fun h => by have := hm0 h; omega, fun h => by have := hm1 h; omega, hI⟩ (by simp only [Lmu]; omega) ?_ ?_
                  · refine sub_step 3 rfl ?_; refine sub_step 0 rfl ?_; refine sub_step 0 rfl ?_; exact sub_end
                  · dsimp only [Lenv]
                    rw [hd2]
                    (repeat (first | exact True.intro | refine ⟨rfl, ?_⟩))
        · obtain ⟨hcl, hn, hc0, hI⟩ := hI
          refine jc_reset (Lenv k b bR bl (.inr (c, d, n, code, p))) [.blk bR 27 Z5, .blk bl 27 A5, Rz b l c (lineAt l p) code fr] ?_ ⟨[0, 0, 0], [], rfl⟩ ?_
          · (repeat (first | exact True.intro | refine ⟨rfl, ?_⟩))
          refine jc_seq ?_; refine jc_seq ?_; refine jc_region ?_; refine jl_op (ow_move rfl ?_) (nb rfl); refine jl_op (ow_move rfl ?_) (nb rfl); refine jl_op (ow_move rfl ?_) (nb rfl)
          refine jl_op (ow_call1 [2] rfl rfl (rnext_e hc0 _ _) ?_) (nb rfl); refine jl_op (ow_neq rfl rfl ?_) (nb rfl); refine jl_op (ow_move rfl ?_) (nb rfl); refine jl_guardN rfl rfl (nb rfl) ?_
          refine jl_guardN rfl rfl (nb rfl) ?_; refine jl_guardN rfl rfl (nb rfl) ?_; refine jl_guardU rfl (nb rfl) ?_; refine jl_guardU rfl (nb rfl) ?_; refine jl_guardN rfl rfl (nb rfl) ?_
          refine jl_op (ow_pickF rfl rfl rfl ?_) (nb rfl); refine jl_nil ?_; refine jq_then ?_; refine jc_condF rfl rfl ?_; refine jc_exit ?_; refine jq_then_exit ?_; refine jq_then_exit ?_; refine jq_block_exit ?_
          refine jq_then ?_; refine jc_seq ?_; refine jc_region ?_; refine jl_op (ow_loadAll 2 rfl rfl rfl rfl ?_) (nb rfl); refine jl_op (ow_move rfl ?_) (nb rfl); refine jl_op0 (ow_storeAll 1 rfl rfl rfl rfl rfl rfl ?_)
          refine jl_op (ow_assign rfl ?_) (nb rfl); refine jl_nil ?_; refine jq_then ?_; refine jc_ret ?_; refine jq_retRowT rfl rfl rfl rfl rfl 0 rfl (fun K h => by rw [hI] at h; exact h (c, d) ⟨hcl, hc0⟩) ?_
          refine sub_step 1 rfl ?_; exact sub_end
  · cases hs : sx fr l F (k + 1) a with
    | er code p =>
      have e : r = .er code p := by rw [← hr, sx, if_neg (by omega), hs]
      rw [hs] at con
      refine jc_seq ?_; refine jc_region ?_; refine jl_op (ow_alloc rfl rfl (fun bl => ?_)) (nb rfl); refine jl_op (ow_assign rfl ?_) (nb rfl); refine jl_nil ?_; refine jq_then ?_; refine jc_seq ?_; refine jc_region ?_
      refine jl_op (ow_buildSlice rfl rfl (nb rfl) rfl rfl (nb rfl) ?_) (nb rfl); refine jl_op (ow_buildSlice rfl rfl (nb rfl) rfl rfl (nb rfl) ?_) (nb rfl); refine jl_op (ow_assign rfl ?_) (nb rfl)
      refine jl_op (ow_assign rfl ?_) (nb rfl); refine jl_nil ?_; refine jq_then ?_; refine jc_seq ?_; refine jc_seq ?_; refine jc_region ?_; refine jl_op (ow_move rfl ?_) (nb rfl); refine jl_nil ?_; refine jq_then ?_
      refine jc_block ?_; refine jc_seq ?_; refine jc_region ?_; refine jl_op (ow_eql rfl rfl ?_) (nb rfl); refine jl_op (ow_assign rfl ?_) (nb rfl); refine jl_nil ?_; refine jq_then ?_
      refine jc_condF rfl (decide_eq_false (by omega)) ?_; refine jc_seq ?_; refine jc_region ?_; refine jl_op (ow_eql rfl rfl ?_) (nb rfl); refine jl_op (ow_assign rfl ?_) (nb rfl); refine jl_nil ?_; refine jq_then ?_
      refine jc_condT rfl (decide_eq_true (by omega)) ?_; refine jc_region ?_; refine jl_op (ow_buildSlice rfl rfl (nb rfl) rfl rfl (nb rfl) ?_) (nb rfl); refine jl_op (ow_buildSlice rfl rfl (nb rfl) rfl rfl (nb rfl) ?_) (nb rfl)
      refine jl_op (ow_assign rfl ?_) (nb rfl); refine jl_op (ow_assign rfl ?_) (nb rfl); refine jl_nil ?_; refine jq_block ?_; refine jq_then ?_; refine jc_seq ?_; refine jc_region ?_; refine jl_op (ow_move rfl ?_) (nb rfl)
      refine jl_op (ow_move rfl ?_) (nb rfl); refine jl_op (ow_add64 rfl rfl (by omega) ?_) (nb rfl); refine jl_op (ow_callP [1] rfl rfl (con) (fun pp hpp => ?_)) (nb rfl); refine jl_op (ow_move rfl ?_) (nb rfl)
      refine jl_op (ow_extract rfl rfl ?_) (nb rfl); refine jl_op (ow_extract rfl rfl ?_) (nb rfl); refine jl_op (ow_alloc rfl rfl (fun bl => ?_)) (nb rfl); refine jl_op0 (ow_storeAll 0 rfl rfl rfl rfl rfl rfl ?_)
      refine jl_op (ow_assign rfl ?_) (nb rfl); refine jl_nil ?_; refine jq_then ?_; refine jc_seq ?_; refine jc_seq ?_; refine jc_region ?_; refine jl_op (ow_assign rfl ?_) (nb rfl); refine jl_nil ?_; refine jq_then ?_
      refine jc_block ?_
      rename_i bR
      refine jc_loopS [] (LI l fr F k a r) (Lenv k b bR bl) (Lch l fr b bR bl) (Lmu l) (.inr (pp.1, pp.2, 0, code, p)) ⟨hpp.1, Nat.zero_le _, hpp.2, e⟩ ?_ ?_ ?_
      · refine sub_step 2 rfl ?_; refine sub_step 0 rfl ?_; refine sub_step 0 rfl ?_; exact sub_end
      · subst hk
        (repeat (first | exact True.intro | refine ⟨rfl, ?_⟩))
      · rintro (⟨t, c, m, n⟩ | ⟨c, d, n, code, p⟩) hI
        · obtain ⟨⟨hac, hcl⟩, hdep, hn, hm0, hm1, hI⟩ := hI
          refine jc_reset (Lenv k b bR bl (.inl (t, c, m, n))) [.blk bR 27 Z5, .blk bl 27 t.row', Rz b l c 0 0 fr] ?_ ⟨[0, 0, 0], [], rfl⟩ ?_
          · (repeat (first | exact True.intro | refine ⟨rfl, ?_⟩))
          cases ho : opAt l (opsL k) c with
          | none =>
            rw [sxp_none ho] at hI
            refine jc_seq ?_; refine jc_seq ?_; refine jc_region ?_; refine jl_op (ow_move rfl ?_) (nb rfl); refine jl_op (ow_move rfl ?_) (nb rfl); refine jl_op (ow_move rfl ?_) (nb rfl)
            refine jl_op (ow_call1 [2] rfl rfl (rnext_none hcl ho) ?_) (nb rfl); refine jl_op (ow_neq rfl rfl ?_) (nb rfl); refine jl_op (ow_move rfl ?_) (nb rfl); refine jl_guardN rfl rfl (nb rfl) ?_
            refine jl_guardN rfl rfl (nb rfl) ?_; refine jl_guardN rfl rfl (nb rfl) ?_; refine jl_guardU rfl (nb rfl) ?_; refine jl_guardU rfl (nb rfl) ?_; refine jl_guardN rfl rfl (nb rfl) ?_
            refine jl_op (ow_pickF rfl rfl rfl ?_) (nb rfl); refine jl_nil ?_; refine jq_then ?_; refine jc_condF rfl rfl ?_; refine jc_exit ?_; refine jq_then_exit ?_; refine jq_then_exit ?_; refine jq_block_exit ?_
            refine jq_then ?_; refine jc_seq ?_; refine jc_region ?_; refine jl_op (ow_loadAll 2 rfl rfl rfl rfl ?_) (nb rfl); refine jl_op (ow_move rfl ?_) (nb rfl); refine jl_op0 (ow_storeAll 1 rfl rfl rfl rfl rfl rfl ?_)
            refine jl_op (ow_assign rfl ?_) (nb rfl); refine jl_nil ?_; refine jq_then ?_; refine jc_ret ?_; refine jq_retRowT rfl rfl rfl rfl rfl 0 rfl (fun K h => by rw [hI] at h; exact h) ?_; refine sub_step 1 rfl ?_
            exact sub_end
          | some o =>
            have ho0 : ¬ o = 0 := opAt_pos ho
            have hlt := opAt_lt ho
            by_cases hstop : k = 0 ∧ n = 1
            · exact absurd hstop.1 (by omega)
            · have hm : 0 < m := by
                by_cases h0 : k = 0
                · have := hm0 h0; omega
                · have := hm1 h0; omega
              obtain ⟨m, rfl⟩ : ∃ m', m = m' + 1 := ⟨m - 1, by omega⟩
              have con2 := hG (c + 1) (by omega) (by unfold need; omega)
              rw [sxp, ho] at hI
              dsimp only at hI
              have hgo : k = 0 → n = 0 := fun h => by have := hm0 h; omega
              cases hr2 : sx fr l F (k + 1) (c + 1) with
              | er code2 p2 =>
                rw [hr2] at hI con2
                dsimp only at hI
                refine jc_seq ?_; refine jc_seq ?_; refine jc_region ?_; refine jl_op (ow_move rfl ?_) (nb rfl); refine jl_op (ow_move rfl ?_) (nb rfl); refine jl_op (ow_move rfl ?_) (nb rfl)
                refine jl_op (ow_call1 [2] rfl rfl (rnext_some hcl ho) ?_) (nb rfl); refine jl_op (ow_neq rfl rfl ?_) (nb rfl); refine jl_op (ow_move rfl ?_) (nb rfl)
                refine jl_guardY rfl (decide_eq_true (by assumption)) (nb rfl) (ow_move rfl ?_); refine jl_guardY rfl (decide_eq_true (by assumption)) (nb rfl) (ow_gtr rfl rfl ?_)
                refine jl_guardY rfl (decide_eq_true (by assumption)) (nb rfl) (ow_move rfl ?_); refine jl_guardN rfl (decide_eq_true (by omega)) (nb rfl) ?_; refine jl_guardN rfl (decide_eq_true (by omega)) (nb rfl) ?_
                refine jl_guardY rfl (decide_eq_true (by assumption)) (nb rfl) (ow_pickT rfl (decide_eq_true (by omega)) rfl ?_); refine jl_op (ow_pickT rfl (decide_eq_true (by assumption)) rfl ?_) (nb rfl); refine jl_nil ?_
                refine jq_then ?_; refine jc_condT rfl rfl ?_; refine jc_skip ?_; refine jq_then ?_; refine jc_seq ?_; refine jc_block ?_; refine jc_seq ?_; refine jc_region ?_; refine jl_op (ow_move rfl ?_) (nb rfl)
                refine jl_op (ow_move rfl ?_) (nb rfl); refine jl_op (ow_move rfl ?_) (nb rfl); refine jl_op (ow_call1 [0] rfl rfl (rnext_some hcl ho) ?_) (nb rfl); refine jl_op (ow_assign rfl ?_) (nb rfl); refine jl_nil ?_
                refine jq_then ?_; refine jc_seq ?_; refine jc_region ?_; refine jl_op (ow_move rfl ?_) (nb rfl); refine jl_op (ow_nilCheck rfl ?_) (nb rfl); refine jl_op (ow_fieldAddr rfl rfl rfl (nb rfl) ?_) (nb rfl)
                refine jl_op (ow_load 0 rfl rfl rfl rfl ?_) (nb rfl); refine jl_op (ow_add64 rfl rfl (by omega) ?_) (nb rfl); refine jl_op (ow_nilCheck rfl ?_) (nb rfl); refine jl_op (ow_fieldAddr rfl rfl rfl (nb rfl) ?_) (nb rfl)
                refine jl_op0 (ow_store1 0 rfl rfl rfl rfl (nb rfl) ?_); refine jl_nil ?_; refine jq_then ?_; refine jc_seq ?_; refine jc_region ?_; refine jl_op (ow_move rfl ?_) (nb rfl); refine jl_op (ow_move rfl ?_) (nb rfl)
                refine jl_op (ow_add64 rfl rfl (by omega) ?_) (nb rfl); refine jl_op (ow_callP [0] rfl rfl (con2) (fun pp hpp => ?_)) (nb rfl); refine jl_op (ow_move rfl ?_) (nb rfl); refine jl_op (ow_extract rfl rfl ?_) (nb rfl)
                refine jl_op (ow_extract rfl rfl ?_) (nb rfl); refine jl_op (ow_alloc rfl rfl (fun bl => ?_)) (nb rfl); refine jl_op0 (ow_storeAll 0 rfl rfl rfl rfl rfl rfl ?_); refine jl_op (ow_assign rfl ?_) (nb rfl)
                refine jl_nil ?_; refine jq_then ?_; refine jc_seq ?_; refine jc_region ?_; refine jl_op (ow_move rfl ?_) (nb rfl); refine jl_op (ow_move rfl ?_) (nb rfl); refine jl_op (ow_max2 rfl rfl ?_) (nb rfl)
                refine jl_op (ow_add rfl rfl ?_) (nb rfl); refine jl_op (ow_assign rfl ?_) (nb rfl); refine jl_nil ?_; refine jq_then ?_; refine jc_seq ?_; refine jc_region ?_; refine jl_op (ow_move rfl ?_) (nb rfl)
                refine jl_op (ow_move rfl ?_) (nb rfl); refine jl_op (ow_call1 [1] rfl rfl (rdeep_e hpp.2 (by omega) _) ?_) (nb rfl); refine jl_nil ?_; refine jq_then ?_; refine jc_region ?_; refine jl_op (ow_move rfl ?_) (nb rfl)
                refine jl_op (ow_loadAll 3 rfl rfl rfl rfl ?_) (nb rfl); refine jl_op (ow_loadAll 1 rfl rfl rfl rfl ?_) (nb rfl); refine jl_op (ow_buildSlice rfl rfl (nb rfl) rfl rfl (nb rfl) ?_) (nb rfl)
                refine jl_op (ow_build rfl rfl rfl rfl rfl ?_) (nb rfl); refine jl_op0 (ow_storeAll 3 rfl rfl rfl rfl rfl rfl ?_); refine jl_nil ?_; refine jq_block ?_; refine jq_then ?_; refine jc_region ?_
                refine jl_op (ow_move rfl ?_) (nb rfl); refine jl_op (ow_add64 rfl rfl (by omega) ?_) (nb rfl); refine jl_op (ow_assign rfl ?_) (nb rfl); refine jl_nil ?_; refine jq_row 0 A5 rfl ?_ ?_
                · (repeat (first | exact RowLe.nil | refine RowLe.cons (CLe.any _) ?_))
                refine jq_againS (i := (.inl (t, c, m + 1, n) : Lix)) ((.inr (pp.1, IntKind.i64.wrap (max (t.dep : Int) pp.2 + 1), n + 1, code2, p2) : Lix)) ⟨hpp.1, by omega, hpp.2, hI⟩ (Nat.succ_pos _) ?_ ?_
                · refine sub_step 3 rfl ?_; refine sub_step 0 rfl ?_; refine sub_step 0 rfl ?_; exact sub_end
                · (repeat (first | exact True.intro | refine ⟨rfl, ?_⟩))
              | ok y d2 =>
                have hbd2 := sx_bd _ _ _ _ _ hr2
                have hdep2 := sx_dep _ _ _ _ _ hr2
                have hd2 : ((T.bn o t y).dep : Int) = max (t.dep : Int) (y.dep : Int) + 1 := by simp only [T.dep]; omega
                rw [hr2] at hI con2
                dsimp only at hI
                by_cases hd : fr = false ∧ 8 < (T.bn o t y).dep
                · rw [dpR_er hd] at hI
                  dsimp only at hI
                  obtain ⟨hfr, hd⟩ := hd
                  have hd' : max (t.dep : Int) (y.dep : Int) + 1 > 8 := by omega
                  have hD := rdeep_n (b := b) (ln := 0) (a := d2) hl _ hd' (by omega) (by omega)
                  rw [← hfr] at hD
                  refine jc_seq ?_; refine jc_seq ?_; refine jc_region ?_; refine jl_op (ow_move rfl ?_) (nb rfl); refine jl_op (ow_move rfl ?_) (nb rfl); refine jl_op (ow_move rfl ?_) (nb rfl)
                  refine jl_op (ow_call1 [2] rfl rfl (rnext_some hcl ho) ?_) (nb rfl); refine jl_op (ow_neq rfl rfl ?_) (nb rfl); refine jl_op (ow_move rfl ?_) (nb rfl)
                  refine jl_guardY rfl (decide_eq_true (by assumption)) (nb rfl) (ow_move rfl ?_); refine jl_guardY rfl (decide_eq_true (by assumption)) (nb rfl) (ow_gtr rfl rfl ?_)
                  refine jl_guardY rfl (decide_eq_true (by assumption)) (nb rfl) (ow_move rfl ?_); refine jl_guardN rfl (decide_eq_true (by omega)) (nb rfl) ?_; refine jl_guardN rfl (decide_eq_true (by omega)) (nb rfl) ?_
                  refine jl_guardY rfl (decide_eq_true (by assumption)) (nb rfl) (ow_pickT rfl (decide_eq_true (by omega)) rfl ?_); refine jl_op (ow_pickT rfl (decide_eq_true (by assumption)) rfl ?_) (nb rfl); refine jl_nil ?_
                  refine jq_then ?_; refine jc_condT rfl rfl ?_; refine jc_skip ?_; refine jq_then ?_; refine jc_seq ?_; refine jc_block ?_; refine jc_seq ?_; refine jc_region ?_; refine jl_op (ow_move rfl ?_) (nb rfl)
                  refine jl_op (ow_move rfl ?_) (nb rfl); refine jl_op (ow_move rfl ?_) (nb rfl); refine jl_op (ow_call1 [0] rfl rfl (rnext_some hcl ho) ?_) (nb rfl); refine jl_op (ow_assign rfl ?_) (nb rfl); refine jl_nil ?_
                  refine jq_then ?_; refine jc_seq ?_; refine jc_region ?_; refine jl_op (ow_move rfl ?_) (nb rfl); refine jl_op (ow_nilCheck rfl ?_) (nb rfl); refine jl_op (ow_fieldAddr rfl rfl rfl (nb rfl) ?_) (nb rfl)
                  refine jl_op (ow_load 0 rfl rfl rfl rfl ?_) (nb rfl); refine jl_op (ow_add64 rfl rfl (by omega) ?_) (nb rfl); refine jl_op (ow_nilCheck rfl ?_) (nb rfl)
                  refine jl_op (ow_fieldAddr rfl rfl rfl (nb rfl) ?_) (nb rfl); refine jl_op0 (ow_store1 0 rfl rfl rfl rfl (nb rfl) ?_); refine jl_nil ?_; refine jq_then ?_; refine jc_seq ?_; refine jc_region ?_
                  refine jl_op (ow_move rfl ?_) (nb rfl); refine jl_op (ow_move rfl ?_) (nb rfl); refine jl_op (ow_add64 rfl rfl (by omega) ?_) (nb rfl); refine jl_op (ow_call1 [0] rfl rfl (con2) ?_) (nb rfl)
                  refine jl_op (ow_move rfl ?_) (nb rfl); refine jl_op (ow_extract rfl rfl ?_) (nb rfl); refine jl_op (ow_extract rfl rfl ?_) (nb rfl); refine jl_op (ow_alloc rfl rfl (fun bl => ?_)) (nb rfl)
                  refine jl_op0 (ow_storeAll 0 rfl rfl rfl rfl rfl rfl ?_); refine jl_op (ow_assign rfl ?_) (nb rfl); refine jl_nil ?_; refine jq_then ?_; refine jc_seq ?_; refine jc_region ?_
                  refine jl_op (ow_move rfl ?_) (nb rfl); refine jl_op (ow_move rfl ?_) (nb rfl); refine jl_op (ow_max2 rfl rfl ?_) (nb rfl); refine jl_op (ow_add64 rfl rfl (by omega) ?_) (nb rfl)
                  refine jl_op (ow_assign rfl ?_) (nb rfl); refine jl_nil ?_; refine jq_then ?_; refine jc_seq ?_; refine jc_region ?_; refine jl_op (ow_move rfl ?_) (nb rfl); refine jl_op (ow_move rfl ?_) (nb rfl)
                  refine jl_op (ow_call1 [1] rfl rfl (hD) ?_) (nb rfl); refine jl_nil ?_; refine jq_then ?_; refine jc_region ?_; refine jl_op (ow_move rfl ?_) (nb rfl); refine jl_op (ow_loadAll 3 rfl rfl rfl rfl ?_) (nb rfl)
                  refine jl_op (ow_loadAll 1 rfl rfl rfl rfl ?_) (nb rfl); refine jl_op (ow_buildSlice rfl rfl (nb rfl) rfl rfl (nb rfl) ?_) (nb rfl); refine jl_op (ow_build rfl rfl rfl rfl rfl ?_) (nb rfl)
                  refine jl_op0 (ow_storeAll 3 rfl rfl rfl rfl rfl rfl ?_); refine jl_nil ?_; refine jq_block ?_; refine jq_then ?_; refine jc_region ?_; refine jl_op (ow_move rfl ?_) (nb rfl)
                  refine jl_op (ow_add64 rfl rfl (by omega) ?_) (nb rfl); refine jl_op (ow_assign rfl ?_) (nb rfl); refine jl_nil ?_; refine jq_row 0 A5 rfl ?_ ?_
                  · (repeat (first | exact RowLe.nil | refine RowLe.cons (CLe.any _) ?_))
                  refine jq_againS (i := (.inl (t, c, m + 1, n) : Lix)) ((.inr (d2, max (t.dep : Int) (y.dep : Int) + 1, n + 1, 4, d2 - 1) : Lix)) ⟨by omega, by omega, by decide, hI⟩ (Nat.succ_pos _) ?_ ?_
                  · refine sub_step 3 rfl ?_; refine sub_step 0 rfl ?_; refine sub_step 0 rfl ?_; exact sub_end
                  · (repeat (first | exact True.intro | refine ⟨rfl, ?_⟩))
                · rw [dpR_ok hd] at hI
                  dsimp only at hI
                  have hd' : ¬ (fr = false ∧ max (t.dep : Int) (y.dep : Int) + 1 > 8) := fun hh => hd ⟨hh.1, by omega⟩
                  refine jc_seq ?_; refine jc_seq ?_; refine jc_region ?_; refine jl_op (ow_move rfl ?_) (nb rfl); refine jl_op (ow_move rfl ?_) (nb rfl); refine jl_op (ow_move rfl ?_) (nb rfl)
                  refine jl_op (ow_call1 [2] rfl rfl (rnext_some hcl ho) ?_) (nb rfl); refine jl_op (ow_neq rfl rfl ?_) (nb rfl); refine jl_op (ow_move rfl ?_) (nb rfl)
                  refine jl_guardY rfl (decide_eq_true (by assumption)) (nb rfl) (ow_move rfl ?_); refine jl_guardY rfl (decide_eq_true (by assumption)) (nb rfl) (ow_gtr rfl rfl ?_)
                  refine jl_guardY rfl (decide_eq_true (by assumption)) (nb rfl) (ow_move rfl ?_); refine jl_guardN rfl (decide_eq_true (by omega)) (nb rfl) ?_; refine jl_guardN rfl (decide_eq_true (by omega)) (nb rfl) ?_
                  refine jl_guardY rfl (decide_eq_true (by assumption)) (nb rfl) (ow_pickT rfl (decide_eq_true (by omega)) rfl ?_); refine jl_op (ow_pickT rfl (decide_eq_true (by assumption)) rfl ?_) (nb rfl); refine jl_nil ?_
                  refine jq_then ?_; refine jc_condT rfl rfl ?_; refine jc_skip ?_; refine jq_then ?_; refine jc_seq ?_; refine jc_block ?_; refine jc_seq ?_; refine jc_region ?_; refine jl_op (ow_move rfl ?_) (nb rfl)
                  refine jl_op (ow_move rfl ?_) (nb rfl); refine jl_op (ow_move rfl ?_) (nb rfl); refine jl_op (ow_call1 [0] rfl rfl (rnext_some hcl ho) ?_) (nb rfl); refine jl_op (ow_assign rfl ?_) (nb rfl); refine jl_nil ?_
                  refine jq_then ?_; refine jc_seq ?_; refine jc_region ?_; refine jl_op (ow_move rfl ?_) (nb rfl); refine jl_op (ow_nilCheck rfl ?_) (nb rfl); refine jl_op (ow_fieldAddr rfl rfl rfl (nb rfl) ?_) (nb rfl)
                  refine jl_op (ow_load 0 rfl rfl rfl rfl ?_) (nb rfl); refine jl_op (ow_add64 rfl rfl (by omega) ?_) (nb rfl); refine jl_op (ow_nilCheck rfl ?_) (nb rfl)
                  refine jl_op (ow_fieldAddr rfl rfl rfl (nb rfl) ?_) (nb rfl); refine jl_op0 (ow_store1 0 rfl rfl rfl rfl (nb rfl) ?_); refine jl_nil ?_; refine jq_then ?_; refine jc_seq ?_; refine jc_region ?_
                  refine jl_op (ow_move rfl ?_) (nb rfl); refine jl_op (ow_move rfl ?_) (nb rfl); refine jl_op (ow_add64 rfl rfl (by omega) ?_) (nb rfl); refine jl_op (ow_call1 [0] rfl rfl (con2) ?_) (nb rfl)
                  refine jl_op (ow_move rfl ?_) (nb rfl); refine jl_op (ow_extract rfl rfl ?_) (nb rfl); refine jl_op (ow_extract rfl rfl ?_) (nb rfl); refine jl_op (ow_alloc rfl rfl (fun bl => ?_)) (nb rfl)
                  refine jl_op0 (ow_storeAll 0 rfl rfl rfl rfl rfl rfl ?_); refine jl_op (ow_assign rfl ?_) (nb rfl); refine jl_nil ?_; refine jq_then ?_; refine jc_seq ?_; refine jc_region ?_
                  refine jl_op (ow_move rfl ?_) (nb rfl); refine jl_op (ow_move rfl ?_) (nb rfl); refine jl_op (ow_max2 rfl rfl ?_) (nb rfl); refine jl_op (ow_add64 rfl rfl (by omega) ?_) (nb rfl)
                  refine jl_op (ow_assign rfl ?_) (nb rfl); refine jl_nil ?_; refine jq_then ?_; refine jc_seq ?_; refine jc_region ?_; refine jl_op (ow_move rfl ?_) (nb rfl); refine jl_op (ow_move rfl ?_) (nb rfl)
                  refine jl_op (ow_call1 [1] rfl rfl (rdeep_y _ hd') ?_) (nb rfl); refine jl_nil ?_; refine jq_then ?_; refine jc_region ?_; refine jl_op (ow_move rfl ?_) (nb rfl)
                  refine jl_op (ow_loadAll 3 rfl rfl rfl rfl ?_) (nb rfl); refine jl_op (ow_loadAll 1 rfl rfl rfl rfl ?_) (nb rfl); refine jl_op (ow_buildSlice rfl rfl (nb rfl) rfl rfl (nb rfl) ?_) (nb rfl)
                  refine jl_op (ow_build rfl rfl rfl rfl rfl ?_) (nb rfl); refine jl_op0 (ow_storeAll 3 rfl rfl rfl rfl rfl rfl ?_); refine jl_nil ?_; refine jq_block ?_; refine jq_then ?_; refine jc_region ?_
                  refine jl_op (ow_move rfl ?_) (nb rfl); refine jl_op (ow_add64 rfl rfl (by omega) ?_) (nb rfl); refine jl_op (ow_assign rfl ?_) (nb rfl); refine jl_nil ?_; refine jq_row 0 (T.bn o t y).row' rfl ?_ ?_
                  · (repeat (first | exact RowLe.nil | refine RowLe.cons (CLe.refl _) ?_ | refine RowLe.cons CLe.nil ?_))
                    exact RowLe.cons (CLe.eq (by simp [T.row_eq, T.args])) .nil
                  refine jq_againS (i := (.inl (t, c, m + 1, n) : Lix)) ((.inl (T.bn o t y, d2, m, n + 1) : Lix)) ⟨⟨by omega, hbd2.2⟩, by omega, by omega, fun h => by have := hm0 h; omega, fun h => by have := hm1 h; omega, hI⟩ (by simp only [Lmu]; omega) ?_ ?_
                  · refine sub_step 3 rfl ?_; refine sub_step 0 rfl ?_; refine sub_step 0 rfl ?_; exact sub_end
                  · dsimp only [Lenv]
                    rw [hd2]
                    (repeat (first | exact True.intro | refine ⟨rfl, ?_⟩))
        · obtain ⟨hcl, hn, hc0, hI⟩ := hI
          refine jc_reset (Lenv k b bR bl (.inr (c, d, n, code, p))) [.blk bR 27 Z5, .blk bl 27 A5, Rz b l c (lineAt l p) code fr] ?_ ⟨[0, 0, 0], [], rfl⟩ ?_
          · (repeat (first | exact True.intro | refine ⟨rfl, ?_⟩))
          refine jc_seq ?_; refine jc_seq ?_; refine jc_region ?_; refine jl_op (ow_move rfl ?_) (nb rfl); refine jl_op (ow_move rfl ?_) (nb rfl); refine jl_op (ow_move rfl ?_) (nb rfl)
          refine jl_op (ow_call1 [2] rfl rfl (rnext_e hc0 _ _) ?_) (nb rfl); refine jl_op (ow_neq rfl rfl ?_) (nb rfl); refine jl_op (ow_move rfl ?_) (nb rfl); refine jl_guardN rfl rfl (nb rfl) ?_
          refine jl_guardN rfl rfl (nb rfl) ?_; refine jl_guardN rfl rfl (nb rfl) ?_; refine jl_guardU rfl (nb rfl) ?_; refine jl_guardU rfl (nb rfl) ?_; refine jl_guardN rfl rfl (nb rfl) ?_
          refine jl_op (ow_pickF rfl rfl rfl ?_) (nb rfl); refine jl_nil ?_; refine jq_then ?_; refine jc_condF rfl rfl ?_; refine jc_exit ?_; refine jq_then_exit ?_; refine jq_then_exit ?_; refine jq_block_exit ?_
          refine jq_then ?_; refine jc_seq ?_; refine jc_region ?_; refine jl_op (ow_loadAll 2 rfl rfl rfl rfl ?_) (nb rfl); refine jl_op (ow_move rfl ?_) (nb rfl); refine jl_op0 (ow_storeAll 1 rfl rfl rfl rfl rfl rfl ?_)
          refine jl_op (ow_assign rfl ?_) (nb rfl); refine jl_nil ?_; refine jq_then ?_; refine jc_ret ?_; refine jq_retRowT rfl rfl rfl rfl rfl 0 rfl (fun K h => by rw [hI] at h; exact h (c, d) ⟨hcl, hc0⟩) ?_
          refine sub_step 1 rfl ?_; exact sub_end
    | ok x c =>
      have hbd := sx_bd _ _ _ _ _ hs
      have hdep0 := sx_dep _ _ _ _ _ hs
      have e : r = sxp fr l (opsL k) (sx fr l F (k + 1)) (if k = 0 then 1 else F) x c := by rw [← hr, sx, if_neg (by omega), hs]
      rw [hs] at con
      refine jc_seq ?_; refine jc_region ?_; refine jl_op (ow_alloc rfl rfl (fun bl => ?_)) (nb rfl); refine jl_op (ow_assign rfl ?_) (nb rfl); refine jl_nil ?_; refine jq_then ?_; refine jc_seq ?_; refine jc_region ?_
      refine jl_op (ow_buildSlice rfl rfl (nb rfl) rfl rfl (nb rfl) ?_) (nb rfl); refine jl_op (ow_buildSlice rfl rfl (nb rfl) rfl rfl (nb rfl) ?_) (nb rfl); refine jl_op (ow_assign rfl ?_) (nb rfl)
      refine jl_op (ow_assign rfl ?_) (nb rfl); refine jl_nil ?_; refine jq_then ?_; refine jc_seq ?_; refine jc_seq ?_; refine jc_region ?_; refine jl_op (ow_move rfl ?_) (nb rfl); refine jl_nil ?_; refine jq_then ?_
      refine jc_block ?_; refine jc_seq ?_; refine jc_region ?_; refine jl_op (ow_eql rfl rfl ?_) (nb rfl); refine jl_op (ow_assign rfl ?_) (nb rfl); refine jl_nil ?_; refine jq_then ?_
      refine jc_condF rfl (decide_eq_false (by omega)) ?_; refine jc_seq ?_; refine jc_region ?_; refine jl_op (ow_eql rfl rfl ?_) (nb rfl); refine jl_op (ow_assign rfl ?_) (nb rfl); refine jl_nil ?_; refine jq_then ?_
      refine jc_condT rfl (decide_eq_true (by omega)) ?_; refine jc_region ?_; refine jl_op (ow_buildSlice rfl rfl (nb rfl) rfl rfl (nb rfl) ?_) (nb rfl); refine jl_op (ow_buildSlice rfl rfl (nb rfl) rfl rfl (nb rfl) ?_) (nb rfl)
      refine jl_op (ow_assign rfl ?_) (nb rfl); refine jl_op (ow_assign rfl ?_) (nb rfl); refine jl_nil ?_; refine jq_block ?_; refine jq_then ?_; refine jc_seq ?_; refine jc_region ?_; refine jl_op (ow_move rfl ?_) (nb rfl)
      refine jl_op (ow_move rfl ?_) (nb rfl); refine jl_op (ow_add64 rfl rfl (by omega) ?_) (nb rfl); refine jl_op (ow_call1 [1] rfl rfl (con) ?_) (nb rfl); refine jl_op (ow_move rfl ?_) (nb rfl)
      refine jl_op (ow_extract rfl rfl ?_) (nb rfl); refine jl_op (ow_extract rfl rfl ?_) (nb rfl); refine jl_op (ow_alloc rfl rfl (fun bl => ?_)) (nb rfl); refine jl_op0 (ow_storeAll 0 rfl rfl rfl rfl rfl rfl ?_)
      refine jl_op (ow_assign rfl ?_) (nb rfl); refine jl_nil ?_; refine jq_then ?_; refine jc_seq ?_; refine jc_seq ?_; refine jc_region ?_; refine jl_op (ow_assign rfl ?_) (nb rfl); refine jl_nil ?_; refine jq_then ?_
      refine jc_block ?_
      rename_i bR
      refine jc_loopS [] (LI l fr F k a r) (Lenv k b bR bl) (Lch l fr b bR bl) (Lmu l) (.inl (x, c, if k = 0 then 1 else F, 0)) ⟨⟨hbd.1, hbd.2⟩, hdep0, Nat.zero_le _, fun h => by rw [if_pos h], fun h => by rw [if_neg h]; omega, e⟩ ?_ ?_ ?_
      · refine sub_step 2 rfl ?_; refine sub_step 0 rfl ?_; refine sub_step 0 rfl ?_; exact sub_end
      · subst hk
        (repeat (first | exact True.intro | refine ⟨rfl, ?_⟩))
      · rintro (⟨t, c, m, n⟩ | ⟨c, d, n, code, p⟩) hI
        · obtain ⟨⟨hac, hcl⟩, hdep, hn, hm0, hm1, hI⟩ := hI
          refine jc_reset (Lenv k b bR bl (.inl (t, c, m, n))) [.blk bR 27 Z5, .blk bl 27 t.row', Rz b l c 0 0 fr] ?_ ⟨[0, 0, 0], [], rfl⟩ ?_
          · (repeat (first | exact True.intro | refine ⟨rfl, ?_⟩))
          cases ho : opAt l (opsL k) c with
          | none =>
            rw [sxp_none ho] at hI
            refine jc_seq ?_; refine jc_seq ?_; refine jc_region ?_; refine jl_op (ow_move rfl ?_) (nb rfl); refine jl_op (ow_move rfl ?_) (nb rfl); refine jl_op (ow_move rfl ?_) (nb rfl)
            refine jl_op (ow_call1 [2] rfl rfl (rnext_none hcl ho) ?_) (nb rfl); refine jl_op (ow_neq rfl rfl ?_) (nb rfl); refine jl_op (ow_move rfl ?_) (nb rfl); refine jl_guardN rfl rfl (nb rfl) ?_
            refine jl_guardN rfl rfl (nb rfl) ?_; refine jl_guardN rfl rfl (nb rfl) ?_; refine jl_guardU rfl (nb rfl) ?_; refine jl_guardU rfl (nb rfl) ?_; refine jl_guardN rfl rfl (nb rfl) ?_
            refine jl_op (ow_pickF rfl rfl rfl ?_) (nb rfl); refine jl_nil ?_; refine jq_then ?_; refine jc_condF rfl rfl ?_; refine jc_exit ?_; refine jq_then_exit ?_; refine jq_then_exit ?_; refine jq_block_exit ?_
            refine jq_then ?_; refine jc_seq ?_; refine jc_region ?_; refine jl_op (ow_loadAll 2 rfl rfl rfl rfl ?_) (nb rfl); refine jl_op (ow_move rfl ?_) (nb rfl); refine jl_op0 (ow_storeAll 1 rfl rfl rfl rfl rfl rfl ?_)
            refine jl_op (ow_assign rfl ?_) (nb rfl); refine jl_nil ?_; refine jq_then ?_; refine jc_ret ?_; refine jq_retRowT rfl rfl rfl rfl rfl 0 rfl (fun K h => by rw [hI] at h; exact h) ?_; refine sub_step 1 rfl ?_
            exact sub_end
          | some o =>
            have ho0 : ¬ o = 0 := opAt_pos ho
            have hlt := opAt_lt ho
            by_cases hstop : k = 0 ∧ n = 1
            · exact absurd hstop.1 (by omega)
            · have hm : 0 < m := by
                by_cases h0 : k = 0
                · have := hm0 h0; omega
                · have := hm1 h0; omega
              obtain ⟨m, rfl⟩ : ∃ m', m = m' + 1 := ⟨m - 1, by omega⟩
              have con2 := hG (c + 1) (by omega) (by unfold need; omega)
              rw [sxp, ho] at hI
              dsimp only at hI
              have hgo : k = 0 → n = 0 := fun h => by have := hm0 h; omega
              cases hr2 : sx fr l F (k + 1) (c + 1) with
              | er code2 p2 =>
                rw [hr2] at hI con2
                dsimp only at hI
                refine jc_seq ?_; refine jc_seq ?_; refine jc_region ?_; refine jl_op (ow_move rfl ?_) (nb rfl); refine jl_op (ow_move rfl ?_) (nb rfl); refine jl_op (ow_move rfl ?_) (nb rfl)
                refine jl_op (ow_call1 [2] rfl rfl (rnext_some hcl ho) ?_) (nb rfl); refine jl_op (ow_neq rfl rfl ?_) (nb rfl); refine jl_op (ow_move rfl ?_) (nb rfl)
                refine jl_guardY rfl (decide_eq_true (by assumption)) (nb rfl) (ow_move rfl ?_); refine jl_guardY rfl (decide_eq_true (by assumption)) (nb rfl) (ow_gtr rfl rfl ?_)
                refine jl_guardY rfl (decide_eq_true (by assumption)) (nb rfl) (ow_move rfl ?_); refine jl_guardN rfl (decide_eq_true (by omega)) (nb rfl) ?_; refine jl_guardN rfl (decide_eq_true (by omega)) (nb rfl) ?_
                refine jl_guardY rfl (decide_eq_true (by assumption)) (nb rfl) (ow_pickT rfl (decide_eq_true (by omega)) rfl ?_); refine jl_op (ow_pickT rfl (decide_eq_true (by assumption)) rfl ?_) (nb rfl); refine jl_nil ?_
                refine jq_then ?_; refine jc_condT rfl rfl ?_; refine jc_skip ?_; refine jq_then ?_; refine jc_seq ?_; refine jc_block ?_; refine jc_seq ?_; refine jc_region ?_; refine jl_op (ow_move rfl ?_) (nb rfl)
                refine jl_op (ow_move rfl ?_) (nb rfl); refine jl_op (ow_move rfl ?_) (nb rfl); refine jl_op (ow_call1 [0] rfl rfl (rnext_some hcl ho) ?_) (nb rfl); refine jl_op (ow_assign rfl ?_) (nb rfl); refine jl_nil ?_
                refine jq_then ?_; refine jc_seq ?_; refine jc_region ?_; refine jl_op (ow_move rfl ?_) (nb rfl); refine jl_op (ow_nilCheck rfl ?_) (nb rfl); refine jl_op (ow_fieldAddr rfl rfl rfl (nb rfl) ?_) (nb rfl)
                refine jl_op (ow_load 0 rfl rfl rfl rfl ?_) (nb rfl); refine jl_op (ow_add64 rfl rfl (by omega) ?_) (nb rfl); refine jl_op (ow_nilCheck rfl ?_) (nb rfl); refine jl_op (ow_fieldAddr rfl rfl rfl (nb rfl) ?_) (nb rfl)
                refine jl_op0 (ow_store1 0 rfl rfl rfl rfl (nb rfl) ?_); refine jl_nil ?_; refine jq_then ?_; refine jc_seq ?_; refine jc_region ?_; refine jl_op (ow_move rfl ?_) (nb rfl); refine jl_op (ow_move rfl ?_) (nb rfl)
                refine jl_op (ow_add64 rfl rfl (by omega) ?_) (nb rfl); refine jl_op (ow_callP [0] rfl rfl (con2) (fun pp hpp => ?_)) (nb rfl); refine jl_op (ow_move rfl ?_) (nb rfl); refine jl_op (ow_extract rfl rfl ?_) (nb rfl)
                refine jl_op (ow_extract rfl rfl ?_) (nb rfl); refine jl_op (ow_alloc rfl rfl (fun bl => ?_)) (nb rfl); refine jl_op0 (ow_storeAll 0 rfl rfl rfl rfl rfl rfl ?_); refine jl_op (ow_assign rfl ?_) (nb rfl)
                refine jl_nil ?_; refine jq_then ?_; refine jc_seq ?_; refine jc_region ?_; refine jl_op (ow_move rfl ?_) (nb rfl); refine jl_op (ow_move rfl ?_) (nb rfl); refine jl_op (ow_max2 rfl rfl ?_) (nb rfl)
                refine jl_op (ow_add rfl rfl ?_) (nb rfl); refine jl_op (ow_assign rfl ?_) (nb rfl); refine jl_nil ?_; refine jq_then ?_; refine jc_seq ?_; refine jc_region ?_; refine jl_op (ow_move rfl ?_) (nb rfl)
                refine jl_op (ow_move rfl ?_) (nb rfl); refine jl_op (ow_call1 [1] rfl rfl (rdeep_e hpp.2 (by omega) _) ?_) (nb rfl); refine jl_nil ?_; refine jq_then ?_; refine jc_region ?_; refine jl_op (ow_move rfl ?_) (nb rfl)
                refine jl_op (ow_loadAll 3 rfl rfl rfl rfl ?_) (nb rfl); refine jl_op (ow_loadAll 1 rfl rfl rfl rfl ?_) (nb rfl); refine jl_op (ow_buildSlice rfl rfl (nb rfl) rfl rfl (nb rfl) ?_) (nb rfl)
                refine jl_op (ow_build rfl rfl rfl rfl rfl ?_) (nb rfl); refine jl_op0 (ow_storeAll 3 rfl rfl rfl rfl rfl rfl ?_); refine jl_nil ?_; refine jq_block ?_; refine jq_then ?_; refine jc_region ?_
                refine jl_op (ow_move rfl ?_) (nb rfl); refine jl_op (ow_add64 rfl rfl (by omega) ?_) (nb rfl); refine jl_op (ow_assign rfl ?_) (nb rfl); refine jl_nil ?_; refine jq_row 0 A5 rfl ?_ ?_
                · (repeat (first | exact RowLe.nil | refine RowLe.cons (CLe.any _) ?_))
                refine jq_againS (i := (.inl (t, c, m + 1, n) : Lix)) ((.inr (pp.1, IntKind.i64.wrap (max (t.dep : Int) pp.2 + 1), n + 1, code2, p2) : Lix)) ⟨hpp.1, by omega, hpp.2, hI⟩ (Nat.succ_pos _) ?_ ?_
                · refine sub_step 3 rfl ?_; refine sub_step 0 rfl ?_; refine sub_step 0 rfl ?_; exact sub_end
                · (repeat (first | exact True.intro | refine ⟨rfl, ?_⟩))
              | ok y d2 =>
                have hbd2 := sx_bd _ _ _ _ _ hr2
                have hdep2 := sx_dep _ _ _ _ _ hr2
                have hd2 : ((T.bn o t y).dep : Int) = max (t.dep : Int) (y.dep : Int) + 1 := by simp only [T.dep]; omega
                rw [hr2] at hI con2
                dsimp only at hI
                by_cases hd : fr = false ∧ 8 < (T.bn o t y).dep
                · rw [dpR_er hd] at hI
                  dsimp only at hI
                  obtain ⟨hfr, hd⟩ := hd
                  have hd' : max (t.dep : Int) (y.dep : Int) + 1 > 8 := by omega
                  have hD := rdeep_n (b := b) (ln := 0) (a := d2) hl _ hd' (by omega) (by omega)
                  rw [← hfr] at hD
                  refine jc_seq ?_; refine jc_seq ?_; refine jc_region ?_; refine jl_op (ow_move rfl ?_) (nb rfl); refine jl_op (ow_move rfl ?_) (nb rfl); refine jl_op (ow_move rfl ?_) (nb rfl)
                  refine jl_op (ow_call1 [2] rfl rfl (rnext_some hcl ho) ?_) (nb rfl); refine jl_op (ow_neq rfl rfl ?_) (nb rfl); refine jl_op (ow_move rfl ?_) (nb rfl)
                  refine jl_guardY rfl (decide_eq_true (by assumption)) (nb rfl) (ow_move rfl ?_); refine jl_guardY rfl (decide_eq_true (by assumption)) (nb rfl) (ow_gtr rfl rfl ?_)
                  refine jl_guardY rfl (decide_eq_true (by assumption)) (nb rfl) (ow_move rfl ?_); refine jl_guardN rfl (decide_eq_true (by omega)) (nb rfl) ?_; refine jl_guardN rfl (decide_eq_true (by omega)) (nb rfl) ?_
                  refine jl_guardY rfl (decide_eq_true (by assumption)) (nb rfl) (ow_pickT rfl (decide_eq_true (by omega)) rfl ?_); refine jl_op (ow_pickT rfl (decide_eq_true (by assumption)) rfl ?_) (nb rfl); refine jl_nil ?_
                  refine jq_then ?_; refine jc_condT rfl rfl ?_; refine jc_skip ?_; refine jq_then ?_; refine jc_seq ?_; refine jc_block ?_; refine jc_seq ?_; refine jc_region ?_; refine jl_op (ow_move rfl ?_) (nb rfl)
                  refine jl_op (ow_move rfl ?_) (nb rfl); refine jl_op (ow_move rfl ?_) (nb rfl); refine jl_op (ow_call1 [0] rfl rfl (rnext_some hcl ho) ?_) (nb rfl); refine jl_op (ow_assign rfl ?_) (nb rfl); refine jl_nil ?_
                  refine jq_then ?_; refine jc_seq ?_; refine jc_region ?_; refine jl_op (ow_move rfl ?_) (nb rfl); refine jl_op (ow_nilCheck rfl ?_) (nb rfl); refine jl_op (ow_fieldAddr rfl rfl rfl (nb rfl) ?_) (nb rfl)
                  refine jl_op (ow_load 0 rfl rfl rfl rfl ?_) (nb rfl); refine jl_op (ow_add64 rfl rfl (by omega) ?_) (nb rfl); refine jl_op (ow_nilCheck rfl ?_) (nb rfl)
                  refine jl_op (ow_fieldAddr rfl rfl rfl (nb rfl) ?_) (nb rfl); refine jl_op0 (ow_store1 0 rfl rfl rfl rfl (nb rfl) ?_); refine jl_nil ?_; refine jq_then ?_; refine jc_seq ?_; refine jc_region ?_
                  refine jl_op (ow_move rfl ?_) (nb rfl); refine jl_op (ow_move rfl ?_) (nb rfl); refine jl_op (ow_add64 rfl rfl (by omega) ?_) (nb rfl); refine jl_op (ow_call1 [0] rfl rfl (con2) ?_) (nb rfl)
                  refine jl_op (ow_move rfl ?_) (nb rfl); refine jl_op (ow_extract rfl rfl ?_) (nb rfl); refine jl_op (ow_extract rfl rfl ?_) (nb rfl); refine jl_op (ow_alloc rfl rfl (fun bl => ?_)) (nb rfl)
                  refine jl_op0 (ow_storeAll 0 rfl rfl rfl rfl rfl rfl ?_); refine jl_op (ow_assign rfl ?_) (nb rfl); refine jl_nil ?_; refine jq_then ?_; refine jc_seq ?_; refine jc_region ?_
                  refine jl_op (ow_move rfl ?_) (nb rfl); refine jl_op (ow_move rfl ?_) (nb rfl); refine jl_op (ow_max2 rfl rfl ?_) (nb rfl); refine jl_op (ow_add64 rfl rfl (by omega) ?_) (nb rfl)
                  refine jl_op (ow_assign rfl ?_) (nb rfl); refine jl_nil ?_; refine jq_then ?_; refine jc_seq ?_; refine jc_region ?_; refine jl_op (ow_move rfl ?_) (nb rfl); refine jl_op (ow_move rfl ?_) (nb rfl)
                  refine jl_op (ow_call1 [1] rfl rfl (hD) ?_) (nb rfl); refine jl_nil ?_; refine jq_then ?_; refine jc_region ?_; refine jl_op (ow_move rfl ?_) (nb rfl); refine jl_op (ow_loadAll 3 rfl rfl rfl rfl ?_) (nb rfl)
                  refine jl_op (ow_loadAll 1 rfl rfl rfl rfl ?_) (nb rfl); refine jl_op (ow_buildSlice rfl rfl (nb rfl) rfl rfl (nb rfl) ?_) (nb rfl); refine jl_op (ow_build rfl rfl rfl rfl rfl ?_) (nb rfl)
                  refine jl_op0 (ow_storeAll 3 rfl rfl rfl rfl rfl rfl ?_); refine jl_nil ?_; refine jq_block ?_; refine jq_then ?_; refine jc_region ?_; refine jl_op (ow_move rfl ?_) (nb rfl)
                  refine jl_op (ow_add64 rfl rfl (by omega) ?_) (nb rfl); refine jl_op (ow_assign rfl ?_) (nb rfl); refine jl_nil ?_; refine jq_row 0 A5 rfl ?_ ?_
                  · (repeat (first | exact RowLe.nil | refine RowLe.cons (CLe.any _) ?_))
                  refine jq_againS (i := (.inl (t, c, m + 1, n) : Lix)) ((.inr (d2, max (t.dep : Int) (y.dep : Int) + 1, n + 1, 4, d2 - 1) : Lix)) ⟨by omega, by omega, by decide, hI⟩ (Nat.succ_pos _) ?_ ?_
                  · refine sub_step 3 rfl ?_; refine sub_step 0 rfl ?_; refine sub_step 0 rfl ?_; exact sub_end
                  · (repeat (first | exact True.intro | refine ⟨rfl, ?_⟩))
                · rw [dpR_ok hd] at hI
                  dsimp only at hI
                  have hd' : ¬ (fr = false ∧ max (t.dep : Int) (y.dep : Int) + 1 > 8) := fun hh => hd ⟨hh.1, by omega⟩
                  refine jc_seq ?_; refine jc_seq ?_; refine jc_region ?_; refine jl_op (ow_move rfl ?_) (nb rfl); refine jl_op (ow_move rfl ?_) (nb rfl); refine jl_op (ow_move rfl ?_) (nb rfl)
                  refine jl_op (ow_call1 [2] rfl rfl (rnext_some hcl ho) ?_) (nb rfl); refine jl_op (ow_neq rfl rfl ?_) (nb rfl); refine jl_op (ow_move rfl ?_) (nb rfl)
                  refine jl_guardY rfl (decide_eq_true (by assumption)) (nb rfl) (ow_move rfl ?_); refine jl_guardY rfl (decide_eq_true (by assumption)) (nb rfl) (ow_gtr rfl rfl ?_)
                  refine jl_guardY rfl (decide_eq_true (by assumption)) (nb rfl) (ow_move rfl ?_); refine jl_guardN rfl (decide_eq_true (by omega)) (nb rfl) ?_; refine jl_guardN rfl (decide_eq_true (by omega)) (nb rfl) ?_
                  refine jl_guardY rfl (decide_eq_true (by assumption)) (nb rfl) (ow_pickT rfl (decide_eq_true (by omega)) rfl ?_); refine jl_op (ow_pickT rfl (decide_eq_true (by assumption)) rfl ?_) (nb rfl); refine jl_nil ?_
                  refine jq_then ?_; refine jc_condT rfl rfl ?_; refine jc_skip ?_; refine jq_then ?_; refine jc_seq ?_; refine jc_block ?_; refine jc_seq ?_; refine jc_region ?_; refine jl_op (ow_move rfl ?_) (nb rfl)
                  refine jl_op (ow_move rfl ?_) (nb rfl); refine jl_op (ow_move rfl ?_) (nb rfl); refine jl_op (ow_call1 [0] rfl rfl (rnext_some hcl ho) ?_) (nb rfl); refine jl_op (ow_assign rfl ?_) (nb rfl); refine jl_nil ?_
                  refine jq_then ?_; refine jc_seq ?_; refine jc_region ?_; refine jl_op (ow_move rfl ?_) (nb rfl); refine jl_op (ow_nilCheck rfl ?_) (nb rfl); refine jl_op (ow_fieldAddr rfl rfl rfl (nb rfl) ?_) (nb rfl)
                  refine jl_op (ow_load 0 rfl rfl rfl rfl ?_) (nb rfl); refine jl_op (ow_add64 rfl rfl (by omega) ?_) (nb rfl); refine jl_op (ow_nilCheck rfl ?_) (nb rfl)
                  refine jl_op (ow_fieldAddr rfl rfl rfl (nb rfl) ?_) (nb rfl); refine jl_op0 (ow_store1 0 rfl rfl rfl rfl (nb rfl) ?_); refine jl_nil ?_; refine jq_then ?_; refine jc_seq ?_; refine jc_region ?_
                  refine jl_op (ow_move rfl ?_) (nb rfl); refine jl_op (ow_move rfl ?_) (nb rfl); refine jl_op (ow_add64 rfl rfl (by omega) ?_) (nb rfl); refine jl_op (ow_call1 [0] rfl rfl (con2) ?_) (nb rfl)
                  refine jl_op (ow_move rfl ?_) (nb rfl); refine jl_op (ow_extract rfl rfl ?_) (nb rfl); refine jl_op (ow_extract rfl rfl ?_) (nb rfl); refine jl_op (ow_alloc rfl rfl (fun bl => ?_)) (nb rfl)
                  refine jl_op0 (ow_storeAll 0 rfl rfl rfl rfl rfl rfl ?_); refine jl_op (ow_assign rfl ?_) (nb rfl); refine jl_nil ?_; refine jq_then ?_; refine jc_seq ?_; refine jc_region ?_
                  refine jl_op (ow_move rfl ?_) (nb rfl); refine jl_op (ow_move rfl ?_) (nb rfl); refine jl_op (ow_max2 rfl rfl ?_) (nb rfl); refine jl_op (ow_add64 rfl rfl (by omega) ?_) (nb rfl)
                  refine jl_op (ow_assign rfl ?_) (nb rfl); refine jl_nil ?_; refine jq_then ?_; refine jc_seq ?_; refine jc_region ?_; refine jl_op (ow_move rfl ?_) (nb rfl); refine jl_op (ow_move rfl ?_) (nb rfl)
                  refine jl_op (ow_call1 [1] rfl rfl (rdeep_y _ hd') ?_) (nb rfl); refine jl_nil ?_; refine jq_then ?_; refine jc_region ?_; refine jl_op (ow_move rfl ?_) (nb rfl)
                  refine jl_op (ow_loadAll 3 rfl rfl rfl rfl ?_) (nb rfl); refine jl_op (ow_loadAll 1 rfl rfl rfl rfl ?_) (nb rfl); refine jl_op (ow_buildSlice rfl rfl (nb rfl) rfl rfl (nb rfl) ?_) (nb rfl)
                  refine jl_op (ow_build rfl rfl rfl rfl rfl ?_) (nb rfl); refine jl_op0 (ow_storeAll 3 rfl rfl rfl rfl rfl rfl ?_); refine jl_nil ?_; refine jq_block ?_; refine jq_then ?_; refine jc_region ?_
                  refine jl_op (ow_move rfl ?_) (nb rfl); refine jl_op (ow_add64 rfl rfl (by omega) ?_) (nb rfl); refine jl_op (ow_assign rfl ?_) (nb rfl); refine jl_nil ?_; refine jq_row 0 (T.bn o t y).row' rfl ?_ ?_
                  · (repeat (first | exact RowLe.nil | refine RowLe.cons (CLe.refl _) ?_ | refine RowLe.cons CLe.nil ?_))
                    exact RowLe.cons (CLe.eq (by simp [T.row_eq, T.args])) .nil
                  refine jq_againS (i := (.inl (t, c, m + 1, n) : Lix)) ((.inl (T.bn o t y, d2, m, n + 1) : Lix)) ⟨⟨by omega, hbd2.2⟩, by omega, by omega, fun h => by have := hm0 h; omega, fun h => by have := hm1 h; omega, hI⟩ (by simp only [Lmu]; omega) ?_ ?_
                  · refine sub_step 3 rfl ?_; refine sub_step 0 rfl ?_; refine sub_step 0 rfl ?_; exact sub_end
                  · dsimp only [Lenv]
                    rw [hd2]
                    (repeat (first | exact True.intro | refine ⟨rfl, ?_⟩))
        · obtain ⟨hcl, hn, hc0, hI⟩ := hI
          refine jc_reset (Lenv k b bR bl (.inr (c, d, n, code, p))) [.blk bR 27 Z5, .blk bl 27 A5, Rz b l c (lineAt l p) code fr] ?_ ⟨[0, 0, 0], [], rfl⟩ ?_
          · (repeat (first | exact True.intro | refine ⟨rfl, ?_⟩))
          refine jc_seq ?_; refine jc_seq ?_; refine jc_region ?_; refine jl_op (ow_move rfl ?_) (nb rfl); refine jl_op (ow_move rfl ?_) (nb rfl); refine jl_op (ow_move rfl ?_) (nb rfl)
          refine jl_op (ow_call1 [2] rfl rfl (rnext_e hc0 _ _) ?_) (nb rfl); refine jl_op (ow_neq rfl rfl ?_) (nb rfl); refine jl_op (ow_move rfl ?_) (nb rfl); refine jl_guardN rfl rfl (nb rfl) ?_
          refine jl_guardN rfl rfl (nb rfl) ?_; refine jl_guardN rfl rfl (nb rfl) ?_; refine jl_guardU rfl (nb rfl) ?_; refine jl_guardU rfl (nb rfl) ?_; refine jl_guardN rfl rfl (nb rfl) ?_
          refine jl_op (ow_pickF rfl rfl rfl ?_) (nb rfl); refine jl_nil ?_; refine jq_then ?_; refine jc_condF rfl rfl ?_; refine jc_exit ?_; refine jq_then_exit ?_; refine jq_then_exit ?_; refine jq_block_exit ?_
          refine jq_then ?_; refine jc_seq ?_; refine jc_region ?_; refine jl_op (ow_loadAll 2 rfl rfl rfl rfl ?_) (nb rfl); refine jl_op (ow_move rfl ?_) (nb rfl); refine jl_op0 (ow_storeAll 1 rfl rfl rfl rfl rfl rfl ?_)
          refine jl_op (ow_assign rfl ?_) (nb rfl); refine jl_nil ?_; refine jq_then ?_; refine jc_ret ?_; refine jq_retRowT rfl rfl rfl rfl rfl 0 rfl (fun K h => by rw [hI] at h; exact h (c, d) ⟨hcl, hc0⟩) ?_
          refine sub_step 1 rfl ?_; exact sub_end
theorem strict_all : ∀ F : Nat, FcP l fr F ∧ LvP l fr F
  | 0 => ⟨fun b a ha h => absurd h (by unfold need; omega), fun b k a hk ha h => absurd h (by unfold need; omega)⟩
  | F + 1 => by
    obtain ⟨h1, h2⟩ := strict_all F
    have f1 := factor_step hl F h1 (expr_of F h2)
    refine ⟨f1, ?_⟩
    intro b k a hk ha hN
    by_cases h3 : k = 3
    · subst h3
      exact level_top (F + 1) f1 b a ha hN
    · exact level_step hl F k b a (by omega) (fun a ha hN => h2 b (k + 1) a (by omega) ha hN) ha hN
theorem rexpr_c (F b a : Nat) (ha : a ≤ l.length) (hN : need l 0 a ≤ F) : Con Tryd.prog 29 [Ptr b] [Rz b l a 0 0 fr] (LvPost b l fr (sx fr l F 0 a)) := expr_of F (strict_all hl F).2 b a ha hN
end
end Go.Proofs.YtamajcgdfjeehaaDoor
end

section
namespace Go.Proofs.YtamajcgdfjeehaaDoor
open Go.Vc
set_option maxHeartbeats 1000000

/-- Where the strict parser has an end, and the token there is the same, the longest beginning ends too. -/
theorem lx_same {l m : List Tok} {F k a : Nat} {t t2 : T} {b b2 : Nat} (hs : sx true m F k a = .ok t b) (hl : lx l F k a = some (t2, b2)) (hle : b ≤ b2) (hg : ∀ i, i ≤ b → m[i]? = l[i]?) : b2 = b := by
  by_cases hlt : b < b2
  · have hb := lx_bd _ _ _ _ _ hl
    have e : ∀ i, i < b2 → l[i]? = (l.take b2)[i]? := fun i hi => by rw [List.getElem?_take, if_pos hi]
    have h1 := lx_sx (m := l.take b2) _ _ _ _ _ hl e (noExt_end (by rw [List.length_take]; omega))
    have h2 := sx_loc (m := l.take b2) _ _ _ _ _ hs (fun i hi => (hg i hi).trans (e i (by omega)))
    rw [h1] at h2
    cases h2
    rfl
  · omega
theorem sxp_lpx {l m : List Tok} {k : Nat} {sub : Nat → Option (T × Nat)} {sub' : Nat → R T} (hs : ∀ a t b, sub a = some (t, b) → a < b ∧ b ≤ l.length) (hm : ∀ a t b, sub' a = .ok t b → a < b ∧ b ≤ m.length)
    (hB : ∀ a t b, sub' a = .ok t b → (∀ i, i < b → m[i]? = l[i]?) → ∃ t2 b2, sub a = some (t2, b2) ∧ b ≤ b2) (hE : ∀ a t b t2 b2, sub' a = .ok t b → sub a = some (t2, b2) → b ≤ b2 → (∀ i, i ≤ b → m[i]? = l[i]?) → b2 = b) :
    ∀ (n : Nat) (x : T) (a : Nat) (t : T) (b : Nat), a ≤ l.length → a ≤ m.length → sxp true m (opsL k) sub' n x a = .ok t b → (∀ i, i < b → m[i]? = l[i]?) → ∀ y, b ≤ (lpx l (opsL k) sub n y a).2
  | 0, x, a, t, b, _, _, h, _, y => by simp only [sxp, R.ok.injEq] at h; simp only [lpx]; omega
  | n + 1, x, a, t, b, ha, hma, h, hg, y => by
    have hy0 := lpx_bd (L := opsL k) hs (n + 1) y a ha
    rw [sxp] at h
    cases ho : opAt m (opsL k) a with
    | none => rw [ho] at h; simp only [R.ok.injEq] at h; omega
    | some o =>
      rw [ho] at h
      dsimp only at h
      cases hz : sub' (a + 1) with
      | er c p => rw [hz] at h; cases h
      | ok z b1 =>
        rw [hz] at h
        dsimp only at h
        rw [dpR_free] at h
        dsimp only at h
        have h1 := hm _ _ _ hz
        have h2 := sxp_bd hm n _ _ _ _ h1.2 h
        have ho' : opAt l (opsL k) a = some o := by rw [← opAt_eq (hg a (by omega))]; exact ho
        obtain ⟨z2, b2, hz2, hb2⟩ := hB _ _ _ hz (fun i hi => hg i (by omega))
        have h3 := hs _ _ _ hz2
        rw [lpx_go ho' hz2]
        by_cases hb : b1 = b
        · have := lpx_bd (L := opsL k) hs n (.bn o y z2) b2 h3.2
          omega
        · have e := hE _ _ _ _ _ hz hz2 hb2 (fun i hi => hg i (by omega))
          subst e
          exact sxp_lpx hs hm hB hE n _ _ _ _ h3.2 h1.2 h hg _
theorem sx_lx {l m : List Tok} : ∀ (F k a : Nat) (t : T) (b : Nat), sx true m F k a = .ok t b → (∀ i, i < b → m[i]? = l[i]?) → ∃ t2 b2, lx l F k a = some (t2, b2) ∧ b ≤ b2
  | 0, _, _, _, _, h, _ => by simp [sx] at h
  | F + 1, k, a, t, b, h, hg => by
    have ih := sx_lx (l := l) (m := m) F
    have hb := sx_bd _ _ _ _ _ h
    have e1 := hg a (by omega)
    rw [sx] at h
    rw [lx, ← isNum_eq e1, ← isA_eq e1, ← isA_eq e1, ← isNm_eq e1, ← numAt_eq e1, ← txtAt_eq e1]
    split
    · rename_i h3
      rw [if_pos h3] at h
      split
      · rename_i h4
        rw [if_pos h4] at h
        cases h; exact ⟨_, _, rfl, Nat.le_refl _⟩
      · rename_i h4
        rw [if_neg h4] at h
        split
        · rename_i h5
          rw [if_pos h5] at h
          have hlt2 : a + 1 < b := by
            split at h
            · simp only [R.ok.injEq] at h; omega
            · split at h
              · cases h
              · rename_i x b1 hy
                have := (sx_bd _ _ _ _ _ hy).1
                rw [dpR_free] at h
                cases h; omega
          have e2 := hg (a + 1) hlt2
          rw [← isNum_eq e2, ← numAt_eq e2]
          split
          · rename_i h6
            rw [if_pos h6] at h
            cases h; exact ⟨_, _, rfl, Nat.le_refl _⟩
          · rename_i h6
            rw [if_neg h6] at h
            split at h
            · cases h
            · rename_i x b1 hy
              rw [dpR_free] at h
              cases h
              obtain ⟨t2, b2, h7, h8⟩ := ih _ _ _ _ hy hg
              rw [h7]
              exact ⟨_, _, rfl, h8⟩
        · rename_i h5
          rw [if_neg h5] at h
          split
          · rename_i h6
            rw [if_pos h6] at h
            split at h
            · rename_i h7
              split at h
              · cases h
              · rename_i x b1 hy
                split at h
                · rename_i h8
                  rw [dpR_free] at h
                  cases h
                  have hb1 := (sx_bd _ _ _ _ _ hy).1
                  obtain ⟨t2, b2, h9, h10⟩ := ih _ _ _ _ hy (fun i hi => hg i (by omega))
                  have e := lx_same hy h9 h10 (fun i hi => hg i (by omega))
                  subst e
                  rw [← isA_eq (hg (a + 1) (by omega)), if_pos h7, h9, inx, ← isA_eq (hg b2 (by omega)), if_pos h8]
                  exact ⟨_, _, rfl, Nat.le_refl _⟩
                · cases h
            · cases h
              split
              · split
                · rename_i x b1 hy
                  obtain ⟨c, h8, h9, rfl⟩ := inx_some hy
                  have := (lx_bd _ _ _ _ _ h8).1
                  exact ⟨_, _, rfl, by omega⟩
                · exact ⟨_, _, rfl, Nat.le_refl _⟩
              · exact ⟨_, _, rfl, Nat.le_refl _⟩
          · rename_i h6
            rw [if_neg h6] at h
            split
            · rename_i h7
              rw [if_pos h7] at h
              split at h
              · cases h
              · rename_i x b1 hy
                split at h
                · rename_i h8
                  cases h
                  have hb1 := (sx_bd _ _ _ _ _ hy).1
                  obtain ⟨t2, b2, h9, h10⟩ := ih _ _ _ _ hy (fun i hi => hg i (by omega))
                  have e := lx_same hy h9 h10 (fun i hi => hg i (by omega))
                  subst e
                  rw [h9, inx, ← isA_eq (hg b2 (by omega)), if_pos h8]
                  exact ⟨_, _, rfl, Nat.le_refl _⟩
                · cases h
            · rename_i h7; rw [if_neg h7] at h; cases h
    · rename_i h3
      rw [if_neg h3] at h
      split at h
      · cases h
      · rename_i x b1 hy
        have h1 := sx_bd _ _ _ _ _ hy
        have h2 := sxp_bd (fun a t b h => sx_bd F (k + 1) a t b h) _ _ _ _ _ h1.2 h
        obtain ⟨x2, b2, h4, h5⟩ := ih _ _ _ _ hy (fun i hi => hg i (by omega))
        have h6 := lx_bd _ _ _ _ _ h4
        rw [h4]
        dsimp only
        refine ⟨_, _, rfl, ?_⟩
        by_cases hbb : b1 = b
        · have := lpx_bd (L := opsL k) (sub := lx l F (k + 1)) (fun a t b h => lx_bd F (k + 1) a t b h) (if k = 0 then 1 else F) x2 b2 h6.2
          omega
        · have e := lx_same hy h4 h5 (fun i hi => hg i (by omega))
          subst e
          exact sxp_lpx (fun a t b h => lx_bd F (k + 1) a t b h) (fun a t b h => sx_bd F (k + 1) a t b h) (fun a t b h hg => ih _ _ _ _ h hg) (fun a t b t2 b2 h h' hle hg => lx_same h h' hle hg) _ _ _ _ _ h6.2 h1.2 h hg _
/-- The beginning of some length is an expression. -/
def whole (l : List Tok) (F n : Nat) : Option T := match sx true (l.take n) F 0 0 with
  | .ok t b => if b = n then some t else none
  | .er _ _ => none
theorem take_same (l : List Tok) (n : Nat) : ∀ i, i < n → (l.take n)[i]? = l[i]? := fun i hi => by rw [List.getElem?_take, if_pos hi]
theorem whole_long {l : List Tok} {F n : Nat} {t : T} (hn : n ≤ l.length) (h : whole l F n = some t) : ∃ t2 b2, lx l F 0 0 = some (t2, b2) ∧ n ≤ b2 := by
  unfold whole at h
  split at h
  · rename_i t' b hs
    split at h
    · rename_i hb
      subst hb
      exact sx_lx _ _ _ _ _ hs (take_same l b)
    · cases h
  · cases h
theorem long_whole {l : List Tok} {F n : Nat} {t : T} (h : lx l F 0 0 = some (t, n)) : whole l F n = some t := by
  have hb := lx_bd _ _ _ _ _ h
  unfold whole
  rw [lx_sx (m := l.take n) _ _ _ _ _ h (fun i hi => (take_same l n i hi).symm) (noExt_end (by rw [List.length_take]; omega))]
  simp
end Go.Proofs.YtamajcgdfjeehaaDoor
end

section
namespace Go.Vc
open Go.RowKit

/-! A region whose order is drawn, whose calls may turn what is owned, or panic: what only looks is taken first, the rest comes one by one (as HL of Vcn, with panics). -/
def PanI (Q : Exit → Act → World → Prop) : Prop := ∀ ch a d v w, Q (.panic ch) (Act.put a d v) w → Q (.panic ch) a w
theorem pani_then {K : Act → World → Prop} {Q : Exit → Act → World → Prop} (h : PanI Q) : PanI (Exit.then K Q) := h
theorem pani_block {id : Nat} {Q : Exit → Act → World → Prop} (h : PanI Q) : PanI (Exit.inBlock id Q) := h
theorem pani_body {P : Program} {fn : Func} {R : Ending → World → Prop} : PanI (bodyPost P fn R) := by
  intro ch a d v w h
  cases d <;> exact h

/-! Lists of a known length -/
theorem len1 {α : Type} {l : List α} (h : l.length = 1) : ∃ v0, l = [v0] := by
  match l, h with
  | [v0], _ => exact ⟨v0, rfl⟩
theorem len2 {α : Type} {l : List α} (h : l.length = 2) : ∃ v0 v1, l = [v0, v1] := by
  match l, h with
  | [v0, v1], _ => exact ⟨v0, v1, rfl⟩
theorem len3 {α : Type} {l : List α} (h : l.length = 3) : ∃ v0 v1 v2, l = [v0, v1, v2] := by
  match l, h with
  | [v0, v1, v2], _ => exact ⟨v0, v1, v2, rfl⟩
theorem len4 {α : Type} {l : List α} (h : l.length = 4) : ∃ v0 v1 v2 v3, l = [v0, v1, v2, v3] := by
  match l, h with
  | [v0, v1, v2, v3], _ => exact ⟨v0, v1, v2, v3, rfl⟩
theorem len5 {α : Type} {l : List α} (h : l.length = 5) : ∃ v0 v1 v2 v3 v4, l = [v0, v1, v2, v3, v4] := by
  match l, h with
  | [v0, v1, v2, v3, v4], _ => exact ⟨v0, v1, v2, v3, v4, rfl⟩
theorem len6 {α : Type} {l : List α} (h : l.length = 6) : ∃ v0 v1 v2 v3 v4 v5, l = [v0, v1, v2, v3, v4, v5] := by
  match l, h with
  | [v0, v1, v2, v3, v4, v5], _ => exact ⟨v0, v1, v2, v3, v4, v5, rfl⟩
theorem len7 {α : Type} {l : List α} (h : l.length = 7) : ∃ v0 v1 v2 v3 v4 v5 v6, l = [v0, v1, v2, v3, v4, v5, v6] := by
  match l, h with
  | [v0, v1, v2, v3, v4, v5, v6], _ => exact ⟨v0, v1, v2, v3, v4, v5, v6, rfl⟩
theorem len8 {α : Type} {l : List α} (h : l.length = 8) : ∃ v0 v1 v2 v3 v4 v5 v6 v7, l = [v0, v1, v2, v3, v4, v5, v6, v7] := by
  match l, h with
  | [v0, v1, v2, v3, v4, v5, v6, v7], _ => exact ⟨v0, v1, v2, v3, v4, v5, v6, v7, rfl⟩
theorem len9 {α : Type} {l : List α} (h : l.length = 9) : ∃ v0 v1 v2 v3 v4 v5 v6 v7 v8, l = [v0, v1, v2, v3, v4, v5, v6, v7, v8] := by
  match l, h with
  | [v0, v1, v2, v3, v4, v5, v6, v7, v8], _ => exact ⟨v0, v1, v2, v3, v4, v5, v6, v7, v8, rfl⟩
theorem len10 {α : Type} {l : List α} (h : l.length = 10) : ∃ v0 v1 v2 v3 v4 v5 v6 v7 v8 v9, l = [v0, v1, v2, v3, v4, v5, v6, v7, v8, v9] := by
  match l, h with
  | [v0, v1, v2, v3, v4, v5, v6, v7, v8, v9], _ => exact ⟨v0, v1, v2, v3, v4, v5, v6, v7, v8, v9, rfl⟩
theorem len11 {α : Type} {l : List α} (h : l.length = 11) : ∃ v0 v1 v2 v3 v4 v5 v6 v7 v8 v9 v10, l = [v0, v1, v2, v3, v4, v5, v6, v7, v8, v9, v10] := by
  match l, h with
  | [v0, v1, v2, v3, v4, v5, v6, v7, v8, v9, v10], _ => exact ⟨v0, v1, v2, v3, v4, v5, v6, v7, v8, v9, v10, rfl⟩

/-! Whatever order is picked, and S holds behind each of the first m operations (behind later ones it need not). -/
section
variable {P : Program} {ops : Array Oper} {Q : Exit → Act → World → Prop} {md : Region.Mode} {S : World → Prop} {m : Nat}
def anyX (P : Program) (md : Region.Mode) (ops : Array Oper) (Q : Exit → Act → World → Prop) (S : World → Prop) (m : Nat) : Nat → Array Bool → Act → World → Prop
  | 0, listed, a, w => Region.ready md ops listed = [] ∧ Q .normal a w
  | fuel + 1, listed, a, w => (Region.ready md ops listed = [] → Q .normal a w) ∧ ∀ i ∈ Region.ready md ops listed, wpOp P ops Q i (fun a' w' => (i < m → S w') ∧ anyX P md ops Q S m fuel (listed.setIfInBounds i true) a' w') a w
theorem any_of_x : ∀ (fuel : Nat) (listed : Array Bool) (a : Act) (w : World), anyX P md ops Q S m fuel listed a w → wpAny P md ops Q fuel listed a w
  | 0, _, _, _, h => h
  | fuel + 1, _, _, _, h => ⟨h.1, fun i hi => wpOp_mono (fun a' w' h' => any_of_x fuel _ a' w' h'.2) (h.2 i hi)⟩
/-- One that only looks is taken first; the later ones wait for it. -/
theorem anyX_first {i : Nat} {oi : Oper} {v : Value} (hi : ops[i]? = some oi) (hsel : ∀ (j : Nat) (o : Oper) cs b, ops[j]? = some o → o.op ≠ .select cs b) (hQ : ∀ c a w, Q (.panic c) (a.put oi.dst v) w → Q (.panic c) a w)
    (hlate : ∀ (j : Nat) (o : Oper), m ≤ j → ops[j]? = some o → j ≠ i → ∃ e ∈ o.after, Region.binds md e = true ∧ e.on = i) :
    ∀ (fuel : Nat) (listed : Array Bool) (a : Act) (w : World),
      (∀ j oj, ops[j]? = some oj → j ≠ i → listed.getD j true = false → (∀ e ∈ oj.after, Region.binds md e = true → e.on ≠ i) → oi.apart ops oj = true) →
      i ∈ Region.ready md ops listed → YieldsIf P ops S oi v a → S w →
      anyX P md ops Q S m fuel (listed.setIfInBounds i true) (a.put oi.dst v) w → anyX P md ops Q S m (fuel + 1) listed a w := by
  intro fuel
  induction fuel with
  | zero =>
    intro listed a w _ hr hy hS hX
    refine ⟨fun h => (by rw [h] at hr; cases hr), fun j hj => ?_⟩
    by_cases hji : j = i
    · subst hji; exact hy.wpOp hi hS ⟨fun _ => hS, hX⟩
    · have := ready_mono hj hji
      rw [hX.1] at this
      cases this
  | succ fuel ih =>
    intro listed a w hfree hr hy hS hX
    refine ⟨fun h => (by rw [h] at hr; cases hr), fun j hj => ?_⟩
    by_cases hji : j = i
    · subst hji; exact hy.wpOp hi hS ⟨fun _ => hS, hX⟩
    · obtain ⟨hjun, oj, hoj, hall⟩ := mem_ready.1 hj
      have hnot : ∀ e ∈ oj.after, Region.binds md e = true → e.on ≠ i := fun e he hbd heq => by
        have h1 := hall e he hbd
        have h0 := (mem_ready.1 hr).1
        rw [heq] at h1
        rw [Array.getD_eq_getD_getElem?] at h0 h1
        cases hl : listed[i]? with
        | none => rw [hl] at h1; cases h1
        | some bb => rw [hl] at h0 h1; simp only [Option.getD_some] at h0 h1; rw [h0] at h1; cases h1
      have hjm : j < m := by
        rcases Nat.lt_or_ge j m with h | h
        · exact h
        · obtain ⟨e, he, hbd, hon⟩ := hlate j oj h hoj hji
          exact absurd hon (hnot e he hbd)
      have h2 := wpOp_putIf hoj (hfree j oj hoj hji hjun hnot) (fun cs b => hsel i oi cs b hi) (fun cs b => hsel j oj cs b hoj) hQ hy (hX.2 j (ready_mono hj hji))
      refine wpOp_mono (fun a' w' h3 => ⟨fun _ => h3.2.1 hjm, ih (listed.setIfInBounds j true) a' w' ?_ (ready_mono hr (Ne.symm hji)) h3.1 (h3.2.1 hjm) ?_⟩) h2
      · intro k ok hk hki hun hno
        refine hfree k ok hk hki ?_ hno
        by_cases hjk : j = k
        · subst hjk; exact hjun
        · rw [getD_set_ne true hjk] at hun; exact hun
      · rw [Array.setIfInBounds_comm _ _ hji]
        exact h3.2.2
end

section
variable {P : Program} [Gl P] {nt : Nat} {c : Cx P nt} {env : Env} {H Hr : List Ch} {ops : Array Oper} {Q : Exit → Act → World → Prop} {Sw : World → Prop} {L : List (Nat × List Value × TypeId)}
variable {m fuel : Nat} {listed : Array Bool} {d ty t t' : TypeId} {pos : String} {af : Array Edge} {x y : Operand}

def HP (c : Cx P nt) (ops : Array Oper) (Q : Exit → Act → World → Prop) (Sw : World → Prop) (m fuel : Nat) (listed : Array Bool) (env : Env) (H : List Ch) : Prop :=
  ∀ a w, St c env H a w → Sw w → anyX P .any ops Q Sw m fuel listed a w
/-- From number m on each waits for this one. -/
def lateWait (ops : Array Oper) (m i : Nat) : Bool := ops.toList.zipIdx.all fun (o, j) => decide (j < m) || j == i || hasEdge o i
omit [Gl P] in
theorem late_spec {i : Nat} (h : lateWait ops m i = true) : ∀ (j : Nat) (o : Oper), m ≤ j → ops[j]? = some o → j ≠ i → ∃ e ∈ o.after, Region.binds .any e = true ∧ e.on = i := by
  intro j o hj ho hne
  have h1 := List.all_eq_true.1 h (o, j) (by rw [List.mem_zipIdx_iff_getElem?]; simpa using ho)
  have h2 : decide (j < m) = false := by simpa using hj
  have h3 : (j == i) = false := by simpa using hne
  simp only [h2, h3, Bool.false_or] at h1
  exact edge_spec h1
theorem hp_take {i : Nat} {op : Op} {s : S} (hi : ops[i]? = some ⟨some d, op, ty, pos, af, none⟩) (hs : (Region.noSelect ops && lateWait ops m i) = true) (hf : Region.free .any ops listed i = true) (hr : (Region.ready .any ops listed).contains i = true) (hd : d < nt) (hQ : PanI Q)
    (hop : HOk c Sw env H ⟨some d, op, ty, pos, af, none⟩ s) (h : HP c ops Q Sw m fuel (listed.setIfInBounds i true) ((d, s) :: env) H) : HP c ops Q Sw m (fuel + 1) listed env H := by
  intro a w hst hS
  obtain ⟨v, h1, h2⟩ := hop a w hst hS
  rw [Bool.and_eq_true] at hs
  exact anyX_first hi (Region.noSelect_spec hs.1) (fun ch a w h => hQ ch a _ _ w h) (late_spec hs.2) fuel listed a w (Region.free_spec hi hf) (by simpa using hr) (.inl ⟨rfl, h1⟩) hS (h _ _ (hst.next hd hst.heap h2 (fun _ _ h => h)) hS)
omit [Gl P] in
theorem anyX_all {rs : List Nat} {a : Act} {w : World} (hr : Region.ready .any ops listed = rs) (hne : rs ≠ []) (h : ∀ i ∈ rs, wpOp P ops Q i (fun a' w' => (i < m → Sw w') ∧ anyX P .any ops Q Sw m fuel (listed.setIfInBounds i true) a' w') a w) : anyX P .any ops Q Sw m (fuel + 1) listed a w :=
  ⟨fun h0 => absurd (hr ▸ h0) hne, hr ▸ h⟩
/-- The only one that may come up now. -/
theorem hp_op {i : Nat} {op : Op} (hi : ops[i]? = some ⟨some d, op, ty, pos, af, none⟩) (hr : Region.ready .any ops listed = [i]) (hd : d < nt)
    (h : OpWp c ⟨some d, op, ty, pos, af, none⟩ env H (fun s H' => (∀ w, StW c H' w → Sw w) ∧ HP c ops Q Sw m fuel (listed.setIfInBounds i true) ((d, s) :: env) H')) : HP c ops Q Sw m (fuel + 1) listed env H := by
  intro a w hst hS
  refine anyX_all hr (by simp) (fun j hj => ?_)
  obtain rfl : j = i := by simpa using hj
  unfold wpOp
  rw [hi]
  dsimp only
  rw [if_pos (show Region.wanted _ _ = true from rfl)]
  refine .inl (h a w hst _ _ ?_)
  intro s H' v w' hK hw' hv hk
  exact ⟨fun _ => hK.1 _ hw', hK.2 _ _ (hst.next hd hw' hv hk) (hK.1 _ hw')⟩
theorem hp_op0 {i : Nat} {op : Op} (hi : ops[i]? = some ⟨none, op, ty, pos, af, none⟩) (hr : Region.ready .any ops listed = [i])
    (h : OpWp c ⟨none, op, ty, pos, af, none⟩ env H (fun _ H' => (∀ w, StW c H' w → Sw w) ∧ HP c ops Q Sw m fuel (listed.setIfInBounds i true) env H')) : HP c ops Q Sw m (fuel + 1) listed env H := by
  intro a w hst hS
  refine anyX_all hr (by simp) (fun j hj => ?_)
  obtain rfl : j = i := by simpa using hj
  unfold wpOp
  rw [hi]
  dsimp only
  rw [if_pos (show Region.wanted _ _ = true from rfl)]
  refine .inl (h a w hst _ _ ?_)
  intro s H' v w' hK hw' hv hk
  exact ⟨fun _ => hK.1 _ hw', hK.2 _ _ (hst.next0 hw' hk) (hK.1 _ hw')⟩
theorem hp_pan {i : Nat} {dd : Option Nat} {op : Op} {v : Value} (hi : ops[i]? = some ⟨dd, op, ty, pos, af, none⟩) (hr : Region.ready .any ops listed = [i])
    (h : OpPan c ⟨dd, op, ty, pos, af, none⟩ env H v) (hq : PanQ c Q v) : HP c ops Q Sw m (fuel + 1) listed env H := by
  intro a w hst hS
  refine anyX_all hr (by simp) (fun j hj => ?_)
  obtain rfl : j = i := by simpa using hj
  unfold wpOp
  rw [hi]
  dsimp only
  rw [if_pos (show Region.wanted _ _ = true from rfl)]
  exact .inl (h a w hst _ _ hq)
theorem hp_done (hr : Region.ready .any ops listed = []) (h : JQ c Q .normal env H) : HP c ops Q Sw m fuel listed env H := by
  intro a w hst _
  cases fuel with
  | zero => exact ⟨hr, h a w hst⟩
  | succ fuel => exact ⟨fun _ => h a w hst, by rw [hr]; simp⟩
/-- What comes behind the first m, one after the other: nothing need hold any more. -/
def HT (c : Cx P nt) (ops : Array Oper) (Q : Exit → Act → World → Prop) (Sw : World → Prop) (m fuel : Nat) (listed : Array Bool) (env : Env) (H : List Ch) : Prop :=
  ∀ a w, St c env H a w → anyX P .any ops Q Sw m fuel listed a w
theorem hp_tail (h : HT c ops Q Sw m fuel listed env H) : HP c ops Q Sw m fuel listed env H := fun a w hst _ => h a w hst
theorem ht_op {i : Nat} {op : Op} (hi : ops[i]? = some ⟨some d, op, ty, pos, af, none⟩) (hr : Region.ready .any ops listed = [i]) (hd : d < nt) (hm : m ≤ i)
    (h : OpWp c ⟨some d, op, ty, pos, af, none⟩ env H (fun s H' => HT c ops Q Sw m fuel (listed.setIfInBounds i true) ((d, s) :: env) H')) : HT c ops Q Sw m (fuel + 1) listed env H := by
  intro a w hst
  refine anyX_all hr (by simp) (fun j hj => ?_)
  obtain rfl : j = i := by simpa using hj
  unfold wpOp
  rw [hi]
  dsimp only
  rw [if_pos (show Region.wanted _ _ = true from rfl)]
  refine .inl (h a w hst _ _ ?_)
  intro s H' v w' hK hw' hv hk
  exact ⟨fun hlt => absurd hlt (by omega), hK _ _ (hst.next hd hw' hv hk)⟩
theorem ht_op0 {i : Nat} {op : Op} (hi : ops[i]? = some ⟨none, op, ty, pos, af, none⟩) (hr : Region.ready .any ops listed = [i]) (hm : m ≤ i)
    (h : OpWp c ⟨none, op, ty, pos, af, none⟩ env H (fun _ H' => HT c ops Q Sw m fuel (listed.setIfInBounds i true) env H')) : HT c ops Q Sw m (fuel + 1) listed env H := by
  intro a w hst
  refine anyX_all hr (by simp) (fun j hj => ?_)
  obtain rfl : j = i := by simpa using hj
  unfold wpOp
  rw [hi]
  dsimp only
  rw [if_pos (show Region.wanted _ _ = true from rfl)]
  refine .inl (h a w hst _ _ ?_)
  intro s H' v w' hK hw' hv hk
  exact ⟨fun hlt => absurd hlt (by omega), hK _ _ (hst.next0 hw' hk)⟩
theorem ht_done (hr : Region.ready .any ops listed = []) (h : JQ c Q .normal env H) : HT c ops Q Sw m fuel listed env H := by
  intro a w hst
  cases fuel with
  | zero => exact ⟨hr, h a w hst⟩
  | succ fuel => exact ⟨fun _ => h a w hst, by rw [hr]; simp⟩
theorem hp_exact {b : Nat} {bt : TypeId} {row : List C} {cs : List Value} (j : Nat) (hp : pick [j] H = some ([.blk b bt row], Hr)) (hm : (b, cs, bt) ∈ L) (h : HP c ops Q (Keep L) m fuel listed env (.blk b bt (cs.map C.val) :: Hr)) : HP c ops Q (Keep L) m fuel listed env H := by
  intro a w hst hS
  obtain ⟨cs', g1, g2⟩ := blk_ok hst hp
  have g3 := hS _ hm
  dsimp only at g3
  rw [g1] at g3
  obtain rfl : cs' = cs := by simpa using g3
  exact h a w (st_row hst hp ⟨cs', g1, rdRow_exact g2⟩) hS
theorem hp_freeze (i j : Nat) {v : Value} {e : TypeId} {k : Nat} {rows : List (List C)} (hi : env.lookup i = some (.cell (.val v))) (hp : pick [j] H = some ([.own v e k rows], Hr)) (hX : ∀ b ∈ c.X, b ∈ hb Hr)
    (h : HP c ops Q Sw m fuel listed ((i, .cell (.list rows)) :: env) Hr) : HP c ops Q Sw m fuel listed env H := fun a w hs hS => h a w (st_freeze hs hi hp hX) hS
theorem hp_begin {id n : Nat} (m : Nat) (hn : ops.size = n) (hm : P.follows .mixedOrders = true) {a : Act} {w : World} (hs : St c env H a w) (hS : Sw { w with drawn := w.drawn + 1 }) (h : HP c ops Q Sw m n (Array.replicate n false) env H) : (Code.region id ops true).wp P Q a w := by
  subst hn
  refine wp_region_any hm (any_of_x (S := Sw) (m := m) _ _ _ _ ?_)
  obtain ⟨d1, d2⟩ := stw_drew hs.heap
  exact h a _ ⟨hs.size, hs.defers, fun t s hl => d2 _ _ (hs.slots t s hl), d1⟩ hS
/-- No block is looked at that is turned elsewhere. -/
theorem jc_hp0 {id n : Nat} (m : Nat) (hn : ops.size = n) (hm : P.follows .mixedOrders = true) (h : HP c ops Q (Keep []) m n (Array.replicate n false) env H) : JC c (.region id ops true) Q env H :=
  fun _ _ hs => hp_begin m hn hm hs (by intro p hp; cases hp) h
theorem jc_hp1 {id n : Nat} (m : Nat) (hn : ops.size = n) {b1 : Nat} {t1 : TypeId} {r1 : List C} (j1 : Nat) (hm : P.follows .mixedOrders = true) (hp : pick [j1] H = some ([.blk b1 t1 r1], Hr))
    (h : ∀ cs1 : List Value, cs1.length = r1.length → HP c ops Q (Keep [(b1, cs1, t1)]) m n (Array.replicate n false) env H) : JC c (.region id ops true) Q env H := by
  intro a w hs
  obtain ⟨cs1, g1, k1⟩ := blk_ok hs hp
  refine hp_begin m hn hm hs ?_ (h cs1 (rdRow_length k1))
  intro p hp
  obtain rfl := List.mem_singleton.1 hp
  exact g1
theorem jc_hp2 {id n : Nat} (m : Nat) (hn : ops.size = n) {b1 b2 : Nat} {t1 t2 : TypeId} {r1 r2 : List C} (j1 j2 : Nat) (hm : P.follows .mixedOrders = true) (hp : pick [j1, j2] H = some ([.blk b1 t1 r1, .blk b2 t2 r2], Hr))
    (h : ∀ cs1 cs2 : List Value, cs1.length = r1.length → cs2.length = r2.length → HP c ops Q (Keep [(b1, cs1, t1), (b2, cs2, t2)]) m n (Array.replicate n false) env H) : JC c (.region id ops true) Q env H := by
  intro a w hs
  have e1 := hs.heap.ok (.blk b1 t1 r1) ((pick_perm hp).mem_iff.2 (by simp))
  have e2 := hs.heap.ok (.blk b2 t2 r2) ((pick_perm hp).mem_iff.2 (by simp))
  obtain ⟨cs1, g1, k1⟩ := e1
  obtain ⟨cs2, g2, k2⟩ := e2
  refine hp_begin m hn hm hs ?_ (h cs1 cs2 (rdRow_length k1) (rdRow_length k2))
  intro p hp
  rcases List.mem_cons.1 hp with rfl | hp
  · exact g1
  · obtain rfl := List.mem_singleton.1 hp
    exact g2
/-- A block each of whose cells is known. -/
theorem jc_hpV {id n : Nat} (m : Nat) (hn : ops.size = n) {b1 : Nat} {t1 : TypeId} {r1 : List C} (j1 : Nat) (vs : List Value) (hm : P.follows .mixedOrders = true) (hp : pick [j1] H = some ([.blk b1 t1 r1], Hr)) (hv : r1 = vs.map C.val)
    (h : HP c ops Q (Keep [(b1, vs, t1)]) m n (Array.replicate n false) env H) : JC c (.region id ops true) Q env H := by
  intro a w hs
  obtain ⟨cs1, g1, g2⟩ := blk_ok hs hp
  subst hv
  obtain rfl := rdRow_vals g2
  refine hp_begin m hn hm hs ?_ h
  intro p hp
  obtain rfl := List.mem_singleton.1 hp
  exact g1
/-! What still stands -/
theorem keep0 : ∀ w, StW c H w → Keep [] w := by intro w _ p hp; cases hp
theorem keep1 {b1 : Nat} {t1 : TypeId} {cs1 : List Value} (j : Nat) (hp : H[j]? = some (.blk b1 t1 (cs1.map C.val))) : ∀ w, StW c H w → Keep [(b1, cs1, t1)] w :=
  keep_of (fun p hp2 => by
    obtain rfl := List.mem_singleton.1 hp2
    exact List.mem_of_getElem? hp)
theorem keep2 {b1 b2 : Nat} {t1 t2 : TypeId} {cs1 cs2 : List Value} (j k : Nat) (hp : H[j]? = some (.blk b1 t1 (cs1.map C.val))) (hq : H[k]? = some (.blk b2 t2 (cs2.map C.val))) : ∀ w, StW c H w → Keep [(b1, cs1, t1), (b2, cs2, t2)] w :=
  keep_of2 (List.mem_of_getElem? hp) (List.mem_of_getElem? hq)
theorem mem0 {α : Type} {x : α} {l : List α} : x ∈ x :: l := List.mem_cons_self ..
theorem mem1 {α : Type} {x y : α} {l : List α} : x ∈ y :: x :: l := List.mem_cons_of_mem _ (List.mem_cons_self ..)

theorem hok_nilCheck {d : Option Tmp} {b o : Nat} {sp : Option Nat} (hx : env.ev x = some (.cell (.val (.pointer (some ⟨b, o, sp⟩))))) : HOk c Sw env H ⟨d, .nilCheck x, ty, pos, af, none⟩ (.cell (.val (.pointer (some ⟨b, o, sp⟩)))) :=
  fun _ _ hst _ => ⟨.pointer (some ⟨b, o, sp⟩), fun _ _ => by simp [execOp, ev_val hst hx], rfl, rfl⟩
theorem hok_sub {d : Option Tmp} {m n : Int} (hx : env.ev x = some (In .i64 m)) (hy : env.ev y = some (In .i64 n)) (hb : -9223372036854775808 ≤ m - n ∧ m - n ≤ 9223372036854775807) : HOk c Sw env H ⟨d, .binOp .sub t x y t', ty, pos, af, none⟩ (In .i64 (m - n)) :=
  fun _ _ hst _ => ⟨.int .i64 (m - n), fun _ _ => by simp [execOp, ev_val hst hx, ev_val hst hy, eqGuard, binOp, Op.intArith, IntWalk.i64_in _ hb], rfl, rfl⟩
theorem hok_assign {d : Option Tmp} {s : S} (hx : env.ev x = some s) : HOk c Sw env H ⟨d, .assign x, ty, pos, af, none⟩ s :=
  fun a _ hst _ => ⟨a.eval x, fun _ _ => rfl, ev_ok hst hx⟩
theorem hok_loadN {d : Option Tmp} {b o : Nat} {row r : List C} {bt : TypeId} {cs : List Value} [TI P t] (j : Nat) (ha : aggB (TI.u P t) = true) (hx : env.ev x = some (.cell (.val (.pointer (some ⟨b, o, none⟩))))) (hp : pick [j] H = some ([.blk b bt row], Hr))
    (hm : (b, cs, bt) ∈ L) (hr : r = (row.drop o).take (TI.i P t).size) (hz : r.length = (TI.i P t).size) : HOk c (Keep L) env H ⟨d, .load t x, ty, pos, af, none⟩ (.row r) :=
  fun _ _ hst hS => by
    have hrd := blk_keep hst hp hS hm
    have h1 := rdRow_take (TI.i P t).size (rdRow_drop o hrd)
    rw [← hr] at h1
    have hlen := rdRow_length h1
    refine ⟨.agg ((cs.drop o).take (TI.i P t).size).toArray, fun w' hS' => ?_, _, rfl, by simpa using h1⟩
    have hh := hS' _ hm
    have hc := cells_take (cells_of_blk hh o) (TI.i P t).size
    simp only [execOp, ev_val hst hx, Instr.loadAt, Instr.sureAddr, Sem.run_bind, Sem.run_pure, Result.andThen_ok, run_loadVarN t ha (by rw [hlen, hz]) hc]
theorem ow_prefixMap {α : Type} {f : α → List C} {l : List α} {n : Nat} {d : Option Nat} {K : S → List Ch → Prop} {g : Option (Nat × Bool)} [SL P t] (hx : env.ev x = some (.cell (.list (l.map f)))) (hy : env.ev y = some (In .i64 (n : Int))) (hle : n ≤ l.length)
    (hK : K (.cell (.list ((l.take n).map f))) H) : OpWp c ⟨d, .slice t x none (some y) none, ty, pos, af, g⟩ env H K :=
  ow_prefix hx hy (by omega) (by rw [List.length_map]; omega) (by rw [show ((n : Int)).toNat = n by omega, ← List.map_take]; exact hK)
end
/-- More is known of the arguments. -/
theorem con_le {P : Program} [Gl P] {f : FuncId} {args args' : List S} {Hin : List Ch} {post : (S → List Ch → Prop) → Prop} (h : ∀ w A vs, SOks w A args vs → SOks w A args' vs) (con : Con P f args' Hin post) : Con P f args Hin post :=
  fun vs w A h1 h2 h3 h4 h5 h6 => con vs w A h1 h2 h3 (h w A vs h4) h5 h6
end Go.Vc
end
