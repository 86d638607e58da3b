import Derived.Test.YtjnfamgjffnfiaaDoorPd8
namespace Go.Proofs.YtjnfamgjffnfiaaDoor
open Go.Vc
attribute [local irreducible] JL JC JQ OpWp Con ConN
attribute [local irreducible] byteAt runLen isL isD isName hasW
set_option maxHeartbeats 4000000

theorem rtext_c : ∀ (t : T), t.ok → (textT t).size ≤ 1000000000 → Con Tryd.prog 15 [.row t.row'] [] (fun K => K (Str (textT t)) []) := by
  intro t
  induction t with
  | nu n =>
    intro hok hz
    have hI := number_c n hok
    have hz := numS_size n hok.1 hok.2
    have h40 := one_size 40
    have h41 := one_size 41
    have h2 : (⟨#[40]⟩ ++ numS n).size ≤ 30 := by rw [ByteArray.size_append]; omega
    show Con _ _ [.row [.val (.int .i64 1), .val (.int .i64 n), .val (.string ⟨#[]⟩), .val (.int .i64 0), .list (([] : List T).map T.row)]] [] _
    refine con_intro Tryd.func15 rfl rfl (Nat.le_of_ble_eq_true rfl) (fun c hc => ?_)
    refine jc_seq ?_
    refine jc_region ?_
    refine jl_op ?_ (nb rfl)
    refine ow_box rfl (fun bx => ?_)
    refine jl_op ?_ (nb rfl)
    refine ow_assign rfl ?_
    refine jl_nil ?_
    refine jq_then ?_
    refine jc_seq ?_
    refine jc_seq ?_
    refine jc_region ?_
    refine jl_op ?_ (nb rfl)
    refine ow_fieldAddr rfl rfl rfl (nb rfl) ?_
    refine jl_op ?_ (nb rfl)
    refine ow_load 0 rfl rfl rfl rfl ?_
    refine jl_nil ?_
    refine jq_then ?_
    refine jc_block ?_
    refine jc_seq ?_
    refine jc_region ?_
    refine jl_op ?_ (nb rfl)
    refine ow_eql rfl rfl ?_
    refine jl_op ?_ (nb rfl)
    refine ow_assign rfl ?_
    refine jl_nil ?_
    refine jq_then ?_
    refine jc_condd rfl (fun _ => ?_) (fun h => absurd rfl h)
    refine jc_seq ?_
    refine jc_seq ?_
    refine jc_region ?_
    refine jl_op ?_ (nb rfl)
    refine ow_fieldAddr rfl rfl rfl (nb rfl) ?_
    refine jl_op ?_ (nb rfl)
    refine ow_load 0 rfl rfl rfl rfl ?_
    refine jl_op ?_ (nb rfl)
    refine ow_lss rfl rfl ?_
    refine jl_nil ?_
    refine jq_then ?_
    refine jc_condd rfl (fun hn => ?_) (fun hn => ?_)
    · have e : textT (.nu n) = (⟨#[40]⟩ ++ numS n) ++ ⟨#[41]⟩ := by unfold textT; rw [if_pos hn]
      refine jc_seq ?_
      refine jc_region ?_
      refine jl_op ?_ (nb rfl)
      refine ow_fieldAddr rfl rfl rfl (nb rfl) ?_
      refine jl_op ?_ (nb rfl)
      refine ow_load 0 rfl rfl rfl rfl ?_
      refine jl_op ?_ (nb rfl)
      refine ow_call0 rfl (hI) ?_
      refine jl_op ?_ (nb rfl)
      refine ow_strcat rfl rfl (by omega) ?_
      refine jl_op ?_ (nb rfl)
      refine ow_strcat rfl rfl (by omega) ?_
      refine jl_op ?_ (nb rfl)
      refine ow_assign rfl ?_
      refine jl_nil ?_
      refine jq_then ?_
      refine jc_ret ?_
      refine jq_then_ret ?_
      refine jq_block_ret ?_
      refine jq_then_ret ?_
      refine jq_ret1 rfl rfl [] rfl (fun K h => by rw [e] at h; exact h)
    · have e : textT (.nu n) = numS n := by unfold textT; rw [if_neg hn]
      refine jc_skip ?_
      refine jq_then ?_
      refine jc_seq ?_
      refine jc_region ?_
      refine jl_op ?_ (nb rfl)
      refine ow_fieldAddr rfl rfl rfl (nb rfl) ?_
      refine jl_op ?_ (nb rfl)
      refine ow_load 0 rfl rfl rfl rfl ?_
      refine jl_op ?_ (nb rfl)
      refine ow_call0 rfl (hI) ?_
      refine jl_op ?_ (nb rfl)
      refine ow_assign rfl ?_
      refine jl_nil ?_
      refine jq_then ?_
      refine jc_ret ?_
      refine jq_block_ret ?_
      refine jq_then_ret ?_
      refine jq_ret1 rfl rfl [] rfl (fun K h => by rw [e] at h; exact h)
  | nm s =>
    intro hok hz
    show Con _ _ [.row [.val (.int .i64 2), .val (.int .i64 0), .val (.string s), .val (.int .i64 0), .list (([] : List T).map T.row)]] [] _
    refine con_intro Tryd.func15 rfl rfl (Nat.le_of_ble_eq_true rfl) (fun c hc => ?_)
    refine jc_seq ?_
    refine jc_region ?_
    refine jl_op ?_ (nb rfl)
    refine ow_box rfl (fun bx => ?_)
    refine jl_op ?_ (nb rfl)
    refine ow_assign rfl ?_
    refine jl_nil ?_
    refine jq_then ?_
    refine jc_seq ?_
    refine jc_seq ?_
    refine jc_region ?_
    refine jl_op ?_ (nb rfl)
    refine ow_fieldAddr rfl rfl rfl (nb rfl) ?_
    refine jl_op ?_ (nb rfl)
    refine ow_load 0 rfl rfl rfl rfl ?_
    refine jl_nil ?_
    refine jq_then ?_
    refine jc_block ?_
    refine jc_seq ?_
    refine jc_region ?_
    refine jl_op ?_ (nb rfl)
    refine ow_eql rfl rfl ?_
    refine jl_op ?_ (nb rfl)
    refine ow_assign rfl ?_
    refine jl_nil ?_
    refine jq_then ?_
    refine jc_condd rfl (fun h => by cases h) (fun _ => ?_)
    refine jc_seq ?_
    refine jc_region ?_
    refine jl_op ?_ (nb rfl)
    refine ow_eql rfl rfl ?_
    refine jl_op ?_ (nb rfl)
    refine ow_assign rfl ?_
    refine jl_nil ?_
    refine jq_then ?_
    refine jc_condd rfl (fun _ => ?_) (fun h => absurd rfl h)
    refine jc_seq ?_
    refine jc_region ?_
    refine jl_op ?_ (nb rfl)
    refine ow_fieldAddr rfl rfl rfl (nb rfl) ?_
    refine jl_op ?_ (nb rfl)
    refine ow_load 0 rfl rfl rfl rfl ?_
    refine jl_op ?_ (nb rfl)
    refine ow_assign rfl ?_
    refine jl_nil ?_
    refine jq_then ?_
    refine jc_ret ?_
    refine jq_block_ret ?_
    refine jq_then_ret ?_
    refine jq_ret1 rfl rfl [] rfl (fun K h => h)
  | ix s t ih =>
    intro hok hz
    have e : textT (.ix s t) = ((s ++ ⟨#[91]⟩) ++ textT t) ++ ⟨#[93]⟩ := by rw [textT]
    rw [e] at hz
    have h91 := one_size 91
    have h93 := one_size 93
    have hz1 := hz
    rw [ByteArray.size_append] at hz1
    have hz2 := hz1
    rw [ByteArray.size_append] at hz2
    have hz3 := hz2
    rw [ByteArray.size_append] at hz3
    have hI := ih hok.2 (by omega)
    have e1 : [t].length = 1 := rfl
    show Con _ _ [.row [.val (.int .i64 3), .val (.int .i64 0), .val (.string s), .val (.int .i64 0), .list ([t].map T.row)]] [] _
    refine con_intro Tryd.func15 rfl rfl (Nat.le_of_ble_eq_true rfl) (fun c hc => ?_)
    refine jc_seq ?_
    refine jc_region ?_
    refine jl_op ?_ (nb rfl)
    refine ow_box rfl (fun bx => ?_)
    refine jl_op ?_ (nb rfl)
    refine ow_assign rfl ?_
    refine jl_nil ?_
    refine jq_then ?_
    refine jc_seq ?_
    refine jc_seq ?_
    refine jc_region ?_
    refine jl_op ?_ (nb rfl)
    refine ow_fieldAddr rfl rfl rfl (nb rfl) ?_
    refine jl_op ?_ (nb rfl)
    refine ow_load 0 rfl rfl rfl rfl ?_
    refine jl_nil ?_
    refine jq_then ?_
    refine jc_block ?_
    refine jc_seq ?_
    refine jc_region ?_
    refine jl_op ?_ (nb rfl)
    refine ow_eql rfl rfl ?_
    refine jl_op ?_ (nb rfl)
    refine ow_assign rfl ?_
    refine jl_nil ?_
    refine jq_then ?_
    refine jc_condd rfl (fun h => by cases h) (fun _ => ?_)
    refine jc_seq ?_
    refine jc_region ?_
    refine jl_op ?_ (nb rfl)
    refine ow_eql rfl rfl ?_
    refine jl_op ?_ (nb rfl)
    refine ow_assign rfl ?_
    refine jl_nil ?_
    refine jq_then ?_
    refine jc_condd rfl (fun h => by cases h) (fun _ => ?_)
    refine jc_seq ?_
    refine jc_region ?_
    refine jl_op ?_ (nb rfl)
    refine ow_eql rfl rfl ?_
    refine jl_op ?_ (nb rfl)
    refine ow_assign rfl ?_
    refine jl_nil ?_
    refine jq_then ?_
    refine jc_condd rfl (fun _ => ?_) (fun h => absurd rfl h)
    refine jc_seq ?_
    refine jc_any rfl rfl (by kernel_rfl) (by kernel_rfl) ?_
    refine any_op (fun c => ow_fieldAddr rfl rfl rfl (nb rfl) ⟨rfl, List.Perm.refl _⟩) ?_
    refine any_op (fun c => ow_load 0 rfl rfl rfl rfl ⟨rfl, List.Perm.refl _⟩) ?_
    refine any_op (fun c => ow_strcat rfl rfl (by omega) ⟨rfl, List.Perm.refl _⟩) ?_
    refine any_op (fun c => ow_fieldAddr rfl rfl rfl (nb rfl) ⟨rfl, List.Perm.refl _⟩) ?_
    refine any_op (fun c => ow_load 0 rfl rfl rfl rfl ⟨rfl, List.Perm.refl _⟩) ?_
    refine any_op (fun c => ow_indexAddrMapI rfl rfl (by omega) (by omega) (T.row_eq _) rfl (nb rfl) ⟨rfl, List.Perm.refl _⟩) ?_
    refine any_op (fun c => ow_loadPlaceN rfl rfl rfl ⟨rfl, List.Perm.refl _⟩) ?_
    refine any_op (fun c => ow_call0 rfl (hI) ⟨rfl, List.Perm.refl _⟩) ?_
    refine any_op (fun c => ow_strcat rfl rfl (by omega) ⟨rfl, List.Perm.refl _⟩) ?_
    refine any_op (fun c => ow_strcat rfl rfl (by omega) ⟨rfl, List.Perm.refl _⟩) ?_
    refine any_op (fun c => ow_assign rfl ⟨rfl, List.Perm.refl _⟩) ?_
    refine any_nil ?_
    refine jq_then ?_
    refine jc_ret ?_
    refine jq_block_ret ?_
    refine jq_then_ret ?_
    refine jq_ret1 rfl rfl [] rfl (fun K h => by rw [e] at h; exact h)
  | bn o a b iha ihb =>
    intro hok hz
    have e : textT (.bn o a b) = (((((⟨#[40]⟩ ++ textT a) ++ ⟨#[32]⟩) ++ signT o) ++ ⟨#[32]⟩) ++ textT b) ++ ⟨#[41]⟩ := by rw [textT]
    rw [e] at hz
    have h40 := one_size 40
    have h32 := one_size 32
    have h41 := one_size 41
    have hz1 := hz
    rw [ByteArray.size_append] at hz1
    have hz2 := hz1
    rw [ByteArray.size_append] at hz2
    have hz3 := hz2
    rw [ByteArray.size_append] at hz3
    have hz4 := hz3
    rw [ByteArray.size_append] at hz4
    have hz5 := hz4
    rw [ByteArray.size_append] at hz5
    have hz6 := hz5
    rw [ByteArray.size_append] at hz6
    have hS := RSign_c o hok.1
    have hA := iha hok.2.1 (by omega)
    have hB := ihb hok.2.2 (by omega)
    have e1 : [a, b].length = 2 := rfl
    show Con _ _ [.row [.val (.int .i64 4), .val (.int .i64 0), .val (.string ⟨#[]⟩), .val (.int .i64 o), .list ([a, b].map T.row)]] [] _
    refine con_intro Tryd.func15 rfl rfl (Nat.le_of_ble_eq_true rfl) (fun c hc => ?_)
    refine jc_seq ?_
    refine jc_region ?_
    refine jl_op ?_ (nb rfl)
    refine ow_box rfl (fun bx => ?_)
    refine jl_op ?_ (nb rfl)
    refine ow_assign rfl ?_
    refine jl_nil ?_
    refine jq_then ?_
    refine jc_seq ?_
    refine jc_seq ?_
    refine jc_region ?_
    refine jl_op ?_ (nb rfl)
    refine ow_fieldAddr rfl rfl rfl (nb rfl) ?_
    refine jl_op ?_ (nb rfl)
    refine ow_load 0 rfl rfl rfl rfl ?_
    refine jl_nil ?_
    refine jq_then ?_
    refine jc_block ?_
    refine jc_seq ?_
    refine jc_region ?_
    refine jl_op ?_ (nb rfl)
    refine ow_eql rfl rfl ?_
    refine jl_op ?_ (nb rfl)
    refine ow_assign rfl ?_
    refine jl_nil ?_
    refine jq_then ?_
    refine jc_condd rfl (fun h => by cases h) (fun _ => ?_)
    refine jc_seq ?_
    refine jc_region ?_
    refine jl_op ?_ (nb rfl)
    refine ow_eql rfl rfl ?_
    refine jl_op ?_ (nb rfl)
    refine ow_assign rfl ?_
    refine jl_nil ?_
    refine jq_then ?_
    refine jc_condd rfl (fun h => by cases h) (fun _ => ?_)
    refine jc_seq ?_
    refine jc_region ?_
    refine jl_op ?_ (nb rfl)
    refine ow_eql rfl rfl ?_
    refine jl_op ?_ (nb rfl)
    refine ow_assign rfl ?_
    refine jl_nil ?_
    refine jq_then ?_
    refine jc_condd rfl (fun h => by cases h) (fun _ => ?_)
    refine jc_skip ?_
    refine jq_block ?_
    refine jq_then ?_
    refine jc_seq ?_
    refine jc_any rfl rfl (by kernel_rfl) (by kernel_rfl) ?_
    refine any_op (fun c => ow_fieldAddr rfl rfl rfl (nb rfl) ⟨rfl, List.Perm.refl _⟩) ?_
    refine any_op (fun c => ow_load 0 rfl rfl rfl rfl ⟨rfl, List.Perm.refl _⟩) ?_
    refine any_op (fun c => ow_indexAddrMapI rfl rfl (by omega) (by omega) (T.row_eq _) rfl (nb rfl) ⟨rfl, List.Perm.refl _⟩) ?_
    refine any_op (fun c => ow_loadPlaceN rfl rfl rfl ⟨rfl, List.Perm.refl _⟩) ?_
    refine any_op (fun c => ow_call0 rfl (hA) ⟨rfl, List.Perm.refl _⟩) ?_
    refine any_op (fun c => ow_strcat rfl rfl (by omega) ⟨rfl, List.Perm.refl _⟩) ?_
    refine any_op (fun c => ow_strcat rfl rfl (by omega) ⟨rfl, List.Perm.refl _⟩) ?_
    refine any_op (fun c => ow_fieldAddr rfl rfl rfl (nb rfl) ⟨rfl, List.Perm.refl _⟩) ?_
    refine any_op (fun c => ow_load 0 rfl rfl rfl rfl ⟨rfl, List.Perm.refl _⟩) ?_
    refine any_op (fun c => ow_call0 rfl (hS) ⟨rfl, List.Perm.refl _⟩) ?_
    refine any_op (fun c => ow_strcat rfl rfl (by omega) ⟨rfl, List.Perm.refl _⟩) ?_
    refine any_op (fun c => ow_strcat rfl rfl (by omega) ⟨rfl, List.Perm.refl _⟩) ?_
    refine any_op (fun c => ow_fieldAddr rfl rfl rfl (nb rfl) ⟨rfl, List.Perm.refl _⟩) ?_
    refine any_op (fun c => ow_load 0 rfl rfl rfl rfl ⟨rfl, List.Perm.refl _⟩) ?_
    refine any_op (fun c => ow_indexAddrMapI rfl rfl (by omega) (by omega) (T.row_eq _) rfl (nb rfl) ⟨rfl, List.Perm.refl _⟩) ?_
    refine any_op (fun c => ow_loadPlaceN rfl rfl rfl ⟨rfl, List.Perm.refl _⟩) ?_
    refine any_op (fun c => ow_call0 rfl (hB) ⟨rfl, List.Perm.refl _⟩) ?_
    refine any_op (fun c => ow_strcat rfl rfl (by omega) ⟨rfl, List.Perm.refl _⟩) ?_
    refine any_op (fun c => ow_strcat rfl rfl (by omega) ⟨rfl, List.Perm.refl _⟩) ?_
    refine any_op (fun c => ow_assign rfl ⟨rfl, List.Perm.refl _⟩) ?_
    refine any_nil ?_
    refine jq_then ?_
    refine jc_ret ?_
    refine jq_ret1 rfl rfl [] rfl (fun K h => by rw [e] at h; exact h)

theorem name_size {s : ByteArray} (h : nmOk s) : s.size ≤ 12 := by
  have := h.1
  unfold isName at this
  simp only [Bool.and_eq_true, decide_eq_true_eq] at this
  exact this.1.2
theorem text_size : ∀ (t : T), t.ok → (textT t).size + 50 ≤ 100 * 2 ^ t.dep
  | .nu n, h => by
    have := numS_size n h.1 h.2
    have h40 := one_size 40
    have h41 := one_size 41
    unfold textT
    simp only [T.dep]
    split
    · rw [ByteArray.size_append, ByteArray.size_append]; omega
    · omega
  | .nm s, h => by
    have := name_size h
    simp only [textT, T.dep]
    omega
  | .ix s t, h => by
    have := name_size h.1
    have := text_size t h.2
    have h91 := one_size 91
    have h93 := one_size 93
    simp only [textT, T.dep, ByteArray.size_append, Nat.pow_succ]
    omega
  | .bn o a b, h => by
    have h1 := text_size a h.2.1
    have h2 := text_size b h.2.2
    have h3 := sign_size h.1
    have h40 := one_size 40
    have h32 := one_size 32
    have h41 := one_size 41
    have e1 : 2 ^ a.dep ≤ 2 ^ max a.dep b.dep := Nat.pow_le_pow_right (by decide) (by omega)
    have e2 : 2 ^ b.dep ≤ 2 ^ max a.dep b.dep := Nat.pow_le_pow_right (by decide) (by omega)
    simp only [textT, T.dep, ByteArray.size_append, Nat.pow_succ]
    omega
theorem text_small {t : T} (h : t.ok) (hd : t.dep ≤ 8) : (textT t).size ≤ 1000000000 := by
  have h1 := text_size t h
  have h2 : 2 ^ t.dep ≤ 2 ^ 8 := Nat.pow_le_pow_right (by decide) hd
  omega
def exprF (t : T) : ByteArray × Int := if 8 < t.dep then (⟨#[]⟩, 4) else (textT t, 0)
theorem Expr_c (t : T) (h : t.ok) : Con Tryd.prog 7 [.row t.row'] [] (fun K => K (.tup [Str (exprF t).1, In .i64 (exprF t).2]) []) := by
  have hD := Depth_c 8 t (by omega)
  have hS := shaped_c 20 t (by omega) h
  rw [dl_eq] at hD
  rw [show (21 - ((20 : Nat) : Int)) = 1 by omega] at hS
  refine con_intro Tryd.func7 rfl rfl (Nat.le_of_ble_eq_true rfl) (fun c hc => ?_)
  refine jc_seq ?_
  refine jc_region ?_
  refine jl_op ?_ (nb rfl)
  refine ow_box rfl (fun bx => ?_)
  refine jl_op ?_ (nb rfl)
  refine ow_assign rfl ?_
  refine jl_op ?_ (nb rfl)
  refine ow_assign rfl ?_
  refine jl_nil ?_
  refine jq_then ?_
  refine jc_seq ?_
  refine jc_block ?_
  refine jc_seq ?_
  refine jc_region ?_
  refine jl_op ?_ (nb rfl)
  refine ow_loadAll 0 rfl rfl rfl rfl ?_
  refine jl_op ?_ (nb rfl)
  refine ow_call0 rfl (hD) ?_
  refine jl_op ?_ (nb rfl)
  refine ow_gtr rfl rfl ?_
  refine jl_op ?_ (nb rfl)
  refine ow_assign rfl ?_
  refine jl_nil ?_
  refine jq_then ?_
  refine jc_condd rfl (fun hd => ?_) (fun hd => ?_)
  · have e : exprF t = (⟨#[]⟩, 4) := by unfold exprF; rw [if_pos (by omega)]
    refine jc_seq ?_
    refine jc_region ?_
    refine jl_op ?_ (nb rfl)
    refine ow_assign rfl ?_
    refine jl_op ?_ (nb rfl)
    refine ow_assign rfl ?_
    refine jl_nil ?_
    refine jq_then ?_
    refine jc_ret ?_
    refine jq_block_ret ?_
    refine jq_then_ret ?_
    refine jq_ret2 rfl rfl rfl [] rfl (fun K h => by rw [e] at h; exact h)
  · have hd8 : t.dep ≤ 8 := by omega
    have e : exprF t = (textT t, 0) := by unfold exprF; rw [if_neg (by omega)]
    have hT := expr_c t h (text_small h hd8)
    refine jc_seq ?_
    refine jc_region ?_
    refine jl_op ?_ (nb rfl)
    refine ow_loadAll 0 rfl rfl rfl rfl ?_
    refine jl_op ?_ (nb rfl)
    refine ow_call0 rfl (hS) ?_
    refine jl_op ?_ (nb rfl)
    refine ow_not rfl ?_
    refine jl_op ?_ (nb rfl)
    refine ow_assign rfl ?_
    refine jl_nil ?_
    refine jq_then ?_
    refine jc_cond rfl (fun h => by cases h) (fun _ => ?_)
    refine jc_skip ?_
    refine jq_block ?_
    refine jq_then ?_
    refine jc_seq ?_
    refine jc_region ?_
    refine jl_op ?_ (nb rfl)
    refine ow_loadAll 0 rfl rfl rfl rfl ?_
    refine jl_op ?_ (nb rfl)
    refine ow_call0 rfl (hT) ?_
    refine jl_op ?_ (nb rfl)
    refine ow_assign rfl ?_
    refine jl_op ?_ (nb rfl)
    refine ow_assign rfl ?_
    refine jl_nil ?_
    refine jq_then ?_
    refine jc_ret ?_
    refine jq_ret2 rfl rfl rfl [] rfl (fun K h => by rw [e] at h; exact h)
theorem RExpr_c (t : T) (h : t.ok) : Con Tryd.prog 8 [.row t.row'] [] (fun K => K (.tup [Str (exprF t).1, In .i64 (exprF t).2]) []) := by
  have hD := RDepth_c t
  have hS := rshaped_c 20 t (by omega) h
  rw [rd_eq 20 t (by omega)] at hD
  rw [show (21 - ((20 : Nat) : Int)) = 1 by omega] at hS
  refine con_intro Tryd.func8 rfl rfl (Nat.le_of_ble_eq_true rfl) (fun c hc => ?_)
  refine jc_seq ?_
  refine jc_region ?_
  refine jl_op ?_ (nb rfl)
  refine ow_box rfl (fun bx => ?_)
  refine jl_op ?_ (nb rfl)
  refine ow_assign rfl ?_
  refine jl_op ?_ (nb rfl)
  refine ow_assign rfl ?_
  refine jl_nil ?_
  refine jq_then ?_
  refine jc_seq ?_
  refine jc_seq ?_
  refine jc_region ?_
  refine jl_op ?_ (nb rfl)
  refine ow_loadAll 0 rfl rfl rfl rfl ?_
  refine jl_op ?_ (nb rfl)
  refine ow_call0 rfl (hD) ?_
  refine jl_op ?_ (nb rfl)
  refine ow_gtr rfl rfl ?_
  refine jl_nil ?_
  refine jq_then ?_
  refine jc_condd rfl (fun hd => ?_) (fun hd => ?_)
  · have e : exprF t = (⟨#[]⟩, 4) := by unfold exprF; rw [if_pos (by omega)]
    refine jc_seq ?_
    refine jc_region ?_
    refine jl_op ?_ (nb rfl)
    refine ow_assign rfl ?_
    refine jl_op ?_ (nb rfl)
    refine ow_assign rfl ?_
    refine jl_nil ?_
    refine jq_then ?_
    refine jc_ret ?_
    refine jq_then_ret ?_
    refine jq_ret2 rfl rfl rfl [] rfl (fun K h => by rw [e] at h; exact h)
  · have hd8 : t.dep ≤ 8 := by omega
    have e : exprF t = (textT t, 0) := by unfold exprF; rw [if_neg (by omega)]
    have hT := rtext_c t h (text_small h hd8)
    refine jc_skip ?_
    refine jq_then ?_
    refine jc_seq ?_
    refine jc_seq ?_
    refine jc_region ?_
    refine jl_op ?_ (nb rfl)
    refine ow_loadAll 0 rfl rfl rfl rfl ?_
    refine jl_op ?_ (nb rfl)
    refine ow_call0 rfl (hS) ?_
    refine jl_op ?_ (nb rfl)
    refine ow_not rfl ?_
    refine jl_nil ?_
    refine jq_then ?_
    refine jc_cond rfl (fun h => by cases h) (fun _ => ?_)
    refine jc_skip ?_
    refine jq_then ?_
    refine jc_seq ?_
    refine jc_region ?_
    refine jl_op ?_ (nb rfl)
    refine ow_loadAll 0 rfl rfl rfl rfl ?_
    refine jl_op ?_ (nb rfl)
    refine ow_call0 rfl (hT) ?_
    refine jl_op ?_ (nb rfl)
    refine ow_assign rfl ?_
    refine jl_op ?_ (nb rfl)
    refine ow_assign rfl ?_
    refine jl_nil ?_
    refine jq_then ?_
    refine jc_ret ?_
    refine jq_ret2 rfl rfl rfl [] rfl (fun K h => by rw [e] at h; exact h)

/-! Makers -/
theorem mName_c (s : ByteArray) : Con Tryd.prog 4 [Str s] [] (fun K => K (.row (T.nm s).row') []) := by
  refine con_intro Tryd.func4 rfl rfl (Nat.le_of_ble_eq_true rfl) (fun c hc => ?_)
  refine jc_seq ?_
  refine jc_region ?_
  refine jl_op ?_ (nb rfl)
  refine ow_alloc rfl rfl (fun bl => ?_)
  refine jl_nil ?_
  refine jq_then ?_
  refine jc_seq ?_
  refine jc_region ?_
  refine jl_op ?_ (nb rfl)
  refine ow_move rfl ?_
  refine jl_op ?_ (nb rfl)
  refine ow_build rfl rfl rfl rfl rfl ?_
  refine jl_op0 ?_
  refine ow_storeAll 0 rfl rfl rfl rfl rfl rfl ?_
  refine jl_nil ?_
  refine jq_then ?_
  refine jc_ret ?_
  refine jq_row 0 (T.nm s).row' rfl ?_ ?_
  · (repeat (first | exact RowLe.nil | refine RowLe.cons (CLe.refl _) ?_ | refine RowLe.cons CLe.nil ?_))
  · refine jq_retRow rfl rfl rfl rfl 0 rfl [] rfl (fun K h => h)
theorem mNum_c (n : Int) : Con Tryd.prog 5 [In .i64 n] [] (fun K => K (.row (T.nu n).row') []) := by
  refine con_intro Tryd.func5 rfl rfl (Nat.le_of_ble_eq_true rfl) (fun c hc => ?_)
  refine jc_seq ?_
  refine jc_region ?_
  refine jl_op ?_ (nb rfl)
  refine ow_alloc rfl rfl (fun bl => ?_)
  refine jl_nil ?_
  refine jq_then ?_
  refine jc_seq ?_
  refine jc_region ?_
  refine jl_op ?_ (nb rfl)
  refine ow_move rfl ?_
  refine jl_op ?_ (nb rfl)
  refine ow_build rfl rfl rfl rfl rfl ?_
  refine jl_op0 ?_
  refine ow_storeAll 0 rfl rfl rfl rfl rfl rfl ?_
  refine jl_nil ?_
  refine jq_then ?_
  refine jc_ret ?_
  refine jq_row 0 (T.nu n).row' rfl ?_ ?_
  · (repeat (first | exact RowLe.nil | refine RowLe.cons (CLe.refl _) ?_ | refine RowLe.cons CLe.nil ?_))
  · refine jq_retRow rfl rfl rfl rfl 0 rfl [] rfl (fun K h => h)
theorem mBin_c (o : Int) (a b : T) : Con Tryd.prog 6 [In .i64 o, .row a.row', .row b.row'] [] (fun K => K (.row (T.bn o a b).row') []) := by
  refine con_intro Tryd.func6 rfl rfl (Nat.le_of_ble_eq_true rfl) (fun c hc => ?_)
  refine jc_seq ?_
  refine jc_region ?_
  refine jl_op ?_ (nb rfl)
  refine ow_box rfl (fun bx => ?_)
  refine jl_op ?_ (nb rfl)
  refine ow_box rfl (fun bx => ?_)
  refine jl_op ?_ (nb rfl)
  refine ow_alloc rfl rfl (fun bl => ?_)
  refine jl_nil ?_
  refine jq_then ?_
  refine jc_seq ?_
  refine jc_region ?_
  refine jl_op ?_ (nb rfl)
  refine ow_move rfl ?_
  refine jl_op ?_ (nb rfl)
  refine ow_loadAll 2 rfl rfl rfl rfl ?_
  refine jl_op ?_ (nb rfl)
  refine ow_loadAll 1 rfl rfl rfl rfl ?_
  refine jl_op ?_ (nb rfl)
  refine ow_buildSlice rfl rfl (nb rfl) rfl rfl (nb rfl) ?_
  refine jl_op ?_ (nb rfl)
  refine ow_build rfl rfl rfl rfl rfl ?_
  refine jl_op0 ?_
  refine ow_storeAll 0 rfl rfl rfl rfl rfl rfl ?_
  refine jl_nil ?_
  refine jq_then ?_
  refine jc_ret ?_
  refine jq_row 0 (T.bn o a b).row' rfl ?_ ?_
  · (repeat (first | exact RowLe.nil | refine RowLe.cons (CLe.refl _) ?_ | refine RowLe.cons CLe.nil ?_))
    exact RowLe.cons (CLe.eq (by simp [T.row_eq, T.args])) .nil
  · refine jq_retRow rfl rfl rfl rfl 0 rfl [] rfl (fun K h => h)
end Go.Proofs.YtjnfamgjffnfiaaDoor
