import Derived.Test.YtamajcgdfjeehaaDoorMa2
section
namespace Go.Proofs.YtamajcgdfjeehaaDoor
open Go.Vc
attribute [local irreducible] JL JC JQ OpWp Con ConN Pan ConE OpPan hasW idxW isA isNum isNm numAt txtAt lineAt opAt lx lpx sx sxp dpR
set_option maxHeartbeats 4000000

/-! The reference's parser: its tokens, place, line and error (0: none yet) -/
abbrev Rz (b : Nat) (l : List Tok) (a : Nat) (ln e : Int) (fr : Bool) : Ch := .blk b 79 [.list (l.map Tok.row), .val (.int .i64 (a : Int)), .val (.int .i64 ln), .val (.int .i64 e), .val (.bool fr)]
theorem lineAt_getI {l : List Tok} {p : Nat} {m : Int} (h : m.toNat < l.length) (hm : m.toNat = min p (l.length - 1)) : lineAt l p = l[m.toNat].line := by
  have h2 : min p (l.length - 1) < l.length := by omega
  simp [lineAt, hm, h2]
section
variable {l : List Tok} {a b : Nat} {ln e : Int} {fr : Bool} (hl : l.length ≤ 1000000)
theorem rfail_e (he : ¬ e = 0) (p code : Int) : Con Tryd.prog 71 [Ptr b, In .i64 p, In .i64 code] [Rz b l a ln e fr] (fun K => K (.tup []) [Rz b l a ln e fr]) := by
  refine con_intro Tryd.func71 rfl rfl (Nat.le_of_ble_eq_true rfl) (fun c hc => ?_); refine jc_seq ?_; refine jc_seq ?_; refine jc_region ?_; refine jl_op (ow_move rfl ?_) (nb rfl); refine jl_op (ow_nilCheck rfl ?_) (nb rfl)
  refine jl_op (ow_fieldAddr rfl rfl rfl (nb rfl) ?_) (nb rfl); refine jl_op (ow_load 0 rfl rfl rfl rfl ?_) (nb rfl); refine jl_op (ow_neq rfl rfl ?_) (nb rfl); refine jl_nil ?_; refine jq_then ?_
  refine jc_condT rfl (decide_eq_true (by assumption)) ?_; refine jc_ret ?_; refine jq_then_ret ?_; refine jq_ret0 (.inl rfl) rfl [0] rfl (fun K h => h)
include hl in
theorem rfail_c (p : Nat) (hp : p ≤ 2000000) (code : Int) : Con Tryd.prog 71 [Ptr b, In .i64 (p : Int), In .i64 code] [Rz b l a ln 0 fr] (fun K => K (.tup []) [Rz b l a (lineAt l p) code fr]) := by
  have eL : (l.map Tok.row).length = l.length := List.length_map _
  refine con_intro Tryd.func71 rfl rfl (Nat.le_of_ble_eq_true rfl) (fun c hc => ?_)
  by_cases h0 : 0 < l.length
  · refine jc_seq ?_; refine jc_seq ?_; refine jc_region ?_; refine jl_op (ow_move rfl ?_) (nb rfl); refine jl_op (ow_nilCheck rfl ?_) (nb rfl); refine jl_op (ow_fieldAddr rfl rfl rfl (nb rfl) ?_) (nb rfl)
    refine jl_op (ow_load 0 rfl rfl rfl rfl ?_) (nb rfl); refine jl_op (ow_neq rfl rfl ?_) (nb rfl); refine jl_nil ?_; refine jq_then ?_; refine jc_condF rfl rfl ?_; refine jc_skip ?_; refine jq_then ?_; refine jc_seq ?_
    refine jc_region ?_; refine jl_op (ow_move rfl ?_) (nb rfl); refine jl_op (ow_move rfl ?_) (nb rfl); refine jl_op (ow_move rfl ?_) (nb rfl); refine jl_op (ow_nilCheck rfl ?_) (nb rfl)
    refine jl_op (ow_fieldAddr rfl rfl rfl (nb rfl) ?_) (nb rfl); refine jl_op0 (ow_store1 0 rfl rfl rfl rfl (nb rfl) ?_); refine jl_op (ow_nilCheck rfl ?_) (nb rfl); refine jl_op (ow_fieldAddr rfl rfl rfl (nb rfl) ?_) (nb rfl)
    refine jl_op0 (ow_store1 0 rfl rfl rfl rfl (nb rfl) ?_); refine jl_nil ?_; refine jq_then ?_; refine jc_seq ?_; refine jc_region ?_; refine jl_op (ow_move rfl ?_) (nb rfl); refine jl_op (ow_nilCheck rfl ?_) (nb rfl)
    refine jl_op (ow_fieldAddr rfl rfl rfl (nb rfl) ?_) (nb rfl); refine jl_op (ow_load 0 rfl rfl rfl rfl ?_) (nb rfl); refine jl_op (ow_len rfl (fun hlen => ?_)) (nb rfl); refine jl_op (ow_gtr rfl rfl ?_) (nb rfl)
    refine jl_nil ?_; refine jq_then ?_; refine jc_condT rfl (decide_eq_true (by omega)) ?_; refine jc_anyB 19 none rfl (by kernel_rfl) (by kernel_rfl) ?_; refine any_op (fun c => ow_move rfl ⟨rfl, List.Perm.refl _⟩) ?_
    refine any_op (fun c => ow_move rfl ⟨rfl, List.Perm.refl _⟩) ?_; refine any_op (fun c => ow_nilCheck rfl ⟨rfl, List.Perm.refl _⟩) ?_; refine any_op (fun c => ow_fieldAddr rfl rfl rfl (nb rfl) ⟨rfl, List.Perm.refl _⟩) ?_
    refine any_op (fun c => ow_load 0 rfl rfl rfl rfl ⟨rfl, List.Perm.refl _⟩) ?_; refine any_op (fun c => ow_move rfl ⟨rfl, List.Perm.refl _⟩) ?_; refine any_op (fun c => ow_move rfl ⟨rfl, List.Perm.refl _⟩) ?_
    refine any_op (fun c => ow_nilCheck rfl ⟨rfl, List.Perm.refl _⟩) ?_; refine any_op (fun c => ow_fieldAddr rfl rfl rfl (nb rfl) ⟨rfl, List.Perm.refl _⟩) ?_
    refine any_op (fun c => ow_load 0 rfl rfl rfl rfl ⟨rfl, List.Perm.refl _⟩) ?_; refine any_op (fun c => ow_len rfl (fun hlen => ⟨rfl, List.Perm.refl _⟩)) ?_
    refine any_op (fun c => ow_sub64 rfl rfl (by omega) ⟨rfl, List.Perm.refl _⟩) ?_; refine any_op (fun c => ow_min2 rfl rfl ⟨rfl, List.Perm.refl _⟩) ?_; refine any_op (fun c => ow_max2 rfl rfl ⟨rfl, List.Perm.refl _⟩) ?_
    refine any_op (fun c => ow_indexAddrMapI rfl rfl (by omega) (by omega) rfl rfl (nb rfl) ⟨rfl, List.Perm.refl _⟩) ?_; refine any_op (fun c => ow_fieldAddrPlace rfl rfl rfl (nb rfl) rfl (nb rfl) ⟨rfl, List.Perm.refl _⟩) ?_
    refine any_op (fun c => ow_loadPlace rfl rfl ⟨rfl, List.Perm.refl _⟩) ?_; refine any_op (fun c => ow_nilCheck rfl ⟨rfl, List.Perm.refl _⟩) ?_
    refine any_op (fun c => ow_fieldAddr rfl rfl rfl (nb rfl) ⟨rfl, List.Perm.refl _⟩) ?_; refine any_nil ?_; refine afin_none ?_; refine jl_op0 (ow_store1 0 rfl rfl rfl rfl (nb rfl) ?_); refine jl_nil ?_
    refine jq_ret0 (.inr rfl) rfl [0] rfl (fun K h => by rw [lineAt_getI (m := max 0 (min (p : Int) (((l.map Tok.row).length : Int) - 1))) (by omega) (by omega)] at h; exact h)
  · obtain rfl : l = [] := List.eq_nil_of_length_eq_zero (by omega)
    have e : lineAt [] p = 1 := by simp [lineAt]
    refine jc_seq ?_; refine jc_seq ?_; refine jc_region ?_; refine jl_op (ow_move rfl ?_) (nb rfl); refine jl_op (ow_nilCheck rfl ?_) (nb rfl); refine jl_op (ow_fieldAddr rfl rfl rfl (nb rfl) ?_) (nb rfl)
    refine jl_op (ow_load 0 rfl rfl rfl rfl ?_) (nb rfl); refine jl_op (ow_neq rfl rfl ?_) (nb rfl); refine jl_nil ?_; refine jq_then ?_; refine jc_condF rfl rfl ?_; refine jc_skip ?_; refine jq_then ?_; refine jc_seq ?_
    refine jc_region ?_; refine jl_op (ow_move rfl ?_) (nb rfl); refine jl_op (ow_move rfl ?_) (nb rfl); refine jl_op (ow_move rfl ?_) (nb rfl); refine jl_op (ow_nilCheck rfl ?_) (nb rfl)
    refine jl_op (ow_fieldAddr rfl rfl rfl (nb rfl) ?_) (nb rfl); refine jl_op0 (ow_store1 0 rfl rfl rfl rfl (nb rfl) ?_); refine jl_op (ow_nilCheck rfl ?_) (nb rfl); refine jl_op (ow_fieldAddr rfl rfl rfl (nb rfl) ?_) (nb rfl)
    refine jl_op0 (ow_store1 0 rfl rfl rfl rfl (nb rfl) ?_); refine jl_nil ?_; refine jq_then ?_; refine jc_seq ?_; refine jc_region ?_; refine jl_op (ow_move rfl ?_) (nb rfl); refine jl_op (ow_nilCheck rfl ?_) (nb rfl)
    refine jl_op (ow_fieldAddr rfl rfl rfl (nb rfl) ?_) (nb rfl); refine jl_op (ow_load 0 rfl rfl rfl rfl ?_) (nb rfl); refine jl_op (ow_len rfl (fun hlen => ?_)) (nb rfl); refine jl_op (ow_gtr rfl rfl ?_) (nb rfl)
    refine jl_nil ?_; refine jq_then ?_; refine jc_condF rfl rfl ?_; refine jc_skip ?_; refine jq_ret0 (.inr rfl) rfl [0] rfl (fun K h => by rw [e] at h; exact h)
theorem ris_e (he : ¬ e = 0) (w : ByteArray) : Con Tryd.prog 99 [Ptr b, Str w] [Rz b l a ln e fr] (fun K => K (Bl false) [Rz b l a ln e fr]) := by
  refine con_intro Tryd.func99 rfl rfl (Nat.le_of_ble_eq_true rfl) (fun c hc => ?_); refine jc_seq ?_; refine jc_region ?_; refine jl_op (ow_assign rfl ?_) (nb rfl); refine jl_nil ?_; refine jq_then ?_; refine jc_seq ?_
  refine jc_any rfl rfl (by kernel_rfl) (by kernel_rfl) ?_; refine any_op (fun c => ow_move rfl ⟨rfl, List.Perm.refl _⟩) ?_; refine any_op (fun c => ow_nilCheck rfl ⟨rfl, List.Perm.refl _⟩) ?_
  refine any_op (fun c => ow_fieldAddr rfl rfl rfl (nb rfl) ⟨rfl, List.Perm.refl _⟩) ?_; refine any_op (fun c => ow_load 0 rfl rfl rfl rfl ⟨rfl, List.Perm.refl _⟩) ?_
  refine any_op (fun c => ow_eql rfl rfl ⟨rfl, List.Perm.refl _⟩) ?_; refine any_op (fun c => ow_move rfl ⟨rfl, List.Perm.refl _⟩) ?_; refine any_guardN rfl (decide_eq_false (by assumption)) ?_
  refine any_guardN rfl (decide_eq_false (by assumption)) ?_; refine any_guardN rfl (decide_eq_false (by assumption)) ?_; refine any_guardN rfl (decide_eq_false (by assumption)) ?_
  refine any_guardN rfl (decide_eq_false (by assumption)) ?_; refine any_guardN rfl (decide_eq_false (by assumption)) ?_; refine any_guardN rfl (decide_eq_false (by assumption)) ?_
  refine any_guardN rfl (decide_eq_false (by assumption)) ?_; refine any_guardN rfl (decide_eq_false (by assumption)) ?_; refine any_guardN rfl (decide_eq_false (by assumption)) ?_
  refine any_op (fun c => ow_pickF rfl (decide_eq_false (by assumption)) rfl ⟨rfl, List.Perm.refl _⟩) ?_; refine any_op (fun c => ow_move rfl ⟨rfl, List.Perm.refl _⟩) ?_; refine any_guardN rfl rfl ?_; refine any_guardN rfl rfl ?_
  refine any_guardN rfl rfl ?_; refine any_guardN rfl rfl ?_; refine any_guardN rfl rfl ?_; refine any_guardN rfl rfl ?_; refine any_guardN rfl rfl ?_; refine any_guardN rfl rfl ?_; refine any_guardN rfl rfl ?_
  refine any_guardN rfl rfl ?_; refine any_guardN rfl rfl ?_; refine any_guardN rfl rfl ?_; refine any_op (fun c => ow_pickF rfl rfl rfl ⟨rfl, List.Perm.refl _⟩) ?_; refine any_op (fun c => ow_move rfl ⟨rfl, List.Perm.refl _⟩) ?_
  refine any_guardN rfl rfl ?_; refine any_guardN rfl rfl ?_; refine any_guardN rfl rfl ?_; refine any_guardN rfl rfl ?_; refine any_guardN rfl rfl ?_; refine any_guardN rfl rfl ?_; refine any_guardN rfl rfl ?_
  refine any_guardN rfl rfl ?_; refine any_guardN rfl rfl ?_; refine any_guardN rfl rfl ?_; refine any_guardN rfl rfl ?_; refine any_guardN rfl rfl ?_; refine any_guardN rfl rfl ?_
  refine any_op (fun c => ow_pickF rfl rfl rfl ⟨rfl, List.Perm.refl _⟩) ?_; refine any_op (fun c => ow_assign rfl ⟨rfl, List.Perm.refl _⟩) ?_; refine any_nil ?_; refine jq_then ?_; refine jc_ret ?_
  refine jq_ret1 rfl rfl [0] rfl (fun K h => h)
theorem ris_c (w : ByteArray) (ha : a ≤ l.length) : Con Tryd.prog 99 [Ptr b, Str w] [Rz b l a ln 0 fr] (fun K => K (Bl (isA l a w)) [Rz b l a ln 0 fr]) := by
  have eL : (l.map Tok.row).length = l.length := List.length_map _
  refine con_intro Tryd.func99 rfl rfl (Nat.le_of_ble_eq_true rfl) (fun c hc => ?_)
  by_cases hlt : a < l.length
  · have e := isA_get w hlt
    by_cases hk : l[a].kind = 2
    · have hkn : ¬ ¬ l[a].kind = 2 := fun h => h hk
      refine jc_seq ?_; refine jc_region ?_; refine jl_op (ow_assign rfl ?_) (nb rfl); refine jl_nil ?_; refine jq_then ?_; refine jc_seq ?_; refine jc_any rfl rfl (by kernel_rfl) (by kernel_rfl) ?_
      refine any_op (fun c => ow_move rfl ⟨rfl, List.Perm.refl _⟩) ?_; refine any_op (fun c => ow_nilCheck rfl ⟨rfl, List.Perm.refl _⟩) ?_; refine any_op (fun c => ow_fieldAddr rfl rfl rfl (nb rfl) ⟨rfl, List.Perm.refl _⟩) ?_
      refine any_op (fun c => ow_load 0 rfl rfl rfl rfl ⟨rfl, List.Perm.refl _⟩) ?_; refine any_op (fun c => ow_eql rfl rfl ⟨rfl, List.Perm.refl _⟩) ?_; refine any_op (fun c => ow_move rfl ⟨rfl, List.Perm.refl _⟩) ?_
      refine any_guardY rfl (decide_eq_true rfl) (fun c => ow_move rfl ⟨rfl, List.Perm.refl _⟩) ?_; refine any_guardY rfl (decide_eq_true rfl) (fun c => ow_nilCheck rfl ⟨rfl, List.Perm.refl _⟩) ?_
      refine any_guardY rfl (decide_eq_true rfl) (fun c => ow_fieldAddr rfl rfl rfl (nb rfl) ⟨rfl, List.Perm.refl _⟩) ?_; refine any_guardY rfl (decide_eq_true rfl) (fun c => ow_load 0 rfl rfl rfl rfl ⟨rfl, List.Perm.refl _⟩) ?_
      refine any_guardY rfl (decide_eq_true rfl) (fun c => ow_move rfl ⟨rfl, List.Perm.refl _⟩) ?_; refine any_guardY rfl (decide_eq_true rfl) (fun c => ow_nilCheck rfl ⟨rfl, List.Perm.refl _⟩) ?_
      refine any_guardY rfl (decide_eq_true rfl) (fun c => ow_fieldAddr rfl rfl rfl (nb rfl) ⟨rfl, List.Perm.refl _⟩) ?_; refine any_guardY rfl (decide_eq_true rfl) (fun c => ow_load 0 rfl rfl rfl rfl ⟨rfl, List.Perm.refl _⟩) ?_
      refine any_guardY rfl (decide_eq_true rfl) (fun c => ow_len rfl (fun hlen => ⟨rfl, List.Perm.refl _⟩)) ?_; refine any_guardY rfl (decide_eq_true rfl) (fun c => ow_lss rfl rfl ⟨rfl, List.Perm.refl _⟩) ?_
      refine any_op (fun c => ow_pickT rfl (decide_eq_true rfl) rfl ⟨rfl, List.Perm.refl _⟩) ?_; refine any_op (fun c => ow_move rfl ⟨rfl, List.Perm.refl _⟩) ?_
      refine any_guardY rfl (decide_eq_true (by omega)) (fun c => ow_move rfl ⟨rfl, List.Perm.refl _⟩) ?_; refine any_guardY rfl (decide_eq_true (by omega)) (fun c => ow_nilCheck rfl ⟨rfl, List.Perm.refl _⟩) ?_
      refine any_guardY rfl (decide_eq_true (by omega)) (fun c => ow_fieldAddr rfl rfl rfl (nb rfl) ⟨rfl, List.Perm.refl _⟩) ?_
      refine any_guardY rfl (decide_eq_true (by omega)) (fun c => ow_load 0 rfl rfl rfl rfl ⟨rfl, List.Perm.refl _⟩) ?_; refine any_guardY rfl (decide_eq_true (by omega)) (fun c => ow_move rfl ⟨rfl, List.Perm.refl _⟩) ?_
      refine any_guardY rfl (decide_eq_true (by omega)) (fun c => ow_nilCheck rfl ⟨rfl, List.Perm.refl _⟩) ?_
      refine any_guardY rfl (decide_eq_true (by omega)) (fun c => ow_fieldAddr rfl rfl rfl (nb rfl) ⟨rfl, List.Perm.refl _⟩) ?_
      refine any_guardY rfl (decide_eq_true (by omega)) (fun c => ow_load 0 rfl rfl rfl rfl ⟨rfl, List.Perm.refl _⟩) ?_
      refine any_guardY rfl (decide_eq_true (by omega)) (fun c => ow_indexAddrMapE rfl rfl (by omega) rfl rfl (nb rfl) ⟨rfl, List.Perm.refl _⟩) ?_
      refine any_guardY rfl (decide_eq_true (by omega)) (fun c => ow_fieldAddrPlace rfl rfl rfl (nb rfl) rfl (nb rfl) ⟨rfl, List.Perm.refl _⟩) ?_
      refine any_guardY rfl (decide_eq_true (by omega)) (fun c => ow_loadPlace rfl rfl ⟨rfl, List.Perm.refl _⟩) ?_; refine any_guardY rfl (decide_eq_true (by omega)) (fun c => ow_neq rfl rfl ⟨rfl, List.Perm.refl _⟩) ?_
      refine any_op (fun c => ow_pickT rfl (decide_eq_true (by omega)) rfl ⟨rfl, List.Perm.refl _⟩) ?_; refine any_op (fun c => ow_move rfl ⟨rfl, List.Perm.refl _⟩) ?_; refine any_guardN rfl (decide_eq_false (by assumption)) ?_
      refine any_guardN rfl (decide_eq_false (by assumption)) ?_; refine any_guardN rfl (decide_eq_false (by assumption)) ?_; refine any_guardN rfl (decide_eq_false (by assumption)) ?_
      refine any_guardN rfl (decide_eq_false (by assumption)) ?_; refine any_guardN rfl (decide_eq_false (by assumption)) ?_; refine any_guardN rfl (decide_eq_false (by assumption)) ?_
      refine any_guardN rfl (decide_eq_false (by assumption)) ?_; refine any_guardN rfl (decide_eq_false (by assumption)) ?_; refine any_guardN rfl (decide_eq_false (by assumption)) ?_
      refine any_guardN rfl (decide_eq_false (by assumption)) ?_; refine any_guardN rfl (decide_eq_false (by assumption)) ?_; refine any_guardN rfl (decide_eq_false (by assumption)) ?_
      refine any_op (fun c => ow_pickF rfl (decide_eq_false (by assumption)) rfl ⟨rfl, List.Perm.refl _⟩) ?_; refine any_op (fun c => ow_assign rfl ⟨rfl, List.Perm.refl _⟩) ?_; refine any_nil ?_; refine jq_then ?_
      refine jc_ret ?_; refine jq_ret1 rfl rfl [0] rfl (fun K h => by rw [e, decide_eq_true hk] at h; exact h)
    · refine jc_seq ?_; refine jc_region ?_; refine jl_op (ow_assign rfl ?_) (nb rfl); refine jl_nil ?_; refine jq_then ?_; refine jc_seq ?_; refine jc_any rfl rfl (by kernel_rfl) (by kernel_rfl) ?_
      refine any_op (fun c => ow_move rfl ⟨rfl, List.Perm.refl _⟩) ?_; refine any_op (fun c => ow_nilCheck rfl ⟨rfl, List.Perm.refl _⟩) ?_; refine any_op (fun c => ow_fieldAddr rfl rfl rfl (nb rfl) ⟨rfl, List.Perm.refl _⟩) ?_
      refine any_op (fun c => ow_load 0 rfl rfl rfl rfl ⟨rfl, List.Perm.refl _⟩) ?_; refine any_op (fun c => ow_eql rfl rfl ⟨rfl, List.Perm.refl _⟩) ?_; refine any_op (fun c => ow_move rfl ⟨rfl, List.Perm.refl _⟩) ?_
      refine any_guardY rfl (decide_eq_true rfl) (fun c => ow_move rfl ⟨rfl, List.Perm.refl _⟩) ?_; refine any_guardY rfl (decide_eq_true rfl) (fun c => ow_nilCheck rfl ⟨rfl, List.Perm.refl _⟩) ?_
      refine any_guardY rfl (decide_eq_true rfl) (fun c => ow_fieldAddr rfl rfl rfl (nb rfl) ⟨rfl, List.Perm.refl _⟩) ?_; refine any_guardY rfl (decide_eq_true rfl) (fun c => ow_load 0 rfl rfl rfl rfl ⟨rfl, List.Perm.refl _⟩) ?_
      refine any_guardY rfl (decide_eq_true rfl) (fun c => ow_move rfl ⟨rfl, List.Perm.refl _⟩) ?_; refine any_guardY rfl (decide_eq_true rfl) (fun c => ow_nilCheck rfl ⟨rfl, List.Perm.refl _⟩) ?_
      refine any_guardY rfl (decide_eq_true rfl) (fun c => ow_fieldAddr rfl rfl rfl (nb rfl) ⟨rfl, List.Perm.refl _⟩) ?_; refine any_guardY rfl (decide_eq_true rfl) (fun c => ow_load 0 rfl rfl rfl rfl ⟨rfl, List.Perm.refl _⟩) ?_
      refine any_guardY rfl (decide_eq_true rfl) (fun c => ow_len rfl (fun hlen => ⟨rfl, List.Perm.refl _⟩)) ?_; refine any_guardY rfl (decide_eq_true rfl) (fun c => ow_lss rfl rfl ⟨rfl, List.Perm.refl _⟩) ?_
      refine any_op (fun c => ow_pickT rfl (decide_eq_true rfl) rfl ⟨rfl, List.Perm.refl _⟩) ?_; refine any_op (fun c => ow_move rfl ⟨rfl, List.Perm.refl _⟩) ?_
      refine any_guardY rfl (decide_eq_true (by omega)) (fun c => ow_move rfl ⟨rfl, List.Perm.refl _⟩) ?_; refine any_guardY rfl (decide_eq_true (by omega)) (fun c => ow_nilCheck rfl ⟨rfl, List.Perm.refl _⟩) ?_
      refine any_guardY rfl (decide_eq_true (by omega)) (fun c => ow_fieldAddr rfl rfl rfl (nb rfl) ⟨rfl, List.Perm.refl _⟩) ?_
      refine any_guardY rfl (decide_eq_true (by omega)) (fun c => ow_load 0 rfl rfl rfl rfl ⟨rfl, List.Perm.refl _⟩) ?_; refine any_guardY rfl (decide_eq_true (by omega)) (fun c => ow_move rfl ⟨rfl, List.Perm.refl _⟩) ?_
      refine any_guardY rfl (decide_eq_true (by omega)) (fun c => ow_nilCheck rfl ⟨rfl, List.Perm.refl _⟩) ?_
      refine any_guardY rfl (decide_eq_true (by omega)) (fun c => ow_fieldAddr rfl rfl rfl (nb rfl) ⟨rfl, List.Perm.refl _⟩) ?_
      refine any_guardY rfl (decide_eq_true (by omega)) (fun c => ow_load 0 rfl rfl rfl rfl ⟨rfl, List.Perm.refl _⟩) ?_
      refine any_guardY rfl (decide_eq_true (by omega)) (fun c => ow_indexAddrMapE rfl rfl (by omega) rfl rfl (nb rfl) ⟨rfl, List.Perm.refl _⟩) ?_
      refine any_guardY rfl (decide_eq_true (by omega)) (fun c => ow_fieldAddrPlace rfl rfl rfl (nb rfl) rfl (nb rfl) ⟨rfl, List.Perm.refl _⟩) ?_
      refine any_guardY rfl (decide_eq_true (by omega)) (fun c => ow_loadPlace rfl rfl ⟨rfl, List.Perm.refl _⟩) ?_; refine any_guardY rfl (decide_eq_true (by omega)) (fun c => ow_neq rfl rfl ⟨rfl, List.Perm.refl _⟩) ?_
      refine any_op (fun c => ow_pickT rfl (decide_eq_true (by omega)) rfl ⟨rfl, List.Perm.refl _⟩) ?_; refine any_op (fun c => ow_move rfl ⟨rfl, List.Perm.refl _⟩) ?_
      refine any_guardY rfl (decide_eq_true (by assumption)) (fun c => ow_move rfl ⟨rfl, List.Perm.refl _⟩) ?_; refine any_guardY rfl (decide_eq_true (by assumption)) (fun c => ow_nilCheck rfl ⟨rfl, List.Perm.refl _⟩) ?_
      refine any_guardY rfl (decide_eq_true (by assumption)) (fun c => ow_fieldAddr rfl rfl rfl (nb rfl) ⟨rfl, List.Perm.refl _⟩) ?_
      refine any_guardY rfl (decide_eq_true (by assumption)) (fun c => ow_load 0 rfl rfl rfl rfl ⟨rfl, List.Perm.refl _⟩) ?_; refine any_guardY rfl (decide_eq_true (by assumption)) (fun c => ow_move rfl ⟨rfl, List.Perm.refl _⟩) ?_
      refine any_guardY rfl (decide_eq_true (by assumption)) (fun c => ow_nilCheck rfl ⟨rfl, List.Perm.refl _⟩) ?_
      refine any_guardY rfl (decide_eq_true (by assumption)) (fun c => ow_fieldAddr rfl rfl rfl (nb rfl) ⟨rfl, List.Perm.refl _⟩) ?_
      refine any_guardY rfl (decide_eq_true (by assumption)) (fun c => ow_load 0 rfl rfl rfl rfl ⟨rfl, List.Perm.refl _⟩) ?_
      refine any_guardY rfl (decide_eq_true (by assumption)) (fun c => ow_indexAddrMapE rfl rfl (by omega) rfl rfl (nb rfl) ⟨rfl, List.Perm.refl _⟩) ?_
      refine any_guardY rfl (decide_eq_true (by assumption)) (fun c => ow_fieldAddrPlace rfl rfl rfl (nb rfl) rfl (nb rfl) ⟨rfl, List.Perm.refl _⟩) ?_
      refine any_guardY rfl (decide_eq_true (by assumption)) (fun c => ow_loadPlace rfl rfl ⟨rfl, List.Perm.refl _⟩) ?_; refine any_guardY rfl (decide_eq_true (by assumption)) (fun c => ow_move rfl ⟨rfl, List.Perm.refl _⟩) ?_
      refine any_guardY rfl (decide_eq_true (by assumption)) (fun c => ow_streql rfl rfl ⟨rfl, List.Perm.refl _⟩) ?_; refine any_op (fun c => ow_pickT rfl (decide_eq_true (by assumption)) rfl ⟨rfl, List.Perm.refl _⟩) ?_
      refine any_op (fun c => ow_assign rfl ⟨rfl, List.Perm.refl _⟩) ?_; refine any_nil ?_; refine jq_then ?_; refine jc_ret ?_; refine jq_ret1 rfl rfl [0] rfl (fun K h => by rw [e, decide_eq_false hk] at h; exact h)
  · have e := isA_end w hlt
    have hlt2 : ¬ (a : Int) < l.length := by omega
    refine jc_seq ?_; refine jc_region ?_; refine jl_op (ow_assign rfl ?_) (nb rfl); refine jl_nil ?_; refine jq_then ?_; refine jc_seq ?_; refine jc_any rfl rfl (by kernel_rfl) (by kernel_rfl) ?_
    refine any_op (fun c => ow_move rfl ⟨rfl, List.Perm.refl _⟩) ?_; refine any_op (fun c => ow_nilCheck rfl ⟨rfl, List.Perm.refl _⟩) ?_; refine any_op (fun c => ow_fieldAddr rfl rfl rfl (nb rfl) ⟨rfl, List.Perm.refl _⟩) ?_
    refine any_op (fun c => ow_load 0 rfl rfl rfl rfl ⟨rfl, List.Perm.refl _⟩) ?_; refine any_op (fun c => ow_eql rfl rfl ⟨rfl, List.Perm.refl _⟩) ?_; refine any_op (fun c => ow_move rfl ⟨rfl, List.Perm.refl _⟩) ?_
    refine any_guardY rfl (decide_eq_true rfl) (fun c => ow_move rfl ⟨rfl, List.Perm.refl _⟩) ?_; refine any_guardY rfl (decide_eq_true rfl) (fun c => ow_nilCheck rfl ⟨rfl, List.Perm.refl _⟩) ?_
    refine any_guardY rfl (decide_eq_true rfl) (fun c => ow_fieldAddr rfl rfl rfl (nb rfl) ⟨rfl, List.Perm.refl _⟩) ?_; refine any_guardY rfl (decide_eq_true rfl) (fun c => ow_load 0 rfl rfl rfl rfl ⟨rfl, List.Perm.refl _⟩) ?_
    refine any_guardY rfl (decide_eq_true rfl) (fun c => ow_move rfl ⟨rfl, List.Perm.refl _⟩) ?_; refine any_guardY rfl (decide_eq_true rfl) (fun c => ow_nilCheck rfl ⟨rfl, List.Perm.refl _⟩) ?_
    refine any_guardY rfl (decide_eq_true rfl) (fun c => ow_fieldAddr rfl rfl rfl (nb rfl) ⟨rfl, List.Perm.refl _⟩) ?_; refine any_guardY rfl (decide_eq_true rfl) (fun c => ow_load 0 rfl rfl rfl rfl ⟨rfl, List.Perm.refl _⟩) ?_
    refine any_guardY rfl (decide_eq_true rfl) (fun c => ow_len rfl (fun hlen => ⟨rfl, List.Perm.refl _⟩)) ?_; refine any_guardY rfl (decide_eq_true rfl) (fun c => ow_lss rfl rfl ⟨rfl, List.Perm.refl _⟩) ?_
    refine any_op (fun c => ow_pickT rfl (decide_eq_true rfl) rfl ⟨rfl, List.Perm.refl _⟩) ?_; refine any_op (fun c => ow_move rfl ⟨rfl, List.Perm.refl _⟩) ?_; refine any_guardN rfl (decide_eq_false (by omega)) ?_
    refine any_guardN rfl (decide_eq_false (by omega)) ?_; refine any_guardN rfl (decide_eq_false (by omega)) ?_; refine any_guardN rfl (decide_eq_false (by omega)) ?_; refine any_guardN rfl (decide_eq_false (by omega)) ?_
    refine any_guardN rfl (decide_eq_false (by omega)) ?_; refine any_guardN rfl (decide_eq_false (by omega)) ?_; refine any_guardN rfl (decide_eq_false (by omega)) ?_; refine any_guardN rfl (decide_eq_false (by omega)) ?_
    refine any_guardN rfl (decide_eq_false (by omega)) ?_; refine any_guardN rfl (decide_eq_false (by omega)) ?_; refine any_guardN rfl (decide_eq_false (by omega)) ?_
    refine any_op (fun c => ow_pickF rfl (decide_eq_false (by omega)) rfl ⟨rfl, List.Perm.refl _⟩) ?_; refine any_op (fun c => ow_move rfl ⟨rfl, List.Perm.refl _⟩) ?_; refine any_guardN rfl rfl ?_; refine any_guardN rfl rfl ?_
    refine any_guardN rfl rfl ?_; refine any_guardN rfl rfl ?_; refine any_guardN rfl rfl ?_; refine any_guardN rfl rfl ?_; refine any_guardN rfl rfl ?_; refine any_guardN rfl rfl ?_; refine any_guardN rfl rfl ?_
    refine any_guardN rfl rfl ?_; refine any_guardN rfl rfl ?_; refine any_guardN rfl rfl ?_; refine any_guardN rfl rfl ?_; refine any_op (fun c => ow_pickF rfl rfl rfl ⟨rfl, List.Perm.refl _⟩) ?_
    refine any_op (fun c => ow_assign rfl ⟨rfl, List.Perm.refl _⟩) ?_; refine any_nil ?_; refine jq_then ?_; refine jc_ret ?_; refine jq_ret1 rfl rfl [0] rfl (fun K h => by rw [e] at h; exact h)
theorem ris_y {w : ByteArray} (ha : a ≤ l.length) (h : isA l a w = true) : Con Tryd.prog 99 [Ptr b, Str w] [Rz b l a ln 0 fr] (fun K => K (Bl true) [Rz b l a ln 0 fr]) := by have := ris_c (b := b) (ln := ln) (fr := fr) w ha; rwa [h] at this
theorem ris_n {w : ByteArray} (ha : a ≤ l.length) (h : isA l a w = false) : Con Tryd.prog 99 [Ptr b, Str w] [Rz b l a ln 0 fr] (fun K => K (Bl false) [Rz b l a ln 0 fr]) := by have := ris_c (b := b) (ln := ln) (fr := fr) w ha; rwa [h] at this
theorem rskip_e (he : ¬ e = 0) (w : ByteArray) : Con Tryd.prog 67 [Ptr b, Str w] [Rz b l a ln e fr] (fun K => K (Bl false) [Rz b l a ln e fr]) := by
  refine con_intro Tryd.func67 rfl rfl (Nat.le_of_ble_eq_true rfl) (fun c hc => ?_); refine jc_seq ?_; refine jc_region ?_; refine jl_op (ow_assign rfl ?_) (nb rfl); refine jl_nil ?_; refine jq_then ?_; refine jc_seq ?_
  refine jc_seq ?_; refine jc_region ?_; refine jl_op (ow_move rfl ?_) (nb rfl); refine jl_op (ow_move rfl ?_) (nb rfl); refine jl_op (ow_call1 [0] rfl rfl (ris_e he _) ?_) (nb rfl); refine jl_op (ow_not rfl ?_) (nb rfl)
  refine jl_nil ?_; refine jq_then ?_; refine jc_condT rfl rfl ?_; refine jc_seq ?_; refine jc_region ?_; refine jl_op (ow_assign rfl ?_) (nb rfl); refine jl_nil ?_; refine jq_then ?_; refine jc_ret ?_; refine jq_then_ret ?_
  refine jq_ret1 rfl rfl [0] rfl (fun K h => h)
include hl in
theorem rskip_y {w : ByteArray} (ha : a ≤ l.length) (h : isA l a w = true) : Con Tryd.prog 67 [Ptr b, Str w] [Rz b l a ln 0 fr] (fun K => K (Bl true) [Rz b l (a + 1) ln 0 fr]) := by
  refine con_intro Tryd.func67 rfl rfl (Nat.le_of_ble_eq_true rfl) (fun c hc => ?_); refine jc_seq ?_; refine jc_region ?_; refine jl_op (ow_assign rfl ?_) (nb rfl); refine jl_nil ?_; refine jq_then ?_; refine jc_seq ?_
  refine jc_seq ?_; refine jc_region ?_; refine jl_op (ow_move rfl ?_) (nb rfl); refine jl_op (ow_move rfl ?_) (nb rfl); refine jl_op (ow_call1 [0] rfl rfl (ris_y ha h) ?_) (nb rfl); refine jl_op (ow_not rfl ?_) (nb rfl)
  refine jl_nil ?_; refine jq_then ?_; refine jc_condF rfl rfl ?_; refine jc_skip ?_; refine jq_then ?_; refine jc_seq ?_; refine jc_region ?_; refine jl_op (ow_move rfl ?_) (nb rfl); refine jl_op (ow_nilCheck rfl ?_) (nb rfl)
  refine jl_op (ow_fieldAddr rfl rfl rfl (nb rfl) ?_) (nb rfl); refine jl_op (ow_load 0 rfl rfl rfl rfl ?_) (nb rfl); refine jl_op (ow_add64 rfl rfl (by omega) ?_) (nb rfl); refine jl_op (ow_nilCheck rfl ?_) (nb rfl)
  refine jl_op (ow_fieldAddr rfl rfl rfl (nb rfl) ?_) (nb rfl); refine jl_op0 (ow_store1 0 rfl rfl rfl rfl (nb rfl) ?_); refine jl_nil ?_; refine jq_then ?_; refine jc_seq ?_; refine jc_region ?_
  refine jl_op (ow_assign rfl ?_) (nb rfl); refine jl_nil ?_; refine jq_then ?_; refine jc_ret ?_; refine jq_ret1 rfl rfl [0] rfl (fun K h => h)
theorem rskip_n {w : ByteArray} (ha : a ≤ l.length) (h : isA l a w = false) : Con Tryd.prog 67 [Ptr b, Str w] [Rz b l a ln 0 fr] (fun K => K (Bl false) [Rz b l a ln 0 fr]) := by
  refine con_intro Tryd.func67 rfl rfl (Nat.le_of_ble_eq_true rfl) (fun c hc => ?_); refine jc_seq ?_; refine jc_region ?_; refine jl_op (ow_assign rfl ?_) (nb rfl); refine jl_nil ?_; refine jq_then ?_; refine jc_seq ?_
  refine jc_seq ?_; refine jc_region ?_; refine jl_op (ow_move rfl ?_) (nb rfl); refine jl_op (ow_move rfl ?_) (nb rfl); refine jl_op (ow_call1 [0] rfl rfl (ris_n ha h) ?_) (nb rfl); refine jl_op (ow_not rfl ?_) (nb rfl)
  refine jl_nil ?_; refine jq_then ?_; refine jc_condT rfl rfl ?_; refine jc_seq ?_; refine jc_region ?_; refine jl_op (ow_assign rfl ?_) (nb rfl); refine jl_nil ?_; refine jq_then ?_; refine jc_ret ?_; refine jq_then_ret ?_
  refine jq_ret1 rfl rfl [0] rfl (fun K h => h)
theorem rneed_e (he : ¬ e = 0) (w : ByteArray) : Con Tryd.prog 101 [Ptr b, Str w] [Rz b l a ln e fr] (fun K => K (.tup []) [Rz b l a ln e fr]) := by
  refine con_intro Tryd.func101 rfl rfl (Nat.le_of_ble_eq_true rfl) (fun c hc => ?_); refine jc_seq ?_; refine jc_region ?_; refine jl_op (ow_move rfl ?_) (nb rfl); refine jl_op (ow_move rfl ?_) (nb rfl)
  refine jl_op (ow_call1 [0] rfl rfl (rskip_e he _) ?_) (nb rfl); refine jl_op (ow_not rfl ?_) (nb rfl); refine jl_nil ?_; refine jq_then ?_; refine jc_condT rfl rfl ?_; refine jc_region ?_; refine jl_op (ow_move rfl ?_) (nb rfl)
  refine jl_op (ow_move rfl ?_) (nb rfl); refine jl_op (ow_nilCheck rfl ?_) (nb rfl); refine jl_op (ow_fieldAddr rfl rfl rfl (nb rfl) ?_) (nb rfl); refine jl_op (ow_load 0 rfl rfl rfl rfl ?_) (nb rfl)
  refine jl_op (ow_call1 [0] rfl rfl (rfail_e he _ _) ?_) (nb rfl); refine jl_nil ?_; refine jq_ret0 (.inr rfl) rfl [0] rfl (fun K h => h)
include hl in
theorem rneed_y {w : ByteArray} (ha : a ≤ l.length) (h : isA l a w = true) : Con Tryd.prog 101 [Ptr b, Str w] [Rz b l a ln 0 fr] (fun K => K (.tup []) [Rz b l (a + 1) ln 0 fr]) := by
  refine con_intro Tryd.func101 rfl rfl (Nat.le_of_ble_eq_true rfl) (fun c hc => ?_); refine jc_seq ?_; refine jc_region ?_; refine jl_op (ow_move rfl ?_) (nb rfl); refine jl_op (ow_move rfl ?_) (nb rfl)
  refine jl_op (ow_call1 [0] rfl rfl (rskip_y hl ha h) ?_) (nb rfl); refine jl_op (ow_not rfl ?_) (nb rfl); refine jl_nil ?_; refine jq_then ?_; refine jc_condF rfl rfl ?_; refine jc_skip ?_
  refine jq_ret0 (.inr rfl) rfl [0] rfl (fun K h => h)
include hl in
theorem rneed_n {w : ByteArray} (ha : a ≤ l.length) (h : isA l a w = false) : Con Tryd.prog 101 [Ptr b, Str w] [Rz b l a ln 0 fr] (fun K => K (.tup []) [Rz b l a (lineAt l a) 1 fr]) := by
  refine con_intro Tryd.func101 rfl rfl (Nat.le_of_ble_eq_true rfl) (fun c hc => ?_); refine jc_seq ?_; refine jc_region ?_; refine jl_op (ow_move rfl ?_) (nb rfl); refine jl_op (ow_move rfl ?_) (nb rfl)
  refine jl_op (ow_call1 [0] rfl rfl (rskip_n ha h) ?_) (nb rfl); refine jl_op (ow_not rfl ?_) (nb rfl); refine jl_nil ?_; refine jq_then ?_; refine jc_condT rfl rfl ?_; refine jc_region ?_; refine jl_op (ow_move rfl ?_) (nb rfl)
  refine jl_op (ow_move rfl ?_) (nb rfl); refine jl_op (ow_nilCheck rfl ?_) (nb rfl); refine jl_op (ow_fieldAddr rfl rfl rfl (nb rfl) ?_) (nb rfl); refine jl_op (ow_load 0 rfl rfl rfl rfl ?_) (nb rfl)
  refine jl_op (ow_call1 [0] rfl rfl (rfail_c hl a (by omega) _) ?_) (nb rfl); refine jl_nil ?_; refine jq_ret0 (.inr rfl) rfl [0] rfl (fun K h => h)
theorem risNm_e (he : ¬ e = 0) : Con Tryd.prog 100 [Ptr b] [Rz b l a ln e fr] (fun K => K (Bl false) [Rz b l a ln e fr]) := by
  refine con_intro Tryd.func100 rfl rfl (Nat.le_of_ble_eq_true rfl) (fun c hc => ?_); refine jc_seq ?_; refine jc_region ?_; refine jl_op (ow_assign rfl ?_) (nb rfl); refine jl_nil ?_; refine jq_then ?_; refine jc_seq ?_
  refine jc_any rfl rfl (by kernel_rfl) (by kernel_rfl) ?_; refine any_op (fun c => ow_move rfl ⟨rfl, List.Perm.refl _⟩) ?_; refine any_op (fun c => ow_nilCheck rfl ⟨rfl, List.Perm.refl _⟩) ?_
  refine any_op (fun c => ow_fieldAddr rfl rfl rfl (nb rfl) ⟨rfl, List.Perm.refl _⟩) ?_; refine any_op (fun c => ow_load 0 rfl rfl rfl rfl ⟨rfl, List.Perm.refl _⟩) ?_
  refine any_op (fun c => ow_eql rfl rfl ⟨rfl, List.Perm.refl _⟩) ?_; refine any_op (fun c => ow_move rfl ⟨rfl, List.Perm.refl _⟩) ?_; refine any_guardN rfl (decide_eq_false (by assumption)) ?_
  refine any_guardN rfl (decide_eq_false (by assumption)) ?_; refine any_guardN rfl (decide_eq_false (by assumption)) ?_; refine any_guardN rfl (decide_eq_false (by assumption)) ?_
  refine any_guardN rfl (decide_eq_false (by assumption)) ?_; refine any_guardN rfl (decide_eq_false (by assumption)) ?_; refine any_guardN rfl (decide_eq_false (by assumption)) ?_
  refine any_guardN rfl (decide_eq_false (by assumption)) ?_; refine any_guardN rfl (decide_eq_false (by assumption)) ?_; refine any_guardN rfl (decide_eq_false (by assumption)) ?_
  refine any_op (fun c => ow_pickF rfl (decide_eq_false (by assumption)) rfl ⟨rfl, List.Perm.refl _⟩) ?_; refine any_op (fun c => ow_move rfl ⟨rfl, List.Perm.refl _⟩) ?_; refine any_guardN rfl rfl ?_; refine any_guardN rfl rfl ?_
  refine any_guardN rfl rfl ?_; refine any_guardN rfl rfl ?_; refine any_guardN rfl rfl ?_; refine any_guardN rfl rfl ?_; refine any_guardN rfl rfl ?_; refine any_guardN rfl rfl ?_; refine any_guardN rfl rfl ?_
  refine any_guardN rfl rfl ?_; refine any_guardN rfl rfl ?_; refine any_guardN rfl rfl ?_; refine any_op (fun c => ow_pickF rfl rfl rfl ⟨rfl, List.Perm.refl _⟩) ?_; refine any_op (fun c => ow_move rfl ⟨rfl, List.Perm.refl _⟩) ?_
  refine any_guardN rfl rfl ?_; refine any_guardN rfl rfl ?_; refine any_guardN rfl rfl ?_; refine any_guardN rfl rfl ?_; refine any_guardN rfl rfl ?_; refine any_guardN rfl rfl ?_; refine any_guardN rfl rfl ?_
  refine any_guardN rfl rfl ?_; refine any_guardN rfl rfl ?_; refine any_guardN rfl rfl ?_; refine any_guardN rfl rfl ?_; refine any_guardN rfl rfl ?_; refine any_guardN rfl rfl ?_
  refine any_op (fun c => ow_pickF rfl rfl rfl ⟨rfl, List.Perm.refl _⟩) ?_; refine any_op (fun c => ow_assign rfl ⟨rfl, List.Perm.refl _⟩) ?_; refine any_nil ?_; refine jq_then ?_; refine jc_ret ?_
  refine jq_ret1 rfl rfl [0] rfl (fun K h => h)
theorem risNm_c (ha : a ≤ l.length) : Con Tryd.prog 100 [Ptr b] [Rz b l a ln 0 fr] (fun K => K (Bl (isNm l a)) [Rz b l a ln 0 fr]) := by
  have eL : (l.map Tok.row).length = l.length := List.length_map _
  refine con_intro Tryd.func100 rfl rfl (Nat.le_of_ble_eq_true rfl) (fun c hc => ?_)
  by_cases hlt : a < l.length
  · have e := isNm_get hlt
    by_cases hk : l[a].kind = 1
    · refine jc_seq ?_; refine jc_region ?_; refine jl_op (ow_assign rfl ?_) (nb rfl); refine jl_nil ?_; refine jq_then ?_; refine jc_seq ?_; refine jc_any rfl rfl (by kernel_rfl) (by kernel_rfl) ?_
      refine any_op (fun c => ow_move rfl ⟨rfl, List.Perm.refl _⟩) ?_; refine any_op (fun c => ow_nilCheck rfl ⟨rfl, List.Perm.refl _⟩) ?_; refine any_op (fun c => ow_fieldAddr rfl rfl rfl (nb rfl) ⟨rfl, List.Perm.refl _⟩) ?_
      refine any_op (fun c => ow_load 0 rfl rfl rfl rfl ⟨rfl, List.Perm.refl _⟩) ?_; refine any_op (fun c => ow_eql rfl rfl ⟨rfl, List.Perm.refl _⟩) ?_; refine any_op (fun c => ow_move rfl ⟨rfl, List.Perm.refl _⟩) ?_
      refine any_guardY rfl (decide_eq_true rfl) (fun c => ow_move rfl ⟨rfl, List.Perm.refl _⟩) ?_; refine any_guardY rfl (decide_eq_true rfl) (fun c => ow_nilCheck rfl ⟨rfl, List.Perm.refl _⟩) ?_
      refine any_guardY rfl (decide_eq_true rfl) (fun c => ow_fieldAddr rfl rfl rfl (nb rfl) ⟨rfl, List.Perm.refl _⟩) ?_; refine any_guardY rfl (decide_eq_true rfl) (fun c => ow_load 0 rfl rfl rfl rfl ⟨rfl, List.Perm.refl _⟩) ?_
      refine any_guardY rfl (decide_eq_true rfl) (fun c => ow_move rfl ⟨rfl, List.Perm.refl _⟩) ?_; refine any_guardY rfl (decide_eq_true rfl) (fun c => ow_nilCheck rfl ⟨rfl, List.Perm.refl _⟩) ?_
      refine any_guardY rfl (decide_eq_true rfl) (fun c => ow_fieldAddr rfl rfl rfl (nb rfl) ⟨rfl, List.Perm.refl _⟩) ?_; refine any_guardY rfl (decide_eq_true rfl) (fun c => ow_load 0 rfl rfl rfl rfl ⟨rfl, List.Perm.refl _⟩) ?_
      refine any_guardY rfl (decide_eq_true rfl) (fun c => ow_len rfl (fun hlen => ⟨rfl, List.Perm.refl _⟩)) ?_; refine any_guardY rfl (decide_eq_true rfl) (fun c => ow_lss rfl rfl ⟨rfl, List.Perm.refl _⟩) ?_
      refine any_op (fun c => ow_pickT rfl (decide_eq_true rfl) rfl ⟨rfl, List.Perm.refl _⟩) ?_; refine any_op (fun c => ow_move rfl ⟨rfl, List.Perm.refl _⟩) ?_
      refine any_guardY rfl (decide_eq_true (by omega)) (fun c => ow_move rfl ⟨rfl, List.Perm.refl _⟩) ?_; refine any_guardY rfl (decide_eq_true (by omega)) (fun c => ow_nilCheck rfl ⟨rfl, List.Perm.refl _⟩) ?_
      refine any_guardY rfl (decide_eq_true (by omega)) (fun c => ow_fieldAddr rfl rfl rfl (nb rfl) ⟨rfl, List.Perm.refl _⟩) ?_
      refine any_guardY rfl (decide_eq_true (by omega)) (fun c => ow_load 0 rfl rfl rfl rfl ⟨rfl, List.Perm.refl _⟩) ?_; refine any_guardY rfl (decide_eq_true (by omega)) (fun c => ow_move rfl ⟨rfl, List.Perm.refl _⟩) ?_
      refine any_guardY rfl (decide_eq_true (by omega)) (fun c => ow_nilCheck rfl ⟨rfl, List.Perm.refl _⟩) ?_
      refine any_guardY rfl (decide_eq_true (by omega)) (fun c => ow_fieldAddr rfl rfl rfl (nb rfl) ⟨rfl, List.Perm.refl _⟩) ?_
      refine any_guardY rfl (decide_eq_true (by omega)) (fun c => ow_load 0 rfl rfl rfl rfl ⟨rfl, List.Perm.refl _⟩) ?_
      refine any_guardY rfl (decide_eq_true (by omega)) (fun c => ow_indexAddrMapE rfl rfl (by omega) rfl rfl (nb rfl) ⟨rfl, List.Perm.refl _⟩) ?_
      refine any_guardY rfl (decide_eq_true (by omega)) (fun c => ow_fieldAddrPlace rfl rfl rfl (nb rfl) rfl (nb rfl) ⟨rfl, List.Perm.refl _⟩) ?_
      refine any_guardY rfl (decide_eq_true (by omega)) (fun c => ow_loadPlace rfl rfl ⟨rfl, List.Perm.refl _⟩) ?_; refine any_guardY rfl (decide_eq_true (by omega)) (fun c => ow_eql rfl rfl ⟨rfl, List.Perm.refl _⟩) ?_
      refine any_op (fun c => ow_pickT rfl (decide_eq_true (by omega)) rfl ⟨rfl, List.Perm.refl _⟩) ?_; refine any_op (fun c => ow_move rfl ⟨rfl, List.Perm.refl _⟩) ?_
      refine any_guardY rfl (decide_eq_true (by assumption)) (fun c => ow_move rfl ⟨rfl, List.Perm.refl _⟩) ?_; refine any_guardY rfl (decide_eq_true (by assumption)) (fun c => ow_nilCheck rfl ⟨rfl, List.Perm.refl _⟩) ?_
      refine any_guardY rfl (decide_eq_true (by assumption)) (fun c => ow_fieldAddr rfl rfl rfl (nb rfl) ⟨rfl, List.Perm.refl _⟩) ?_
      refine any_guardY rfl (decide_eq_true (by assumption)) (fun c => ow_load 0 rfl rfl rfl rfl ⟨rfl, List.Perm.refl _⟩) ?_; refine any_guardY rfl (decide_eq_true (by assumption)) (fun c => ow_move rfl ⟨rfl, List.Perm.refl _⟩) ?_
      refine any_guardY rfl (decide_eq_true (by assumption)) (fun c => ow_nilCheck rfl ⟨rfl, List.Perm.refl _⟩) ?_
      refine any_guardY rfl (decide_eq_true (by assumption)) (fun c => ow_fieldAddr rfl rfl rfl (nb rfl) ⟨rfl, List.Perm.refl _⟩) ?_
      refine any_guardY rfl (decide_eq_true (by assumption)) (fun c => ow_load 0 rfl rfl rfl rfl ⟨rfl, List.Perm.refl _⟩) ?_
      refine any_guardY rfl (decide_eq_true (by assumption)) (fun c => ow_indexAddrMapE rfl rfl (by omega) rfl rfl (nb rfl) ⟨rfl, List.Perm.refl _⟩) ?_
      refine any_guardY rfl (decide_eq_true (by assumption)) (fun c => ow_fieldAddrPlace rfl rfl rfl (nb rfl) rfl (nb rfl) ⟨rfl, List.Perm.refl _⟩) ?_
      refine any_guardY rfl (decide_eq_true (by assumption)) (fun c => ow_loadPlace rfl rfl ⟨rfl, List.Perm.refl _⟩) ?_
      refine any_guardY rfl (decide_eq_true (by assumption)) (fun c => ow_call0 rfl (RKeyword_c _) ⟨rfl, List.Perm.refl _⟩) ?_
      refine any_guardY rfl (decide_eq_true (by assumption)) (fun c => ow_not rfl ⟨rfl, List.Perm.refl _⟩) ?_; refine any_op (fun c => ow_pickT rfl (decide_eq_true (by assumption)) rfl ⟨rfl, List.Perm.refl _⟩) ?_
      refine any_op (fun c => ow_assign rfl ⟨rfl, List.Perm.refl _⟩) ?_; refine any_nil ?_; refine jq_then ?_; refine jc_ret ?_; refine jq_ret1 rfl rfl [0] rfl (fun K h => by rw [e, decide_eq_true hk, Bool.true_and] at h; exact h)
    · refine jc_seq ?_; refine jc_region ?_; refine jl_op (ow_assign rfl ?_) (nb rfl); refine jl_nil ?_; refine jq_then ?_; refine jc_seq ?_; refine jc_any rfl rfl (by kernel_rfl) (by kernel_rfl) ?_
      refine any_op (fun c => ow_move rfl ⟨rfl, List.Perm.refl _⟩) ?_; refine any_op (fun c => ow_nilCheck rfl ⟨rfl, List.Perm.refl _⟩) ?_; refine any_op (fun c => ow_fieldAddr rfl rfl rfl (nb rfl) ⟨rfl, List.Perm.refl _⟩) ?_
      refine any_op (fun c => ow_load 0 rfl rfl rfl rfl ⟨rfl, List.Perm.refl _⟩) ?_; refine any_op (fun c => ow_eql rfl rfl ⟨rfl, List.Perm.refl _⟩) ?_; refine any_op (fun c => ow_move rfl ⟨rfl, List.Perm.refl _⟩) ?_
      refine any_guardY rfl (decide_eq_true rfl) (fun c => ow_move rfl ⟨rfl, List.Perm.refl _⟩) ?_; refine any_guardY rfl (decide_eq_true rfl) (fun c => ow_nilCheck rfl ⟨rfl, List.Perm.refl _⟩) ?_
      refine any_guardY rfl (decide_eq_true rfl) (fun c => ow_fieldAddr rfl rfl rfl (nb rfl) ⟨rfl, List.Perm.refl _⟩) ?_; refine any_guardY rfl (decide_eq_true rfl) (fun c => ow_load 0 rfl rfl rfl rfl ⟨rfl, List.Perm.refl _⟩) ?_
      refine any_guardY rfl (decide_eq_true rfl) (fun c => ow_move rfl ⟨rfl, List.Perm.refl _⟩) ?_; refine any_guardY rfl (decide_eq_true rfl) (fun c => ow_nilCheck rfl ⟨rfl, List.Perm.refl _⟩) ?_
      refine any_guardY rfl (decide_eq_true rfl) (fun c => ow_fieldAddr rfl rfl rfl (nb rfl) ⟨rfl, List.Perm.refl _⟩) ?_; refine any_guardY rfl (decide_eq_true rfl) (fun c => ow_load 0 rfl rfl rfl rfl ⟨rfl, List.Perm.refl _⟩) ?_
      refine any_guardY rfl (decide_eq_true rfl) (fun c => ow_len rfl (fun hlen => ⟨rfl, List.Perm.refl _⟩)) ?_; refine any_guardY rfl (decide_eq_true rfl) (fun c => ow_lss rfl rfl ⟨rfl, List.Perm.refl _⟩) ?_
      refine any_op (fun c => ow_pickT rfl (decide_eq_true rfl) rfl ⟨rfl, List.Perm.refl _⟩) ?_; refine any_op (fun c => ow_move rfl ⟨rfl, List.Perm.refl _⟩) ?_
      refine any_guardY rfl (decide_eq_true (by omega)) (fun c => ow_move rfl ⟨rfl, List.Perm.refl _⟩) ?_; refine any_guardY rfl (decide_eq_true (by omega)) (fun c => ow_nilCheck rfl ⟨rfl, List.Perm.refl _⟩) ?_
      refine any_guardY rfl (decide_eq_true (by omega)) (fun c => ow_fieldAddr rfl rfl rfl (nb rfl) ⟨rfl, List.Perm.refl _⟩) ?_
      refine any_guardY rfl (decide_eq_true (by omega)) (fun c => ow_load 0 rfl rfl rfl rfl ⟨rfl, List.Perm.refl _⟩) ?_; refine any_guardY rfl (decide_eq_true (by omega)) (fun c => ow_move rfl ⟨rfl, List.Perm.refl _⟩) ?_
      refine any_guardY rfl (decide_eq_true (by omega)) (fun c => ow_nilCheck rfl ⟨rfl, List.Perm.refl _⟩) ?_
      refine any_guardY rfl (decide_eq_true (by omega)) (fun c => ow_fieldAddr rfl rfl rfl (nb rfl) ⟨rfl, List.Perm.refl _⟩) ?_
      refine any_guardY rfl (decide_eq_true (by omega)) (fun c => ow_load 0 rfl rfl rfl rfl ⟨rfl, List.Perm.refl _⟩) ?_
      refine any_guardY rfl (decide_eq_true (by omega)) (fun c => ow_indexAddrMapE rfl rfl (by omega) rfl rfl (nb rfl) ⟨rfl, List.Perm.refl _⟩) ?_
      refine any_guardY rfl (decide_eq_true (by omega)) (fun c => ow_fieldAddrPlace rfl rfl rfl (nb rfl) rfl (nb rfl) ⟨rfl, List.Perm.refl _⟩) ?_
      refine any_guardY rfl (decide_eq_true (by omega)) (fun c => ow_loadPlace rfl rfl ⟨rfl, List.Perm.refl _⟩) ?_; refine any_guardY rfl (decide_eq_true (by omega)) (fun c => ow_eql rfl rfl ⟨rfl, List.Perm.refl _⟩) ?_
      refine any_op (fun c => ow_pickT rfl (decide_eq_true (by omega)) rfl ⟨rfl, List.Perm.refl _⟩) ?_; refine any_op (fun c => ow_move rfl ⟨rfl, List.Perm.refl _⟩) ?_; refine any_guardN rfl (decide_eq_false (by assumption)) ?_
      refine any_guardN rfl (decide_eq_false (by assumption)) ?_; refine any_guardN rfl (decide_eq_false (by assumption)) ?_; refine any_guardN rfl (decide_eq_false (by assumption)) ?_
      refine any_guardN rfl (decide_eq_false (by assumption)) ?_; refine any_guardN rfl (decide_eq_false (by assumption)) ?_; refine any_guardN rfl (decide_eq_false (by assumption)) ?_
      refine any_guardN rfl (decide_eq_false (by assumption)) ?_; refine any_guardN rfl (decide_eq_false (by assumption)) ?_; refine any_guardN rfl (decide_eq_false (by assumption)) ?_
      refine any_guardN rfl (decide_eq_false (by assumption)) ?_; refine any_guardN rfl (decide_eq_false (by assumption)) ?_; refine any_guardN rfl (decide_eq_false (by assumption)) ?_
      refine any_op (fun c => ow_pickF rfl (decide_eq_false (by assumption)) rfl ⟨rfl, List.Perm.refl _⟩) ?_; refine any_op (fun c => ow_assign rfl ⟨rfl, List.Perm.refl _⟩) ?_; refine any_nil ?_; refine jq_then ?_
      refine jc_ret ?_; refine jq_ret1 rfl rfl [0] rfl (fun K h => by rw [e, decide_eq_false hk] at h; exact h)
  · have e := isNm_end hlt
    have hlt2 : ¬ (a : Int) < l.length := by omega
    refine jc_seq ?_; refine jc_region ?_; refine jl_op (ow_assign rfl ?_) (nb rfl); refine jl_nil ?_; refine jq_then ?_; refine jc_seq ?_; refine jc_any rfl rfl (by kernel_rfl) (by kernel_rfl) ?_
    refine any_op (fun c => ow_move rfl ⟨rfl, List.Perm.refl _⟩) ?_; refine any_op (fun c => ow_nilCheck rfl ⟨rfl, List.Perm.refl _⟩) ?_; refine any_op (fun c => ow_fieldAddr rfl rfl rfl (nb rfl) ⟨rfl, List.Perm.refl _⟩) ?_
    refine any_op (fun c => ow_load 0 rfl rfl rfl rfl ⟨rfl, List.Perm.refl _⟩) ?_; refine any_op (fun c => ow_eql rfl rfl ⟨rfl, List.Perm.refl _⟩) ?_; refine any_op (fun c => ow_move rfl ⟨rfl, List.Perm.refl _⟩) ?_
    refine any_guardY rfl (decide_eq_true rfl) (fun c => ow_move rfl ⟨rfl, List.Perm.refl _⟩) ?_; refine any_guardY rfl (decide_eq_true rfl) (fun c => ow_nilCheck rfl ⟨rfl, List.Perm.refl _⟩) ?_
    refine any_guardY rfl (decide_eq_true rfl) (fun c => ow_fieldAddr rfl rfl rfl (nb rfl) ⟨rfl, List.Perm.refl _⟩) ?_; refine any_guardY rfl (decide_eq_true rfl) (fun c => ow_load 0 rfl rfl rfl rfl ⟨rfl, List.Perm.refl _⟩) ?_
    refine any_guardY rfl (decide_eq_true rfl) (fun c => ow_move rfl ⟨rfl, List.Perm.refl _⟩) ?_; refine any_guardY rfl (decide_eq_true rfl) (fun c => ow_nilCheck rfl ⟨rfl, List.Perm.refl _⟩) ?_
    refine any_guardY rfl (decide_eq_true rfl) (fun c => ow_fieldAddr rfl rfl rfl (nb rfl) ⟨rfl, List.Perm.refl _⟩) ?_; refine any_guardY rfl (decide_eq_true rfl) (fun c => ow_load 0 rfl rfl rfl rfl ⟨rfl, List.Perm.refl _⟩) ?_
    refine any_guardY rfl (decide_eq_true rfl) (fun c => ow_len rfl (fun hlen => ⟨rfl, List.Perm.refl _⟩)) ?_; refine any_guardY rfl (decide_eq_true rfl) (fun c => ow_lss rfl rfl ⟨rfl, List.Perm.refl _⟩) ?_
    refine any_op (fun c => ow_pickT rfl (decide_eq_true rfl) rfl ⟨rfl, List.Perm.refl _⟩) ?_; refine any_op (fun c => ow_move rfl ⟨rfl, List.Perm.refl _⟩) ?_; refine any_guardN rfl (decide_eq_false (by omega)) ?_
    refine any_guardN rfl (decide_eq_false (by omega)) ?_; refine any_guardN rfl (decide_eq_false (by omega)) ?_; refine any_guardN rfl (decide_eq_false (by omega)) ?_; refine any_guardN rfl (decide_eq_false (by omega)) ?_
    refine any_guardN rfl (decide_eq_false (by omega)) ?_; refine any_guardN rfl (decide_eq_false (by omega)) ?_; refine any_guardN rfl (decide_eq_false (by omega)) ?_; refine any_guardN rfl (decide_eq_false (by omega)) ?_
    refine any_guardN rfl (decide_eq_false (by omega)) ?_; refine any_guardN rfl (decide_eq_false (by omega)) ?_; refine any_guardN rfl (decide_eq_false (by omega)) ?_
    refine any_op (fun c => ow_pickF rfl (decide_eq_false (by omega)) rfl ⟨rfl, List.Perm.refl _⟩) ?_; refine any_op (fun c => ow_move rfl ⟨rfl, List.Perm.refl _⟩) ?_; refine any_guardN rfl rfl ?_; refine any_guardN rfl rfl ?_
    refine any_guardN rfl rfl ?_; refine any_guardN rfl rfl ?_; refine any_guardN rfl rfl ?_; refine any_guardN rfl rfl ?_; refine any_guardN rfl rfl ?_; refine any_guardN rfl rfl ?_; refine any_guardN rfl rfl ?_
    refine any_guardN rfl rfl ?_; refine any_guardN rfl rfl ?_; refine any_guardN rfl rfl ?_; refine any_guardN rfl rfl ?_; refine any_op (fun c => ow_pickF rfl rfl rfl ⟨rfl, List.Perm.refl _⟩) ?_
    refine any_op (fun c => ow_assign rfl ⟨rfl, List.Perm.refl _⟩) ?_; refine any_nil ?_; refine jq_then ?_; refine jc_ret ?_; refine jq_ret1 rfl rfl [0] rfl (fun K h => by rw [e] at h; exact h)
theorem risNm_y (ha : a ≤ l.length) (h : isNm l a = true) : Con Tryd.prog 100 [Ptr b] [Rz b l a ln 0 fr] (fun K => K (Bl true) [Rz b l a ln 0 fr]) := by have := risNm_c (b := b) (ln := ln) (fr := fr) ha; rwa [h] at this
theorem risNm_n (ha : a ≤ l.length) (h : isNm l a = false) : Con Tryd.prog 100 [Ptr b] [Rz b l a ln 0 fr] (fun K => K (Bl false) [Rz b l a ln 0 fr]) := by have := risNm_c (b := b) (ln := ln) (fr := fr) ha; rwa [h] at this
theorem rname_e (he : ¬ e = 0) : Con Tryd.prog 68 [Ptr b] [Rz b l a ln e fr] (fun K => K (Str ⟨#[]⟩) [Rz b l a ln e fr]) := by
  refine con_intro Tryd.func68 rfl rfl (Nat.le_of_ble_eq_true rfl) (fun c hc => ?_); refine jc_seq ?_; refine jc_region ?_; refine jl_op (ow_assign rfl ?_) (nb rfl); refine jl_nil ?_; refine jq_then ?_; refine jc_seq ?_
  refine jc_seq ?_; refine jc_region ?_; refine jl_op (ow_move rfl ?_) (nb rfl); refine jl_op (ow_call1 [0] rfl rfl (risNm_e he) ?_) (nb rfl); refine jl_op (ow_not rfl ?_) (nb rfl); refine jl_nil ?_; refine jq_then ?_
  refine jc_condT rfl rfl ?_; refine jc_seq ?_; refine jc_region ?_; refine jl_op (ow_move rfl ?_) (nb rfl); refine jl_op (ow_move rfl ?_) (nb rfl); refine jl_op (ow_nilCheck rfl ?_) (nb rfl)
  refine jl_op (ow_fieldAddr rfl rfl rfl (nb rfl) ?_) (nb rfl); refine jl_op (ow_load 0 rfl rfl rfl rfl ?_) (nb rfl); refine jl_op (ow_call1 [0] rfl rfl (rfail_e he _ _) ?_) (nb rfl); refine jl_nil ?_; refine jq_then ?_
  refine jc_seq ?_; refine jc_region ?_; refine jl_op (ow_assign rfl ?_) (nb rfl); refine jl_nil ?_; refine jq_then ?_; refine jc_ret ?_; refine jq_then_ret ?_; refine jq_ret1 rfl rfl [0] rfl (fun K h => h)
include hl in
theorem rname_n (ha : a ≤ l.length) (h : isNm l a = false) : Con Tryd.prog 68 [Ptr b] [Rz b l a ln 0 fr] (fun K => K (Str ⟨#[]⟩) [Rz b l a (lineAt l a) 1 fr]) := by
  refine con_intro Tryd.func68 rfl rfl (Nat.le_of_ble_eq_true rfl) (fun c hc => ?_); refine jc_seq ?_; refine jc_region ?_; refine jl_op (ow_assign rfl ?_) (nb rfl); refine jl_nil ?_; refine jq_then ?_; refine jc_seq ?_
  refine jc_seq ?_; refine jc_region ?_; refine jl_op (ow_move rfl ?_) (nb rfl); refine jl_op (ow_call1 [0] rfl rfl (risNm_n ha h) ?_) (nb rfl); refine jl_op (ow_not rfl ?_) (nb rfl); refine jl_nil ?_; refine jq_then ?_
  refine jc_condT rfl rfl ?_; refine jc_seq ?_; refine jc_region ?_; refine jl_op (ow_move rfl ?_) (nb rfl); refine jl_op (ow_move rfl ?_) (nb rfl); refine jl_op (ow_nilCheck rfl ?_) (nb rfl)
  refine jl_op (ow_fieldAddr rfl rfl rfl (nb rfl) ?_) (nb rfl); refine jl_op (ow_load 0 rfl rfl rfl rfl ?_) (nb rfl); refine jl_op (ow_call1 [0] rfl rfl (rfail_c hl a (by omega) _) ?_) (nb rfl); refine jl_nil ?_; refine jq_then ?_
  refine jc_seq ?_; refine jc_region ?_; refine jl_op (ow_assign rfl ?_) (nb rfl); refine jl_nil ?_; refine jq_then ?_; refine jc_ret ?_; refine jq_then_ret ?_; refine jq_ret1 rfl rfl [0] rfl (fun K h => h)
include hl in
theorem rname_y (ha : a ≤ l.length) (h : isNm l a = true) : Con Tryd.prog 68 [Ptr b] [Rz b l a ln 0 fr] (fun K => K (Str (txtAt l a)) [Rz b l (a + 1) ln 0 fr]) := by
  have eL : (l.map Tok.row).length = l.length := List.length_map _
  have hlt := isNm_lt h
  refine con_intro Tryd.func68 rfl rfl (Nat.le_of_ble_eq_true rfl) (fun c hc => ?_); refine jc_seq ?_; refine jc_region ?_; refine jl_op (ow_assign rfl ?_) (nb rfl); refine jl_nil ?_; refine jq_then ?_; refine jc_seq ?_
  refine jc_seq ?_; refine jc_region ?_; refine jl_op (ow_move rfl ?_) (nb rfl); refine jl_op (ow_call1 [0] rfl rfl (risNm_y ha h) ?_) (nb rfl); refine jl_op (ow_not rfl ?_) (nb rfl); refine jl_nil ?_; refine jq_then ?_
  refine jc_condF rfl rfl ?_; refine jc_skip ?_; refine jq_then ?_; refine jc_seq ?_; refine jc_region ?_; refine jl_op (ow_move rfl ?_) (nb rfl); refine jl_op (ow_nilCheck rfl ?_) (nb rfl)
  refine jl_op (ow_fieldAddr rfl rfl rfl (nb rfl) ?_) (nb rfl); refine jl_op (ow_load 0 rfl rfl rfl rfl ?_) (nb rfl); refine jl_op (ow_add64 rfl rfl (by omega) ?_) (nb rfl); refine jl_op (ow_nilCheck rfl ?_) (nb rfl)
  refine jl_op (ow_fieldAddr rfl rfl rfl (nb rfl) ?_) (nb rfl); refine jl_op0 (ow_store1 0 rfl rfl rfl rfl (nb rfl) ?_); refine jl_nil ?_; refine jq_then ?_; refine jc_seq ?_
  refine jc_any rfl rfl (by kernel_rfl) (by kernel_rfl) ?_; refine any_op (fun c => ow_move rfl ⟨rfl, List.Perm.refl _⟩) ?_; refine any_op (fun c => ow_nilCheck rfl ⟨rfl, List.Perm.refl _⟩) ?_
  refine any_op (fun c => ow_fieldAddr rfl rfl rfl (nb rfl) ⟨rfl, List.Perm.refl _⟩) ?_; refine any_op (fun c => ow_load 0 rfl rfl rfl rfl ⟨rfl, List.Perm.refl _⟩) ?_
  refine any_op (fun c => ow_move rfl ⟨rfl, List.Perm.refl _⟩) ?_; refine any_op (fun c => ow_nilCheck rfl ⟨rfl, List.Perm.refl _⟩) ?_; refine any_op (fun c => ow_fieldAddr rfl rfl rfl (nb rfl) ⟨rfl, List.Perm.refl _⟩) ?_
  refine any_op (fun c => ow_load 0 rfl rfl rfl rfl ⟨rfl, List.Perm.refl _⟩) ?_; refine any_op (fun c => ow_sub64 rfl rfl (by omega) ⟨rfl, List.Perm.refl _⟩) ?_
  refine any_op (fun c => ow_indexAddrMapI rfl rfl (by omega) (by omega) rfl rfl (nb rfl) ⟨rfl, List.Perm.refl _⟩) ?_; refine any_op (fun c => ow_fieldAddrPlace rfl rfl rfl (nb rfl) rfl (nb rfl) ⟨rfl, List.Perm.refl _⟩) ?_
  refine any_op (fun c => ow_loadPlace rfl rfl ⟨rfl, List.Perm.refl _⟩) ?_; refine any_op (fun c => ow_assign rfl ⟨rfl, List.Perm.refl _⟩) ?_; refine any_nil ?_; refine jq_then ?_; refine jc_ret ?_
  refine jq_ret1 rfl rfl [0] rfl (fun K h => by rw [txtAt_getI (m := (a : Int) + 1 - 1) (by omega) (by omega)] at h; exact h)
theorem rnum_e (he : ¬ e = 0) : Con Tryd.prog 69 [Ptr b] [Rz b l a ln e fr] (fun K => K (In .i64 0) [Rz b l a ln e fr]) := by
  refine con_intro Tryd.func69 rfl rfl (Nat.le_of_ble_eq_true rfl) (fun c hc => ?_); refine jc_seq ?_; refine jc_region ?_; refine jl_op (ow_assign rfl ?_) (nb rfl); refine jl_nil ?_; refine jq_then ?_; refine jc_seq ?_
  refine jc_seq ?_; refine jc_any rfl rfl (by kernel_rfl) (by kernel_rfl) ?_; refine any_op (fun c => ow_move rfl ⟨rfl, List.Perm.refl _⟩) ?_; refine any_op (fun c => ow_nilCheck rfl ⟨rfl, List.Perm.refl _⟩) ?_
  refine any_op (fun c => ow_fieldAddr rfl rfl rfl (nb rfl) ⟨rfl, List.Perm.refl _⟩) ?_; refine any_op (fun c => ow_load 0 rfl rfl rfl rfl ⟨rfl, List.Perm.refl _⟩) ?_
  refine any_op (fun c => ow_neq rfl rfl ⟨rfl, List.Perm.refl _⟩) ?_; refine any_op (fun c => ow_move rfl ⟨rfl, List.Perm.refl _⟩) ?_; refine any_guardN rfl (decide_eq_true (by assumption)) ?_
  refine any_guardN rfl (decide_eq_true (by assumption)) ?_; refine any_guardN rfl (decide_eq_true (by assumption)) ?_; refine any_guardN rfl (decide_eq_true (by assumption)) ?_
  refine any_guardN rfl (decide_eq_true (by assumption)) ?_; refine any_guardN rfl (decide_eq_true (by assumption)) ?_; refine any_guardN rfl (decide_eq_true (by assumption)) ?_
  refine any_guardN rfl (decide_eq_true (by assumption)) ?_; refine any_guardN rfl (decide_eq_true (by assumption)) ?_; refine any_guardN rfl (decide_eq_true (by assumption)) ?_
  refine any_op (fun c => ow_pickT rfl (decide_eq_true (by assumption)) rfl ⟨rfl, List.Perm.refl _⟩) ?_; refine any_op (fun c => ow_move rfl ⟨rfl, List.Perm.refl _⟩) ?_; refine any_guardN rfl rfl ?_; refine any_guardN rfl rfl ?_
  refine any_guardN rfl rfl ?_; refine any_guardN rfl rfl ?_; refine any_guardN rfl rfl ?_; refine any_guardN rfl rfl ?_; refine any_guardN rfl rfl ?_; refine any_guardN rfl rfl ?_; refine any_guardN rfl rfl ?_
  refine any_guardN rfl rfl ?_; refine any_guardN rfl rfl ?_; refine any_guardN rfl rfl ?_; refine any_op (fun c => ow_pickT rfl rfl rfl ⟨rfl, List.Perm.refl _⟩) ?_; refine any_nil ?_; refine jq_then ?_; refine jc_condT rfl rfl ?_
  refine jc_seq ?_; refine jc_region ?_; refine jl_op (ow_move rfl ?_) (nb rfl); refine jl_op (ow_move rfl ?_) (nb rfl); refine jl_op (ow_nilCheck rfl ?_) (nb rfl); refine jl_op (ow_fieldAddr rfl rfl rfl (nb rfl) ?_) (nb rfl)
  refine jl_op (ow_load 0 rfl rfl rfl rfl ?_) (nb rfl); refine jl_op (ow_call1 [0] rfl rfl (rfail_e he _ _) ?_) (nb rfl); refine jl_nil ?_; refine jq_then ?_; refine jc_seq ?_; refine jc_region ?_
  refine jl_op (ow_assign rfl ?_) (nb rfl); refine jl_nil ?_; refine jq_then ?_; refine jc_ret ?_; refine jq_then_ret ?_; refine jq_ret1 rfl rfl [0] rfl (fun K h => h)
include hl in
theorem rnum_n (ha : a ≤ l.length) (h : isNum l a = false) : Con Tryd.prog 69 [Ptr b] [Rz b l a ln 0 fr] (fun K => K (In .i64 0) [Rz b l a (lineAt l a) 1 fr]) := by
  have eL : (l.map Tok.row).length = l.length := List.length_map _
  refine con_intro Tryd.func69 rfl rfl (Nat.le_of_ble_eq_true rfl) (fun c hc => ?_)
  by_cases hlt : a < l.length
  · rw [isNum_get hlt] at h
    have hk : ¬ l[a].kind = 2 := of_decide_eq_false h
    have hlt3 : ¬ (a : Int) ≥ l.length := by omega
    refine jc_seq ?_; refine jc_region ?_; refine jl_op (ow_assign rfl ?_) (nb rfl); refine jl_nil ?_; refine jq_then ?_; refine jc_seq ?_; refine jc_seq ?_; refine jc_any rfl rfl (by kernel_rfl) (by kernel_rfl) ?_
    refine any_op (fun c => ow_move rfl ⟨rfl, List.Perm.refl _⟩) ?_; refine any_op (fun c => ow_nilCheck rfl ⟨rfl, List.Perm.refl _⟩) ?_; refine any_op (fun c => ow_fieldAddr rfl rfl rfl (nb rfl) ⟨rfl, List.Perm.refl _⟩) ?_
    refine any_op (fun c => ow_load 0 rfl rfl rfl rfl ⟨rfl, List.Perm.refl _⟩) ?_; refine any_op (fun c => ow_neq rfl rfl ⟨rfl, List.Perm.refl _⟩) ?_; refine any_op (fun c => ow_move rfl ⟨rfl, List.Perm.refl _⟩) ?_
    refine any_guardY rfl rfl (fun c => ow_move rfl ⟨rfl, List.Perm.refl _⟩) ?_; refine any_guardY rfl rfl (fun c => ow_nilCheck rfl ⟨rfl, List.Perm.refl _⟩) ?_
    refine any_guardY rfl rfl (fun c => ow_fieldAddr rfl rfl rfl (nb rfl) ⟨rfl, List.Perm.refl _⟩) ?_; refine any_guardY rfl rfl (fun c => ow_load 0 rfl rfl rfl rfl ⟨rfl, List.Perm.refl _⟩) ?_
    refine any_guardY rfl rfl (fun c => ow_move rfl ⟨rfl, List.Perm.refl _⟩) ?_; refine any_guardY rfl rfl (fun c => ow_nilCheck rfl ⟨rfl, List.Perm.refl _⟩) ?_
    refine any_guardY rfl rfl (fun c => ow_fieldAddr rfl rfl rfl (nb rfl) ⟨rfl, List.Perm.refl _⟩) ?_; refine any_guardY rfl rfl (fun c => ow_load 0 rfl rfl rfl rfl ⟨rfl, List.Perm.refl _⟩) ?_
    refine any_guardY rfl rfl (fun c => ow_len rfl (fun hlen => ⟨rfl, List.Perm.refl _⟩)) ?_; refine any_guardY rfl rfl (fun c => ow_geq rfl rfl ⟨rfl, List.Perm.refl _⟩) ?_
    refine any_op (fun c => ow_pickF rfl rfl rfl ⟨rfl, List.Perm.refl _⟩) ?_; refine any_op (fun c => ow_move rfl ⟨rfl, List.Perm.refl _⟩) ?_
    refine any_guardY rfl (decide_eq_false (by omega)) (fun c => ow_move rfl ⟨rfl, List.Perm.refl _⟩) ?_; refine any_guardY rfl (decide_eq_false (by omega)) (fun c => ow_nilCheck rfl ⟨rfl, List.Perm.refl _⟩) ?_
    refine any_guardY rfl (decide_eq_false (by omega)) (fun c => ow_fieldAddr rfl rfl rfl (nb rfl) ⟨rfl, List.Perm.refl _⟩) ?_
    refine any_guardY rfl (decide_eq_false (by omega)) (fun c => ow_load 0 rfl rfl rfl rfl ⟨rfl, List.Perm.refl _⟩) ?_; refine any_guardY rfl (decide_eq_false (by omega)) (fun c => ow_move rfl ⟨rfl, List.Perm.refl _⟩) ?_
    refine any_guardY rfl (decide_eq_false (by omega)) (fun c => ow_nilCheck rfl ⟨rfl, List.Perm.refl _⟩) ?_
    refine any_guardY rfl (decide_eq_false (by omega)) (fun c => ow_fieldAddr rfl rfl rfl (nb rfl) ⟨rfl, List.Perm.refl _⟩) ?_
    refine any_guardY rfl (decide_eq_false (by omega)) (fun c => ow_load 0 rfl rfl rfl rfl ⟨rfl, List.Perm.refl _⟩) ?_
    refine any_guardY rfl (decide_eq_false (by omega)) (fun c => ow_indexAddrMapE rfl rfl (by omega) rfl rfl (nb rfl) ⟨rfl, List.Perm.refl _⟩) ?_
    refine any_guardY rfl (decide_eq_false (by omega)) (fun c => ow_fieldAddrPlace rfl rfl rfl (nb rfl) rfl (nb rfl) ⟨rfl, List.Perm.refl _⟩) ?_
    refine any_guardY rfl (decide_eq_false (by omega)) (fun c => ow_loadPlace rfl rfl ⟨rfl, List.Perm.refl _⟩) ?_; refine any_guardY rfl (decide_eq_false (by omega)) (fun c => ow_neq rfl rfl ⟨rfl, List.Perm.refl _⟩) ?_
    refine any_op (fun c => ow_pickF rfl (decide_eq_false (by omega)) rfl ⟨rfl, List.Perm.refl _⟩) ?_; refine any_nil ?_; refine jq_then ?_; refine jc_condT rfl (decide_eq_true (by assumption)) ?_; refine jc_seq ?_
    refine jc_region ?_; refine jl_op (ow_move rfl ?_) (nb rfl); refine jl_op (ow_move rfl ?_) (nb rfl); refine jl_op (ow_nilCheck rfl ?_) (nb rfl); refine jl_op (ow_fieldAddr rfl rfl rfl (nb rfl) ?_) (nb rfl)
    refine jl_op (ow_load 0 rfl rfl rfl rfl ?_) (nb rfl); refine jl_op (ow_call1 [0] rfl rfl (rfail_c hl a (by omega) _) ?_) (nb rfl); refine jl_nil ?_; refine jq_then ?_; refine jc_seq ?_; refine jc_region ?_
    refine jl_op (ow_assign rfl ?_) (nb rfl); refine jl_nil ?_; refine jq_then ?_; refine jc_ret ?_; refine jq_then_ret ?_; refine jq_ret1 rfl rfl [0] rfl (fun K h => h)
  · refine jc_seq ?_; refine jc_region ?_; refine jl_op (ow_assign rfl ?_) (nb rfl); refine jl_nil ?_; refine jq_then ?_; refine jc_seq ?_; refine jc_seq ?_; refine jc_any rfl rfl (by kernel_rfl) (by kernel_rfl) ?_
    refine any_op (fun c => ow_move rfl ⟨rfl, List.Perm.refl _⟩) ?_; refine any_op (fun c => ow_nilCheck rfl ⟨rfl, List.Perm.refl _⟩) ?_; refine any_op (fun c => ow_fieldAddr rfl rfl rfl (nb rfl) ⟨rfl, List.Perm.refl _⟩) ?_
    refine any_op (fun c => ow_load 0 rfl rfl rfl rfl ⟨rfl, List.Perm.refl _⟩) ?_; refine any_op (fun c => ow_neq rfl rfl ⟨rfl, List.Perm.refl _⟩) ?_; refine any_op (fun c => ow_move rfl ⟨rfl, List.Perm.refl _⟩) ?_
    refine any_guardY rfl rfl (fun c => ow_move rfl ⟨rfl, List.Perm.refl _⟩) ?_; refine any_guardY rfl rfl (fun c => ow_nilCheck rfl ⟨rfl, List.Perm.refl _⟩) ?_
    refine any_guardY rfl rfl (fun c => ow_fieldAddr rfl rfl rfl (nb rfl) ⟨rfl, List.Perm.refl _⟩) ?_; refine any_guardY rfl rfl (fun c => ow_load 0 rfl rfl rfl rfl ⟨rfl, List.Perm.refl _⟩) ?_
    refine any_guardY rfl rfl (fun c => ow_move rfl ⟨rfl, List.Perm.refl _⟩) ?_; refine any_guardY rfl rfl (fun c => ow_nilCheck rfl ⟨rfl, List.Perm.refl _⟩) ?_
    refine any_guardY rfl rfl (fun c => ow_fieldAddr rfl rfl rfl (nb rfl) ⟨rfl, List.Perm.refl _⟩) ?_; refine any_guardY rfl rfl (fun c => ow_load 0 rfl rfl rfl rfl ⟨rfl, List.Perm.refl _⟩) ?_
    refine any_guardY rfl rfl (fun c => ow_len rfl (fun hlen => ⟨rfl, List.Perm.refl _⟩)) ?_; refine any_guardY rfl rfl (fun c => ow_geq rfl rfl ⟨rfl, List.Perm.refl _⟩) ?_
    refine any_op (fun c => ow_pickF rfl rfl rfl ⟨rfl, List.Perm.refl _⟩) ?_; refine any_op (fun c => ow_move rfl ⟨rfl, List.Perm.refl _⟩) ?_; refine any_guardN rfl (decide_eq_true (by omega)) ?_
    refine any_guardN rfl (decide_eq_true (by omega)) ?_; refine any_guardN rfl (decide_eq_true (by omega)) ?_; refine any_guardN rfl (decide_eq_true (by omega)) ?_; refine any_guardN rfl (decide_eq_true (by omega)) ?_
    refine any_guardN rfl (decide_eq_true (by omega)) ?_; refine any_guardN rfl (decide_eq_true (by omega)) ?_; refine any_guardN rfl (decide_eq_true (by omega)) ?_; refine any_guardN rfl (decide_eq_true (by omega)) ?_
    refine any_guardN rfl (decide_eq_true (by omega)) ?_; refine any_guardN rfl (decide_eq_true (by omega)) ?_; refine any_guardN rfl (decide_eq_true (by omega)) ?_
    refine any_op (fun c => ow_pickT rfl (decide_eq_true (by omega)) rfl ⟨rfl, List.Perm.refl _⟩) ?_; refine any_nil ?_; refine jq_then ?_; refine jc_condT rfl rfl ?_; refine jc_seq ?_; refine jc_region ?_
    refine jl_op (ow_move rfl ?_) (nb rfl); refine jl_op (ow_move rfl ?_) (nb rfl); refine jl_op (ow_nilCheck rfl ?_) (nb rfl); refine jl_op (ow_fieldAddr rfl rfl rfl (nb rfl) ?_) (nb rfl)
    refine jl_op (ow_load 0 rfl rfl rfl rfl ?_) (nb rfl); refine jl_op (ow_call1 [0] rfl rfl (rfail_c hl a (by omega) _) ?_) (nb rfl); refine jl_nil ?_; refine jq_then ?_; refine jc_seq ?_; refine jc_region ?_
    refine jl_op (ow_assign rfl ?_) (nb rfl); refine jl_nil ?_; refine jq_then ?_; refine jc_ret ?_; refine jq_then_ret ?_; refine jq_ret1 rfl rfl [0] rfl (fun K h => h)
include hl in
theorem rnum_y (_ha : a ≤ l.length) (h : isNum l a = true) : Con Tryd.prog 69 [Ptr b] [Rz b l a ln 0 fr] (fun K => K (In .i64 (numAt l a)) [Rz b l (a + 1) ln 0 fr]) := by
  have eL : (l.map Tok.row).length = l.length := List.length_map _
  have hlt := isNum_lt h
  rw [isNum_get hlt] at h
  have hk : l[a].kind = 2 := of_decide_eq_true h
  have hkn : ¬ ¬ l[a].kind = 2 := fun h => h hk
  have hlt3 : ¬ (a : Int) ≥ l.length := by omega
  refine con_intro Tryd.func69 rfl rfl (Nat.le_of_ble_eq_true rfl) (fun c hc => ?_); refine jc_seq ?_; refine jc_region ?_; refine jl_op (ow_assign rfl ?_) (nb rfl); refine jl_nil ?_; refine jq_then ?_; refine jc_seq ?_
  refine jc_seq ?_; refine jc_any rfl rfl (by kernel_rfl) (by kernel_rfl) ?_; refine any_op (fun c => ow_move rfl ⟨rfl, List.Perm.refl _⟩) ?_; refine any_op (fun c => ow_nilCheck rfl ⟨rfl, List.Perm.refl _⟩) ?_
  refine any_op (fun c => ow_fieldAddr rfl rfl rfl (nb rfl) ⟨rfl, List.Perm.refl _⟩) ?_; refine any_op (fun c => ow_load 0 rfl rfl rfl rfl ⟨rfl, List.Perm.refl _⟩) ?_
  refine any_op (fun c => ow_neq rfl rfl ⟨rfl, List.Perm.refl _⟩) ?_; refine any_op (fun c => ow_move rfl ⟨rfl, List.Perm.refl _⟩) ?_; refine any_guardY rfl rfl (fun c => ow_move rfl ⟨rfl, List.Perm.refl _⟩) ?_
  refine any_guardY rfl rfl (fun c => ow_nilCheck rfl ⟨rfl, List.Perm.refl _⟩) ?_; refine any_guardY rfl rfl (fun c => ow_fieldAddr rfl rfl rfl (nb rfl) ⟨rfl, List.Perm.refl _⟩) ?_
  refine any_guardY rfl rfl (fun c => ow_load 0 rfl rfl rfl rfl ⟨rfl, List.Perm.refl _⟩) ?_; refine any_guardY rfl rfl (fun c => ow_move rfl ⟨rfl, List.Perm.refl _⟩) ?_
  refine any_guardY rfl rfl (fun c => ow_nilCheck rfl ⟨rfl, List.Perm.refl _⟩) ?_; refine any_guardY rfl rfl (fun c => ow_fieldAddr rfl rfl rfl (nb rfl) ⟨rfl, List.Perm.refl _⟩) ?_
  refine any_guardY rfl rfl (fun c => ow_load 0 rfl rfl rfl rfl ⟨rfl, List.Perm.refl _⟩) ?_; refine any_guardY rfl rfl (fun c => ow_len rfl (fun hlen => ⟨rfl, List.Perm.refl _⟩)) ?_
  refine any_guardY rfl rfl (fun c => ow_geq rfl rfl ⟨rfl, List.Perm.refl _⟩) ?_; refine any_op (fun c => ow_pickF rfl rfl rfl ⟨rfl, List.Perm.refl _⟩) ?_; refine any_op (fun c => ow_move rfl ⟨rfl, List.Perm.refl _⟩) ?_
  refine any_guardY rfl (decide_eq_false (by omega)) (fun c => ow_move rfl ⟨rfl, List.Perm.refl _⟩) ?_; refine any_guardY rfl (decide_eq_false (by omega)) (fun c => ow_nilCheck rfl ⟨rfl, List.Perm.refl _⟩) ?_
  refine any_guardY rfl (decide_eq_false (by omega)) (fun c => ow_fieldAddr rfl rfl rfl (nb rfl) ⟨rfl, List.Perm.refl _⟩) ?_
  refine any_guardY rfl (decide_eq_false (by omega)) (fun c => ow_load 0 rfl rfl rfl rfl ⟨rfl, List.Perm.refl _⟩) ?_; refine any_guardY rfl (decide_eq_false (by omega)) (fun c => ow_move rfl ⟨rfl, List.Perm.refl _⟩) ?_
  refine any_guardY rfl (decide_eq_false (by omega)) (fun c => ow_nilCheck rfl ⟨rfl, List.Perm.refl _⟩) ?_; refine any_guardY rfl (decide_eq_false (by omega)) (fun c => ow_fieldAddr rfl rfl rfl (nb rfl) ⟨rfl, List.Perm.refl _⟩) ?_
  refine any_guardY rfl (decide_eq_false (by omega)) (fun c => ow_load 0 rfl rfl rfl rfl ⟨rfl, List.Perm.refl _⟩) ?_
  refine any_guardY rfl (decide_eq_false (by omega)) (fun c => ow_indexAddrMapE rfl rfl (by omega) rfl rfl (nb rfl) ⟨rfl, List.Perm.refl _⟩) ?_
  refine any_guardY rfl (decide_eq_false (by omega)) (fun c => ow_fieldAddrPlace rfl rfl rfl (nb rfl) rfl (nb rfl) ⟨rfl, List.Perm.refl _⟩) ?_
  refine any_guardY rfl (decide_eq_false (by omega)) (fun c => ow_loadPlace rfl rfl ⟨rfl, List.Perm.refl _⟩) ?_; refine any_guardY rfl (decide_eq_false (by omega)) (fun c => ow_neq rfl rfl ⟨rfl, List.Perm.refl _⟩) ?_
  refine any_op (fun c => ow_pickF rfl (decide_eq_false (by omega)) rfl ⟨rfl, List.Perm.refl _⟩) ?_; refine any_nil ?_; refine jq_then ?_; refine jc_condF rfl (decide_eq_false (by assumption)) ?_; refine jc_skip ?_
  refine jq_then ?_; refine jc_seq ?_; refine jc_region ?_; refine jl_op (ow_move rfl ?_) (nb rfl); refine jl_op (ow_nilCheck rfl ?_) (nb rfl); refine jl_op (ow_fieldAddr rfl rfl rfl (nb rfl) ?_) (nb rfl)
  refine jl_op (ow_load 0 rfl rfl rfl rfl ?_) (nb rfl); refine jl_op (ow_add64 rfl rfl (by omega) ?_) (nb rfl); refine jl_op (ow_nilCheck rfl ?_) (nb rfl); refine jl_op (ow_fieldAddr rfl rfl rfl (nb rfl) ?_) (nb rfl)
  refine jl_op0 (ow_store1 0 rfl rfl rfl rfl (nb rfl) ?_); refine jl_nil ?_; refine jq_then ?_; refine jc_seq ?_; refine jc_any rfl rfl (by kernel_rfl) (by kernel_rfl) ?_
  refine any_op (fun c => ow_move rfl ⟨rfl, List.Perm.refl _⟩) ?_; refine any_op (fun c => ow_nilCheck rfl ⟨rfl, List.Perm.refl _⟩) ?_; refine any_op (fun c => ow_fieldAddr rfl rfl rfl (nb rfl) ⟨rfl, List.Perm.refl _⟩) ?_
  refine any_op (fun c => ow_load 0 rfl rfl rfl rfl ⟨rfl, List.Perm.refl _⟩) ?_; refine any_op (fun c => ow_move rfl ⟨rfl, List.Perm.refl _⟩) ?_; refine any_op (fun c => ow_nilCheck rfl ⟨rfl, List.Perm.refl _⟩) ?_
  refine any_op (fun c => ow_fieldAddr rfl rfl rfl (nb rfl) ⟨rfl, List.Perm.refl _⟩) ?_; refine any_op (fun c => ow_load 0 rfl rfl rfl rfl ⟨rfl, List.Perm.refl _⟩) ?_
  refine any_op (fun c => ow_sub64 rfl rfl (by omega) ⟨rfl, List.Perm.refl _⟩) ?_; refine any_op (fun c => ow_indexAddrMapI rfl rfl (by omega) (by omega) rfl rfl (nb rfl) ⟨rfl, List.Perm.refl _⟩) ?_
  refine any_op (fun c => ow_fieldAddrPlace rfl rfl rfl (nb rfl) rfl (nb rfl) ⟨rfl, List.Perm.refl _⟩) ?_; refine any_op (fun c => ow_loadPlace rfl rfl ⟨rfl, List.Perm.refl _⟩) ?_
  refine any_op (fun c => ow_assign rfl ⟨rfl, List.Perm.refl _⟩) ?_; refine any_nil ?_; refine jq_then ?_; refine jc_ret ?_
  refine jq_ret1 rfl rfl [0] rfl (fun K h => by rw [numAt_getI (m := (a : Int) + 1 - 1) (by omega) (by omega)] at h; exact h)
theorem rdeep_e (he : ¬ e = 0) (_ha : a ≤ 2000000) (d : Int) : Con Tryd.prog 84 [Ptr b, In .i64 d] [Rz b l a ln e fr] (fun K => K (.tup []) [Rz b l a ln e fr]) := by
  refine con_intro Tryd.func84 rfl rfl (Nat.le_of_ble_eq_true rfl) (fun c hc => ?_)
  by_cases hd : d > 8
  · cases fr with
    | true =>
      refine jc_seq ?_; refine jc_region ?_; refine jl_op (ow_move rfl ?_) (nb rfl); refine jl_op (ow_gtr rfl rfl ?_) (nb rfl); refine jl_op (ow_move rfl ?_) (nb rfl)
      refine jl_guardY rfl (decide_eq_true (by assumption)) (nb rfl) (ow_move rfl ?_); refine jl_guardY rfl (decide_eq_true (by assumption)) (nb rfl) (ow_nilCheck rfl ?_)
      refine jl_guardY rfl (decide_eq_true (by assumption)) (nb rfl) (ow_fieldAddr rfl rfl rfl (nb rfl) ?_); refine jl_guardY rfl (decide_eq_true (by assumption)) (nb rfl) (ow_load 0 rfl rfl rfl rfl ?_)
      refine jl_guardY rfl (decide_eq_true (by assumption)) (nb rfl) (ow_not rfl ?_); refine jl_op (ow_pickT rfl (decide_eq_true (by assumption)) rfl ?_) (nb rfl); refine jl_nil ?_; refine jq_then ?_; refine jc_condF rfl rfl ?_
      refine jc_skip ?_; refine jq_ret0 (.inr rfl) rfl [0] rfl (fun K h => h)
    | false =>
      refine jc_seq ?_; refine jc_region ?_; refine jl_op (ow_move rfl ?_) (nb rfl); refine jl_op (ow_gtr rfl rfl ?_) (nb rfl); refine jl_op (ow_move rfl ?_) (nb rfl)
      refine jl_guardY rfl (decide_eq_true (by assumption)) (nb rfl) (ow_move rfl ?_); refine jl_guardY rfl (decide_eq_true (by assumption)) (nb rfl) (ow_nilCheck rfl ?_)
      refine jl_guardY rfl (decide_eq_true (by assumption)) (nb rfl) (ow_fieldAddr rfl rfl rfl (nb rfl) ?_); refine jl_guardY rfl (decide_eq_true (by assumption)) (nb rfl) (ow_load 0 rfl rfl rfl rfl ?_)
      refine jl_guardY rfl (decide_eq_true (by assumption)) (nb rfl) (ow_not rfl ?_); refine jl_op (ow_pickT rfl (decide_eq_true (by assumption)) rfl ?_) (nb rfl); refine jl_nil ?_; refine jq_then ?_; refine jc_condT rfl rfl ?_
      refine jc_region ?_; refine jl_op (ow_move rfl ?_) (nb rfl); refine jl_op (ow_move rfl ?_) (nb rfl); refine jl_op (ow_nilCheck rfl ?_) (nb rfl); refine jl_op (ow_fieldAddr rfl rfl rfl (nb rfl) ?_) (nb rfl)
      refine jl_op (ow_load 0 rfl rfl rfl rfl ?_) (nb rfl); refine jl_op (ow_sub64 rfl rfl (by omega) ?_) (nb rfl); refine jl_op (ow_call1 [0] rfl rfl (rfail_e he _ _) ?_) (nb rfl); refine jl_nil ?_
      refine jq_ret0 (.inr rfl) rfl [0] rfl (fun K h => h)
  · refine jc_seq ?_; refine jc_region ?_; refine jl_op (ow_move rfl ?_) (nb rfl); refine jl_op (ow_gtr rfl rfl ?_) (nb rfl); refine jl_op (ow_move rfl ?_) (nb rfl)
    refine jl_guardN rfl (decide_eq_false (by assumption)) (nb rfl) ?_; refine jl_guardN rfl (decide_eq_false (by assumption)) (nb rfl) ?_; refine jl_guardN rfl (decide_eq_false (by assumption)) (nb rfl) ?_
    refine jl_guardN rfl (decide_eq_false (by assumption)) (nb rfl) ?_; refine jl_guardN rfl (decide_eq_false (by assumption)) (nb rfl) ?_; refine jl_op (ow_pickF rfl (decide_eq_false (by assumption)) rfl ?_) (nb rfl)
    refine jl_nil ?_; refine jq_then ?_; refine jc_condF rfl rfl ?_; refine jc_skip ?_; refine jq_ret0 (.inr rfl) rfl [0] rfl (fun K h => h)
theorem rdeep_y (d : Int) (h : ¬ (fr = false ∧ d > 8)) : Con Tryd.prog 84 [Ptr b, In .i64 d] [Rz b l a ln 0 fr] (fun K => K (.tup []) [Rz b l a ln 0 fr]) := by
  refine con_intro Tryd.func84 rfl rfl (Nat.le_of_ble_eq_true rfl) (fun c hc => ?_)
  by_cases hd : d > 8
  · cases fr with
    | true =>
      refine jc_seq ?_; refine jc_region ?_; refine jl_op (ow_move rfl ?_) (nb rfl); refine jl_op (ow_gtr rfl rfl ?_) (nb rfl); refine jl_op (ow_move rfl ?_) (nb rfl)
      refine jl_guardY rfl (decide_eq_true (by assumption)) (nb rfl) (ow_move rfl ?_); refine jl_guardY rfl (decide_eq_true (by assumption)) (nb rfl) (ow_nilCheck rfl ?_)
      refine jl_guardY rfl (decide_eq_true (by assumption)) (nb rfl) (ow_fieldAddr rfl rfl rfl (nb rfl) ?_); refine jl_guardY rfl (decide_eq_true (by assumption)) (nb rfl) (ow_load 0 rfl rfl rfl rfl ?_)
      refine jl_guardY rfl (decide_eq_true (by assumption)) (nb rfl) (ow_not rfl ?_); refine jl_op (ow_pickT rfl (decide_eq_true (by assumption)) rfl ?_) (nb rfl); refine jl_nil ?_; refine jq_then ?_; refine jc_condF rfl rfl ?_
      refine jc_skip ?_; refine jq_ret0 (.inr rfl) rfl [0] rfl (fun K h => h)
    | false => exact absurd ⟨rfl, hd⟩ h
  · refine jc_seq ?_; refine jc_region ?_; refine jl_op (ow_move rfl ?_) (nb rfl); refine jl_op (ow_gtr rfl rfl ?_) (nb rfl); refine jl_op (ow_move rfl ?_) (nb rfl)
    refine jl_guardN rfl (decide_eq_false (by assumption)) (nb rfl) ?_; refine jl_guardN rfl (decide_eq_false (by assumption)) (nb rfl) ?_; refine jl_guardN rfl (decide_eq_false (by assumption)) (nb rfl) ?_
    refine jl_guardN rfl (decide_eq_false (by assumption)) (nb rfl) ?_; refine jl_guardN rfl (decide_eq_false (by assumption)) (nb rfl) ?_; refine jl_op (ow_pickF rfl (decide_eq_false (by assumption)) rfl ?_) (nb rfl)
    refine jl_nil ?_; refine jq_then ?_; refine jc_condF rfl rfl ?_; refine jc_skip ?_; refine jq_ret0 (.inr rfl) rfl [0] rfl (fun K h => h)
include hl in
theorem rdeep_n (d : Int) (h : d > 8) (ha0 : 1 ≤ a) (ha : a ≤ l.length) : Con Tryd.prog 84 [Ptr b, In .i64 d] [Rz b l a ln 0 false] (fun K => K (.tup []) [Rz b l a (lineAt l (a - 1)) 4 false]) := by
  refine con_intro Tryd.func84 rfl rfl (Nat.le_of_ble_eq_true rfl) (fun c hc => ?_)
  have hF := rfail_c (b := b) (a := a) (ln := ln) (fr := false) hl (a - 1) (by omega) 4
  rw [show ((a - 1 : Nat) : Int) = (a : Int) - 1 by omega] at hF
  refine jc_seq ?_; refine jc_region ?_; refine jl_op (ow_move rfl ?_) (nb rfl); refine jl_op (ow_gtr rfl rfl ?_) (nb rfl); refine jl_op (ow_move rfl ?_) (nb rfl)
  refine jl_guardY rfl (decide_eq_true (by assumption)) (nb rfl) (ow_move rfl ?_); refine jl_guardY rfl (decide_eq_true (by assumption)) (nb rfl) (ow_nilCheck rfl ?_)
  refine jl_guardY rfl (decide_eq_true (by assumption)) (nb rfl) (ow_fieldAddr rfl rfl rfl (nb rfl) ?_); refine jl_guardY rfl (decide_eq_true (by assumption)) (nb rfl) (ow_load 0 rfl rfl rfl rfl ?_)
  refine jl_guardY rfl (decide_eq_true (by assumption)) (nb rfl) (ow_not rfl ?_); refine jl_op (ow_pickT rfl (decide_eq_true (by assumption)) rfl ?_) (nb rfl); refine jl_nil ?_; refine jq_then ?_; refine jc_condT rfl rfl ?_
  refine jc_region ?_; refine jl_op (ow_move rfl ?_) (nb rfl); refine jl_op (ow_move rfl ?_) (nb rfl); refine jl_op (ow_nilCheck rfl ?_) (nb rfl); refine jl_op (ow_fieldAddr rfl rfl rfl (nb rfl) ?_) (nb rfl)
  refine jl_op (ow_load 0 rfl rfl rfl rfl ?_) (nb rfl); refine jl_op (ow_sub64 rfl rfl (by omega) ?_) (nb rfl); refine jl_op (ow_call1 [0] rfl rfl (hF) ?_) (nb rfl); refine jl_nil ?_
  refine jq_ret0 (.inr rfl) rfl [0] rfl (fun K h => h)
end
end Go.Proofs.YtamajcgdfjeehaaDoor
end

section
namespace Go.Proofs.YtamajcgdfjeehaaDoor
open Go.Vc
attribute [local irreducible] JL JC JQ OpWp Con ConN Pan ConE OpPan hasW idxW isA isNum isNm numAt txtAt lineAt opAt lx lpx
set_option maxHeartbeats 4000000

def need (l : List Tok) (k a : Nat) : Nat := 5 * (l.length - a) + (4 - k)
def LgP (l : List Tok) (F : Nat) : Prop := ∀ (b k a p : Nat), k ≤ 2 → a ≤ l.length → p ≤ l.length → need l (k + 1) a ≤ F → Con Tryd.prog 47 [Ptr b, In .i64 (a : Int), In .i64 (k : Int)] [Pz b l p] (fun K => ∀ q : Nat, q ≤ l.length → K (.row (PFX (lx l F (k + 1) a))) [Pz b l q])
def LtP (l : List Tok) (F : Nat) : Prop := ∀ (b a p : Nat), a ≤ l.length → p ≤ l.length → need l 0 a ≤ F → Con Tryd.prog 27 [Ptr b, In .i64 (a : Int)] [Pz b l p] (fun K => ∀ q : Nat, q ≤ l.length → K (.row (PFX (lx l F 0 a))) [Pz b l q])
def ShP (l : List Tok) (F : Nat) : Prop := ∀ (b a p : Nat), a ≤ l.length → p ≤ l.length → need l 3 a ≤ F → Con Tryd.prog 79 [Ptr b, In .i64 (a : Int)] [Pz b l p] (fun K => ∀ q : Nat, q ≤ l.length → K (.row (PFX (lx l F 3 a))) [Pz b l q])
def InP (l : List Tok) (F : Nat) : Prop := ∀ (b a p : Nat) (w : ByteArray), a ≤ l.length → p ≤ l.length → need l 0 a ≤ F → Con Tryd.prog 111 [Ptr b, In .i64 (a : Int), Str w] [Pz b l p] (fun K => ∀ q : Nat, q ≤ l.length → K (.row (PFX (inx l w (lx l F 0 a)))) [Pz b l q])

section
variable {l : List Tok} (hl : l.length ≤ 1000000)
include hl
theorem inner_step (F : Nat) (hL : LtP l F) : InP l F := by
  intro b a p w ha hp hF
  have con := hL b a p ha hp hF
  refine con_intro Tryd.func111 rfl rfl (Nat.le_of_ble_eq_true rfl) (fun c hc => ?_)
  cases hr : lx l F 0 a with
  | none =>
    rw [hr] at con
    refine jc_seq ?_; refine jc_region ?_; refine jl_op (ow_alloc rfl rfl (fun bl => ?_)) (nb rfl); refine jl_nil ?_; refine jq_then ?_; refine jc_seq ?_; refine jc_region ?_; refine jl_op (ow_move rfl ?_) (nb rfl)
    refine jl_op (ow_move rfl ?_) (nb rfl); refine jl_op (ow_callP [1] rfl rfl (con) (fun pp hpp => ?_)) (nb rfl); refine jl_op (ow_alloc rfl rfl (fun bl => ?_)) (nb rfl); refine jl_op0 (ow_storeAll 0 rfl rfl rfl rfl rfl rfl ?_)
    refine jl_nil ?_; refine jq_then ?_; refine jc_seq ?_; refine jc_seq ?_; refine jc_region ?_; refine jl_op (ow_move rfl ?_) (nb rfl); refine jl_op (ow_fieldAddr rfl rfl rfl (nb rfl) ?_) (nb rfl)
    refine jl_op (ow_load 0 rfl rfl rfl rfl ?_) (nb rfl); refine jl_op (ow_nilCheck rfl ?_) (nb rfl); refine jl_op (ow_fieldAddr rfl rfl rfl (nb rfl) ?_) (nb rfl); refine jl_op0 (ow_store1 1 rfl rfl rfl rfl (nb rfl) ?_)
    refine jl_nil ?_; refine jq_then ?_; refine jc_seq ?_; refine jc_region ?_; refine jl_op (ow_fieldAddr rfl rfl rfl (nb rfl) ?_) (nb rfl); refine jl_op (ow_load 1 rfl rfl rfl rfl ?_) (nb rfl)
    refine jl_op (ow_not rfl ?_) (nb rfl); refine jl_op (ow_move rfl ?_) (nb rfl); refine jl_guardN rfl rfl (nb rfl) ?_; refine jl_guardN rfl rfl (nb rfl) ?_; refine jl_guardN rfl rfl (nb rfl) ?_
    refine jl_guardN rfl rfl (nb rfl) ?_; refine jl_op (ow_pickT rfl rfl rfl ?_) (nb rfl); refine jl_nil ?_; refine jq_then ?_; refine jc_condT rfl rfl ?_; refine jc_seq ?_; refine jc_region ?_
    refine jl_op (ow_build rfl rfl rfl rfl rfl ?_) (nb rfl); refine jl_op0 (ow_storeAll 2 rfl rfl rfl rfl rfl rfl ?_); refine jl_nil ?_; refine jq_then ?_; refine jc_ret ?_; refine jq_then_ret ?_
    refine jq_retRowS rfl rfl rfl rfl 0 rfl (fun K h => h 0 (Nat.zero_le _)) ?_; refine sub_step 1 rfl ?_; exact sub_end
  | some tb =>
    obtain ⟨t, c⟩ := tb
    rw [hr] at con
    have hc := lx_bd _ _ _ _ _ hr
    cases hw : isA l c w with
    | true =>
      have hlt := isA_lt hw
      have e : inx l w (some (t, c)) = some (t, c + 1) := by rw [inx, if_pos hw]
      refine jc_seq ?_; refine jc_region ?_; refine jl_op (ow_alloc rfl rfl (fun bl => ?_)) (nb rfl); refine jl_nil ?_; refine jq_then ?_; refine jc_seq ?_; refine jc_region ?_; refine jl_op (ow_move rfl ?_) (nb rfl)
      refine jl_op (ow_move rfl ?_) (nb rfl); refine jl_op (ow_callP [1] rfl rfl (con) (fun pp hpp => ?_)) (nb rfl); refine jl_op (ow_alloc rfl rfl (fun bl => ?_)) (nb rfl); refine jl_op0 (ow_storeAll 0 rfl rfl rfl rfl rfl rfl ?_)
      refine jl_nil ?_; refine jq_then ?_; refine jc_seq ?_; refine jc_seq ?_; refine jc_region ?_; refine jl_op (ow_move rfl ?_) (nb rfl); refine jl_op (ow_fieldAddr rfl rfl rfl (nb rfl) ?_) (nb rfl)
      refine jl_op (ow_load 0 rfl rfl rfl rfl ?_) (nb rfl); refine jl_op (ow_nilCheck rfl ?_) (nb rfl); refine jl_op (ow_fieldAddr rfl rfl rfl (nb rfl) ?_) (nb rfl); refine jl_op0 (ow_store1 1 rfl rfl rfl rfl (nb rfl) ?_)
      refine jl_nil ?_; refine jq_then ?_; refine jc_seq ?_; refine jc_region ?_; refine jl_op (ow_fieldAddr rfl rfl rfl (nb rfl) ?_) (nb rfl); refine jl_op (ow_load 1 rfl rfl rfl rfl ?_) (nb rfl)
      refine jl_op (ow_not rfl ?_) (nb rfl); refine jl_op (ow_move rfl ?_) (nb rfl); refine jl_guardY rfl rfl (nb rfl) (ow_move rfl ?_); refine jl_guardY rfl rfl (nb rfl) (ow_move rfl ?_)
      refine jl_guardY rfl rfl (nb rfl) (ow_call1 [0] rfl rfl (has_y hl (by omega) (by assumption)) ?_); refine jl_guardY rfl rfl (nb rfl) (ow_not rfl ?_); refine jl_op (ow_pickF rfl rfl rfl ?_) (nb rfl); refine jl_nil ?_
      refine jq_then ?_; refine jc_condF rfl rfl ?_; refine jc_skip ?_; refine jq_then ?_; refine jc_seq ?_; refine jc_anyB 7 none rfl (by kernel_rfl) (by kernel_rfl) ?_
      refine any_op (fun c => ow_fieldAddr rfl rfl rfl (nb rfl) ⟨rfl, List.Perm.refl _⟩) ?_; refine any_op (fun c => ow_loadN 1 rfl rfl rfl rfl rfl ⟨rfl, List.Perm.refl _⟩) ?_
      refine any_op (fun c => ow_move rfl ⟨rfl, List.Perm.refl _⟩) ?_; refine any_op (fun c => ow_nilCheck rfl ⟨rfl, List.Perm.refl _⟩) ?_; refine any_op (fun c => ow_fieldAddr rfl rfl rfl (nb rfl) ⟨rfl, List.Perm.refl _⟩) ?_
      refine any_op (fun c => ow_load 0 rfl rfl rfl rfl ⟨rfl, List.Perm.refl _⟩) ?_; refine any_op (fun c => ow_build rfl rfl rfl rfl rfl ⟨rfl, List.Perm.refl _⟩) ?_; refine any_nil ?_; refine afin_none ?_
      refine jl_op0 (ow_storeAll 2 rfl rfl rfl rfl rfl rfl ?_); refine jl_nil ?_; refine jq_then ?_; refine jc_ret ?_; refine jq_retRowS rfl rfl rfl rfl 0 rfl (fun K h => by rw [e] at h; exact h (c + 1) (by omega)) ?_
      refine sub_step 1 rfl ?_; exact sub_end
    | false =>
      have e : inx l w (some (t, c)) = none := by rw [inx, if_neg (by rw [hw]; decide)]
      refine jc_seq ?_; refine jc_region ?_; refine jl_op (ow_alloc rfl rfl (fun bl => ?_)) (nb rfl); refine jl_nil ?_; refine jq_then ?_; refine jc_seq ?_; refine jc_region ?_; refine jl_op (ow_move rfl ?_) (nb rfl)
      refine jl_op (ow_move rfl ?_) (nb rfl); refine jl_op (ow_callP [1] rfl rfl (con) (fun pp hpp => ?_)) (nb rfl); refine jl_op (ow_alloc rfl rfl (fun bl => ?_)) (nb rfl); refine jl_op0 (ow_storeAll 0 rfl rfl rfl rfl rfl rfl ?_)
      refine jl_nil ?_; refine jq_then ?_; refine jc_seq ?_; refine jc_seq ?_; refine jc_region ?_; refine jl_op (ow_move rfl ?_) (nb rfl); refine jl_op (ow_fieldAddr rfl rfl rfl (nb rfl) ?_) (nb rfl)
      refine jl_op (ow_load 0 rfl rfl rfl rfl ?_) (nb rfl); refine jl_op (ow_nilCheck rfl ?_) (nb rfl); refine jl_op (ow_fieldAddr rfl rfl rfl (nb rfl) ?_) (nb rfl); refine jl_op0 (ow_store1 1 rfl rfl rfl rfl (nb rfl) ?_)
      refine jl_nil ?_; refine jq_then ?_; refine jc_seq ?_; refine jc_region ?_; refine jl_op (ow_fieldAddr rfl rfl rfl (nb rfl) ?_) (nb rfl); refine jl_op (ow_load 1 rfl rfl rfl rfl ?_) (nb rfl)
      refine jl_op (ow_not rfl ?_) (nb rfl); refine jl_op (ow_move rfl ?_) (nb rfl); refine jl_guardY rfl rfl (nb rfl) (ow_move rfl ?_); refine jl_guardY rfl rfl (nb rfl) (ow_move rfl ?_)
      refine jl_guardY rfl rfl (nb rfl) (ow_call1 [0] rfl rfl (has_n hl (by omega) (by assumption)) ?_); refine jl_guardY rfl rfl (nb rfl) (ow_not rfl ?_); refine jl_op (ow_pickF rfl rfl rfl ?_) (nb rfl); refine jl_nil ?_
      refine jq_then ?_; refine jc_condT rfl rfl ?_; refine jc_seq ?_; refine jc_region ?_; refine jl_op (ow_build rfl rfl rfl rfl rfl ?_) (nb rfl); refine jl_op0 (ow_storeAll 2 rfl rfl rfl rfl rfl rfl ?_); refine jl_nil ?_
      refine jq_then ?_; refine jc_ret ?_; refine jq_then_ret ?_; refine jq_retRowS rfl rfl rfl rfl 0 rfl (fun K h => by rw [e] at h; exact h c (by omega)) ?_; refine sub_step 1 rfl ?_; exact sub_end
theorem shortest_step (F : Nat) (hS : ShP l F) (hI : InP l F) : ShP l (F + 1) := by
  intro b a p ha hp hF
  unfold need at hF
  refine con_intro Tryd.func79 rfl rfl (Nat.le_of_ble_eq_true rfl) (fun c hc => ?_)
  cases h1 : isNum l a with
  | true =>
    have hlt := isNum_lt h1
    have e : lx l (F + 1) 3 a = some (.nu (numAt l a), a + 1) := by rw [lx, if_pos (Nat.le_refl _), if_pos h1]
    refine jc_seq ?_; refine jc_region ?_; refine jl_op (ow_alloc rfl rfl (fun bl => ?_)) (nb rfl); refine jl_nil ?_; refine jq_then ?_; refine jc_seq ?_; refine jc_region ?_; refine jl_op (ow_move rfl ?_) (nb rfl)
    refine jl_op (ow_move rfl ?_) (nb rfl); refine jl_op (ow_nilCheck rfl ?_) (nb rfl); refine jl_op (ow_fieldAddr rfl rfl rfl (nb rfl) ?_) (nb rfl); refine jl_op0 (ow_store1 1 rfl rfl rfl rfl (nb rfl) ?_); refine jl_nil ?_
    refine jq_then ?_; refine jc_seq ?_; refine jc_block ?_; refine jc_seq ?_; refine jc_region ?_; refine jl_op (ow_move rfl ?_) (nb rfl); refine jl_op (ow_call1 [0] rfl rfl (numbered_y (by omega) (by assumption)) ?_) (nb rfl)
    refine jl_op (ow_assign rfl ?_) (nb rfl); refine jl_nil ?_; refine jq_then ?_; refine jc_condT rfl rfl ?_; refine jc_seq ?_; refine jc_region ?_; refine jl_op (ow_move rfl ?_) (nb rfl)
    refine jl_op (ow_call1 [0] rfl rfl (pnum_ok hl (by omega) (by assumption)) ?_) (nb rfl); refine jl_op (ow_build rfl rfl rfl rfl rfl ?_) (nb rfl); refine jl_op (ow_move rfl ?_) (nb rfl)
    refine jl_op (ow_add64 rfl rfl (by omega) ?_) (nb rfl); refine jl_op (ow_build rfl rfl rfl rfl rfl ?_) (nb rfl); refine jl_op0 (ow_storeAll 1 rfl rfl rfl rfl rfl rfl ?_); refine jl_nil ?_; refine jq_then ?_; refine jc_ret ?_
    refine jq_block_ret ?_; refine jq_then_ret ?_; refine jq_row 0 (PFX (some (.nu (numAt l a), a + 1))) rfl ?_ ?_
    · (repeat (first | exact RowLe.nil | refine RowLe.cons (CLe.refl _) ?_ | refine RowLe.cons CLe.nil ?_))
    · refine jq_retRowS rfl rfl rfl rfl 0 rfl (fun K h => by rw [e] at h; exact h (a + 1) (by omega)) ?_; refine sub_step 1 rfl ?_; exact sub_end
  | false =>
    have h1' : ¬ isNum l a = true := by rw [h1]; decide
    cases h2 : isA l a W45 with
    | true =>
      have hlt := isA_lt h2
      cases h3 : isNum l (a + 1) with
      | true =>
        have hlt2 := isNum_lt h3
        have e : lx l (F + 1) 3 a = some (.nu (ngI (numAt l (a + 1))), a + 2) := by rw [lx, if_pos (Nat.le_refl _), if_neg h1', if_pos h2, if_pos h3]
        refine jc_seq ?_; refine jc_region ?_; refine jl_op (ow_alloc rfl rfl (fun bl => ?_)) (nb rfl); refine jl_nil ?_; refine jq_then ?_; refine jc_seq ?_; refine jc_region ?_; refine jl_op (ow_move rfl ?_) (nb rfl)
        refine jl_op (ow_move rfl ?_) (nb rfl); refine jl_op (ow_nilCheck rfl ?_) (nb rfl); refine jl_op (ow_fieldAddr rfl rfl rfl (nb rfl) ?_) (nb rfl); refine jl_op0 (ow_store1 1 rfl rfl rfl rfl (nb rfl) ?_); refine jl_nil ?_
        refine jq_then ?_; refine jc_seq ?_; refine jc_block ?_; refine jc_seq ?_; refine jc_region ?_; refine jl_op (ow_move rfl ?_) (nb rfl); refine jl_op (ow_call1 [0] rfl rfl (numbered_n (by omega) h1) ?_) (nb rfl)
        refine jl_op (ow_assign rfl ?_) (nb rfl); refine jl_nil ?_; refine jq_then ?_; refine jc_condF rfl rfl ?_; refine jc_seq ?_; refine jc_region ?_; refine jl_op (ow_move rfl ?_) (nb rfl)
        refine jl_op (ow_call1 [0] rfl rfl (has_y hl (by omega) (by assumption)) ?_) (nb rfl); refine jl_op (ow_assign rfl ?_) (nb rfl); refine jl_nil ?_; refine jq_then ?_; refine jc_condT rfl rfl ?_; refine jc_seq ?_
        refine jc_seq ?_; refine jc_region ?_; refine jl_op (ow_move rfl ?_) (nb rfl); refine jl_op (ow_call1 [0] rfl rfl (numbered_y (by omega) h3) ?_) (nb rfl); refine jl_nil ?_; refine jq_then ?_; refine jc_condT rfl rfl ?_
        refine jc_seq ?_; refine jc_region ?_; refine jl_op (ow_move rfl ?_) (nb rfl); refine jl_op (ow_call1 [0] rfl rfl (pnum_ok hl (by omega) (by assumption)) ?_) (nb rfl); refine jl_op (ow_negW rfl ?_) (nb rfl)
        refine jl_op (ow_build rfl rfl rfl rfl rfl ?_) (nb rfl); refine jl_op (ow_move rfl ?_) (nb rfl); refine jl_op (ow_add64 rfl rfl (by omega) ?_) (nb rfl); refine jl_op (ow_build rfl rfl rfl rfl rfl ?_) (nb rfl)
        refine jl_op0 (ow_storeAll 1 rfl rfl rfl rfl rfl rfl ?_); refine jl_nil ?_; refine jq_then ?_; refine jc_ret ?_; refine jq_then_ret ?_; refine jq_block_ret ?_; refine jq_then_ret ?_
        refine jq_row 0 (PFX (some (.nu (ngI (numAt l (a + 1))), a + 2))) rfl ?_ ?_
        · (repeat (first | exact RowLe.nil | refine RowLe.cons (CLe.refl _) ?_ | refine RowLe.cons CLe.nil ?_))
        · refine jq_retRowS rfl rfl rfl rfl 0 rfl (fun K h => by rw [e] at h; exact h (a + 2) (by omega)) ?_; refine sub_step 1 rfl ?_; exact sub_end
      | false =>
        have h3' : ¬ isNum l (a + 1) = true := by rw [h3]; decide
        have con := hS b (a + 1) (a + 1) (by omega) (by omega) (by unfold need; omega)
        cases hr : lx l F 3 (a + 1) with
        | none =>
          have e : lx l (F + 1) 3 a = none := by rw [lx, if_pos (Nat.le_refl _), if_neg h1', if_pos h2, if_neg h3', hr]
          rw [hr] at con
          refine jc_seq ?_; refine jc_region ?_; refine jl_op (ow_alloc rfl rfl (fun bl => ?_)) (nb rfl); refine jl_nil ?_; refine jq_then ?_; refine jc_seq ?_; refine jc_region ?_; refine jl_op (ow_move rfl ?_) (nb rfl)
          refine jl_op (ow_move rfl ?_) (nb rfl); refine jl_op (ow_nilCheck rfl ?_) (nb rfl); refine jl_op (ow_fieldAddr rfl rfl rfl (nb rfl) ?_) (nb rfl); refine jl_op0 (ow_store1 1 rfl rfl rfl rfl (nb rfl) ?_); refine jl_nil ?_
          refine jq_then ?_; refine jc_seq ?_; refine jc_block ?_; refine jc_seq ?_; refine jc_region ?_; refine jl_op (ow_move rfl ?_) (nb rfl); refine jl_op (ow_call1 [0] rfl rfl (numbered_n (by omega) h1) ?_) (nb rfl)
          refine jl_op (ow_assign rfl ?_) (nb rfl); refine jl_nil ?_; refine jq_then ?_; refine jc_condF rfl rfl ?_; refine jc_seq ?_; refine jc_region ?_; refine jl_op (ow_move rfl ?_) (nb rfl)
          refine jl_op (ow_call1 [0] rfl rfl (has_y hl (by omega) (by assumption)) ?_) (nb rfl); refine jl_op (ow_assign rfl ?_) (nb rfl); refine jl_nil ?_; refine jq_then ?_; refine jc_condT rfl rfl ?_; refine jc_seq ?_
          refine jc_seq ?_; refine jc_region ?_; refine jl_op (ow_move rfl ?_) (nb rfl); refine jl_op (ow_call1 [0] rfl rfl (numbered_n (by omega) h3) ?_) (nb rfl); refine jl_nil ?_; refine jq_then ?_; refine jc_condF rfl rfl ?_
          refine jc_skip ?_; refine jq_then ?_; refine jc_seq ?_; refine jc_region ?_; refine jl_op (ow_move rfl ?_) (nb rfl); refine jl_op (ow_move rfl ?_) (nb rfl); refine jl_op (ow_add64 rfl rfl (by omega) ?_) (nb rfl)
          refine jl_op (ow_callP [0] rfl rfl (con) (fun pp hpp => ?_)) (nb rfl); refine jl_op (ow_alloc rfl rfl (fun bl => ?_)) (nb rfl); refine jl_op0 (ow_storeAll 0 rfl rfl rfl rfl rfl rfl ?_); refine jl_nil ?_
          refine jq_then ?_; refine jc_seq ?_; refine jc_seq ?_; refine jc_region ?_; refine jl_op (ow_fieldAddr rfl rfl rfl (nb rfl) ?_) (nb rfl); refine jl_op (ow_load 0 rfl rfl rfl rfl ?_) (nb rfl); refine jl_nil ?_
          refine jq_then ?_; refine jc_condF rfl rfl ?_; refine jc_skip ?_; refine jq_then ?_; refine jc_seq ?_; refine jc_region ?_; refine jl_op (ow_loadAll 0 rfl rfl rfl rfl ?_) (nb rfl)
          refine jl_op0 (ow_storeAll 2 rfl rfl rfl rfl rfl rfl ?_); refine jl_nil ?_; refine jq_then ?_; refine jc_ret ?_; refine jq_block_ret ?_; refine jq_then_ret ?_
          refine jq_retRowS rfl rfl rfl rfl 0 rfl (fun K h => by rw [e] at h; exact h pp hpp) ?_; refine sub_step 2 rfl ?_; exact sub_end
        | some tb =>
          obtain ⟨t, c⟩ := tb
          have hc := lx_bd _ _ _ _ _ hr
          have e : lx l (F + 1) 3 a = some (.bn 2 (.nu 0) t, c) := by rw [lx, if_pos (Nat.le_refl _), if_neg h1', if_pos h2, if_neg h3', hr]
          rw [hr] at con
          have hB := binaryN_c 2 0 t
          refine jc_seq ?_; refine jc_region ?_; refine jl_op (ow_alloc rfl rfl (fun bl => ?_)) (nb rfl); refine jl_nil ?_; refine jq_then ?_; refine jc_seq ?_; refine jc_region ?_; refine jl_op (ow_move rfl ?_) (nb rfl)
          refine jl_op (ow_move rfl ?_) (nb rfl); refine jl_op (ow_nilCheck rfl ?_) (nb rfl); refine jl_op (ow_fieldAddr rfl rfl rfl (nb rfl) ?_) (nb rfl); refine jl_op0 (ow_store1 1 rfl rfl rfl rfl (nb rfl) ?_); refine jl_nil ?_
          refine jq_then ?_; refine jc_seq ?_; refine jc_block ?_; refine jc_seq ?_; refine jc_region ?_; refine jl_op (ow_move rfl ?_) (nb rfl); refine jl_op (ow_call1 [0] rfl rfl (numbered_n (by omega) h1) ?_) (nb rfl)
          refine jl_op (ow_assign rfl ?_) (nb rfl); refine jl_nil ?_; refine jq_then ?_; refine jc_condF rfl rfl ?_; refine jc_seq ?_; refine jc_region ?_; refine jl_op (ow_move rfl ?_) (nb rfl)
          refine jl_op (ow_call1 [0] rfl rfl (has_y hl (by omega) (by assumption)) ?_) (nb rfl); refine jl_op (ow_assign rfl ?_) (nb rfl); refine jl_nil ?_; refine jq_then ?_; refine jc_condT rfl rfl ?_; refine jc_seq ?_
          refine jc_seq ?_; refine jc_region ?_; refine jl_op (ow_move rfl ?_) (nb rfl); refine jl_op (ow_call1 [0] rfl rfl (numbered_n (by omega) h3) ?_) (nb rfl); refine jl_nil ?_; refine jq_then ?_; refine jc_condF rfl rfl ?_
          refine jc_skip ?_; refine jq_then ?_; refine jc_seq ?_; refine jc_region ?_; refine jl_op (ow_move rfl ?_) (nb rfl); refine jl_op (ow_move rfl ?_) (nb rfl); refine jl_op (ow_add64 rfl rfl (by omega) ?_) (nb rfl)
          refine jl_op (ow_callP [0] rfl rfl (con) (fun pp hpp => ?_)) (nb rfl); refine jl_op (ow_alloc rfl rfl (fun bl => ?_)) (nb rfl); refine jl_op0 (ow_storeAll 0 rfl rfl rfl rfl rfl rfl ?_); refine jl_nil ?_
          refine jq_then ?_; refine jc_seq ?_; refine jc_seq ?_; refine jc_region ?_; refine jl_op (ow_fieldAddr rfl rfl rfl (nb rfl) ?_) (nb rfl); refine jl_op (ow_load 0 rfl rfl rfl rfl ?_) (nb rfl); refine jl_nil ?_
          refine jq_then ?_; refine jc_condT rfl rfl ?_; refine jc_region ?_; refine jl_op (ow_build rfl rfl rfl rfl rfl ?_) (nb rfl); refine jl_op (ow_fieldAddr rfl rfl rfl (nb rfl) ?_) (nb rfl)
          refine jl_op (ow_loadN 0 rfl rfl rfl rfl rfl ?_) (nb rfl); refine jl_op (ow_call0 rfl (hB) ?_) (nb rfl); refine jl_op (ow_fieldAddr rfl rfl rfl (nb rfl) ?_) (nb rfl)
          refine jl_op0 (ow_storeN 0 rfl rfl rfl rfl rfl (nb rfl) rfl ?_); refine jl_nil ?_; refine jq_then ?_; refine jc_seq ?_; refine jc_region ?_; refine jl_op (ow_loadAll 0 rfl rfl rfl rfl ?_) (nb rfl)
          refine jl_op0 (ow_storeAll 2 rfl rfl rfl rfl rfl rfl ?_); refine jl_nil ?_; refine jq_then ?_; refine jc_ret ?_; refine jq_block_ret ?_; refine jq_then_ret ?_
          refine jq_retRowS rfl rfl rfl rfl 0 rfl (fun K h => by rw [e] at h; exact h pp hpp) ?_; refine sub_step 2 rfl ?_; exact sub_end
    | false =>
      have h2' : ¬ isA l a W45 = true := by rw [h2]; decide
      cases h3 : isNm l a with
      | true =>
        have hlt := isNm_lt h3
        cases h4 : isA l (a + 1) W91 with
        | true =>
          have hlt2 := isA_lt h4
          have con := hI b (a + 2) (a + 2) W93 (by omega) (by omega) (by unfold need; omega)
          cases hr : inx l W93 (lx l F 0 (a + 2)) with
          | none =>
            have e : lx l (F + 1) 3 a = some (.nm (txtAt l a), a + 1) := by rw [lx, if_pos (Nat.le_refl _), if_neg h1', if_neg h2', if_pos h3, if_pos h4, hr]
            rw [hr] at con
            refine jc_seq ?_; refine jc_region ?_; refine jl_op (ow_alloc rfl rfl (fun bl => ?_)) (nb rfl); refine jl_nil ?_; refine jq_then ?_; refine jc_seq ?_; refine jc_region ?_; refine jl_op (ow_move rfl ?_) (nb rfl)
            refine jl_op (ow_move rfl ?_) (nb rfl); refine jl_op (ow_nilCheck rfl ?_) (nb rfl); refine jl_op (ow_fieldAddr rfl rfl rfl (nb rfl) ?_) (nb rfl); refine jl_op0 (ow_store1 1 rfl rfl rfl rfl (nb rfl) ?_)
            refine jl_nil ?_; refine jq_then ?_; refine jc_seq ?_; refine jc_block ?_; refine jc_seq ?_; refine jc_region ?_; refine jl_op (ow_move rfl ?_) (nb rfl)
            refine jl_op (ow_call1 [0] rfl rfl (numbered_n (by omega) h1) ?_) (nb rfl); refine jl_op (ow_assign rfl ?_) (nb rfl); refine jl_nil ?_; refine jq_then ?_; refine jc_condF rfl rfl ?_; refine jc_seq ?_
            refine jc_region ?_; refine jl_op (ow_move rfl ?_) (nb rfl); refine jl_op (ow_call1 [0] rfl rfl (has_n hl (by omega) h2) ?_) (nb rfl); refine jl_op (ow_assign rfl ?_) (nb rfl); refine jl_nil ?_; refine jq_then ?_
            refine jc_condF rfl rfl ?_; refine jc_seq ?_; refine jc_region ?_; refine jl_op (ow_move rfl ?_) (nb rfl); refine jl_op (ow_call1 [0] rfl rfl (named_y (by omega) h3) ?_) (nb rfl); refine jl_op (ow_not rfl ?_) (nb rfl)
            refine jl_op (ow_assign rfl ?_) (nb rfl); refine jl_nil ?_; refine jq_then ?_; refine jc_condF rfl rfl ?_; refine jc_skip ?_; refine jq_block ?_; refine jq_then ?_; refine jc_seq ?_; refine jc_region ?_
            refine jl_op (ow_move rfl ?_) (nb rfl); refine jl_op (ow_call1 [0] rfl rfl (pname_ok hl (by omega) h3) ?_) (nb rfl); refine jl_op (ow_assign rfl ?_) (nb rfl); refine jl_nil ?_; refine jq_then ?_; refine jc_seq ?_
            refine jc_seq ?_; refine jc_region ?_; refine jl_op (ow_move rfl ?_) (nb rfl); refine jl_op (ow_call1 [0] rfl rfl (has_y hl (by omega) h4) ?_) (nb rfl); refine jl_nil ?_; refine jq_then ?_; refine jc_condT rfl rfl ?_
            refine jc_seq ?_; refine jc_region ?_; refine jl_op (ow_move rfl ?_) (nb rfl); refine jl_op (ow_move rfl ?_) (nb rfl); refine jl_op (ow_add64 rfl rfl (by omega) ?_) (nb rfl)
            refine jl_op (ow_callP [0] rfl rfl (con) (fun pp hpp => ?_)) (nb rfl); refine jl_op (ow_alloc rfl rfl (fun bl => ?_)) (nb rfl); refine jl_op0 (ow_storeAll 0 rfl rfl rfl rfl rfl rfl ?_); refine jl_nil ?_
            refine jq_then ?_; refine jc_seq ?_; refine jc_region ?_; refine jl_op (ow_fieldAddr rfl rfl rfl (nb rfl) ?_) (nb rfl); refine jl_op (ow_load 0 rfl rfl rfl rfl ?_) (nb rfl); refine jl_nil ?_; refine jq_then ?_
            refine jc_condF rfl rfl ?_; refine jc_skip ?_; refine jq_then ?_; refine jc_seq ?_; refine jc_region ?_; refine jl_op (ow_move rfl ?_) (nb rfl); refine jl_op (ow_build rfl rfl rfl rfl rfl ?_) (nb rfl)
            refine jl_op (ow_move rfl ?_) (nb rfl); refine jl_op (ow_add64 rfl rfl (by omega) ?_) (nb rfl); refine jl_op (ow_build rfl rfl rfl rfl rfl ?_) (nb rfl); refine jl_op0 (ow_storeAll 2 rfl rfl rfl rfl rfl rfl ?_)
            refine jl_nil ?_; refine jq_then ?_; refine jc_ret ?_; refine jq_row 0 (PFX (some (.nm (txtAt l a), a + 1))) rfl ?_ ?_
            · (repeat (first | exact RowLe.nil | refine RowLe.cons (CLe.refl _) ?_ | refine RowLe.cons CLe.nil ?_))
            · refine jq_retRowS rfl rfl rfl rfl 0 rfl (fun K h => by rw [e] at h; exact h pp hpp) ?_; refine sub_step 2 rfl ?_; exact sub_end
          | some tb =>
            obtain ⟨t, c⟩ := tb
            have e : lx l (F + 1) 3 a = some (.ix (txtAt l a) t, c) := by rw [lx, if_pos (Nat.le_refl _), if_neg h1', if_neg h2', if_pos h3, if_pos h4, hr]
            rw [hr] at con
            refine jc_seq ?_; refine jc_region ?_; refine jl_op (ow_alloc rfl rfl (fun bl => ?_)) (nb rfl); refine jl_nil ?_; refine jq_then ?_; refine jc_seq ?_; refine jc_region ?_; refine jl_op (ow_move rfl ?_) (nb rfl)
            refine jl_op (ow_move rfl ?_) (nb rfl); refine jl_op (ow_nilCheck rfl ?_) (nb rfl); refine jl_op (ow_fieldAddr rfl rfl rfl (nb rfl) ?_) (nb rfl); refine jl_op0 (ow_store1 1 rfl rfl rfl rfl (nb rfl) ?_)
            refine jl_nil ?_; refine jq_then ?_; refine jc_seq ?_; refine jc_block ?_; refine jc_seq ?_; refine jc_region ?_; refine jl_op (ow_move rfl ?_) (nb rfl)
            refine jl_op (ow_call1 [0] rfl rfl (numbered_n (by omega) h1) ?_) (nb rfl); refine jl_op (ow_assign rfl ?_) (nb rfl); refine jl_nil ?_; refine jq_then ?_; refine jc_condF rfl rfl ?_; refine jc_seq ?_
            refine jc_region ?_; refine jl_op (ow_move rfl ?_) (nb rfl); refine jl_op (ow_call1 [0] rfl rfl (has_n hl (by omega) h2) ?_) (nb rfl); refine jl_op (ow_assign rfl ?_) (nb rfl); refine jl_nil ?_; refine jq_then ?_
            refine jc_condF rfl rfl ?_; refine jc_seq ?_; refine jc_region ?_; refine jl_op (ow_move rfl ?_) (nb rfl); refine jl_op (ow_call1 [0] rfl rfl (named_y (by omega) h3) ?_) (nb rfl); refine jl_op (ow_not rfl ?_) (nb rfl)
            refine jl_op (ow_assign rfl ?_) (nb rfl); refine jl_nil ?_; refine jq_then ?_; refine jc_condF rfl rfl ?_; refine jc_skip ?_; refine jq_block ?_; refine jq_then ?_; refine jc_seq ?_; refine jc_region ?_
            refine jl_op (ow_move rfl ?_) (nb rfl); refine jl_op (ow_call1 [0] rfl rfl (pname_ok hl (by omega) h3) ?_) (nb rfl); refine jl_op (ow_assign rfl ?_) (nb rfl); refine jl_nil ?_; refine jq_then ?_; refine jc_seq ?_
            refine jc_seq ?_; refine jc_region ?_; refine jl_op (ow_move rfl ?_) (nb rfl); refine jl_op (ow_call1 [0] rfl rfl (has_y hl (by omega) h4) ?_) (nb rfl); refine jl_nil ?_; refine jq_then ?_; refine jc_condT rfl rfl ?_
            refine jc_seq ?_; refine jc_region ?_; refine jl_op (ow_move rfl ?_) (nb rfl); refine jl_op (ow_move rfl ?_) (nb rfl); refine jl_op (ow_add64 rfl rfl (by omega) ?_) (nb rfl)
            refine jl_op (ow_callP [0] rfl rfl (con) (fun pp hpp => ?_)) (nb rfl); refine jl_op (ow_alloc rfl rfl (fun bl => ?_)) (nb rfl); refine jl_op0 (ow_storeAll 0 rfl rfl rfl rfl rfl rfl ?_); refine jl_nil ?_
            refine jq_then ?_; refine jc_seq ?_; refine jc_region ?_; refine jl_op (ow_fieldAddr rfl rfl rfl (nb rfl) ?_) (nb rfl); refine jl_op (ow_load 0 rfl rfl rfl rfl ?_) (nb rfl); refine jl_nil ?_; refine jq_then ?_
            refine jc_condT rfl rfl ?_; refine jc_seq ?_; refine jc_region ?_; refine jl_op (ow_move rfl ?_) (nb rfl); refine jl_op (ow_fieldAddr rfl rfl rfl (nb rfl) ?_) (nb rfl)
            refine jl_op (ow_loadN 0 rfl rfl rfl rfl rfl ?_) (nb rfl); refine jl_op (ow_buildSlice rfl rfl (nb rfl) rfl rfl (nb rfl) ?_) (nb rfl); refine jl_op (ow_build rfl rfl rfl rfl rfl ?_) (nb rfl)
            refine jl_op (ow_fieldAddr rfl rfl rfl (nb rfl) ?_) (nb rfl); refine jl_op (ow_load 0 rfl rfl rfl rfl ?_) (nb rfl); refine jl_op (ow_build rfl rfl rfl rfl rfl ?_) (nb rfl)
            refine jl_op0 (ow_storeAll 2 rfl rfl rfl rfl rfl rfl ?_); refine jl_nil ?_; refine jq_then ?_; refine jc_ret ?_; refine jq_then_ret ?_; refine jq_row 0 (PFX (some (.ix (txtAt l a) t, c))) rfl ?_ ?_
            · (repeat (first | exact RowLe.nil | refine RowLe.cons (CLe.refl _) ?_ | refine RowLe.cons CLe.nil ?_))
              refine RowLe.cons (CLe.eq (show C.list [t.row'] = C.list [t.row] by rw [T.row_eq])) ?_
              (repeat (first | exact RowLe.nil | refine RowLe.cons (CLe.refl _) ?_ | refine RowLe.cons CLe.nil ?_))
            · refine jq_retRowS rfl rfl rfl rfl 0 rfl (fun K h => by rw [e] at h; exact h pp hpp) ?_; refine sub_step 2 rfl ?_; exact sub_end
        | false =>
          have h4' : ¬ isA l (a + 1) W91 = true := by rw [h4]; decide
          have e : lx l (F + 1) 3 a = some (.nm (txtAt l a), a + 1) := by rw [lx, if_pos (Nat.le_refl _), if_neg h1', if_neg h2', if_pos h3, if_neg h4']
          refine jc_seq ?_; refine jc_region ?_; refine jl_op (ow_alloc rfl rfl (fun bl => ?_)) (nb rfl); refine jl_nil ?_; refine jq_then ?_; refine jc_seq ?_; refine jc_region ?_; refine jl_op (ow_move rfl ?_) (nb rfl)
          refine jl_op (ow_move rfl ?_) (nb rfl); refine jl_op (ow_nilCheck rfl ?_) (nb rfl); refine jl_op (ow_fieldAddr rfl rfl rfl (nb rfl) ?_) (nb rfl); refine jl_op0 (ow_store1 1 rfl rfl rfl rfl (nb rfl) ?_); refine jl_nil ?_
          refine jq_then ?_; refine jc_seq ?_; refine jc_block ?_; refine jc_seq ?_; refine jc_region ?_; refine jl_op (ow_move rfl ?_) (nb rfl); refine jl_op (ow_call1 [0] rfl rfl (numbered_n (by omega) h1) ?_) (nb rfl)
          refine jl_op (ow_assign rfl ?_) (nb rfl); refine jl_nil ?_; refine jq_then ?_; refine jc_condF rfl rfl ?_; refine jc_seq ?_; refine jc_region ?_; refine jl_op (ow_move rfl ?_) (nb rfl)
          refine jl_op (ow_call1 [0] rfl rfl (has_n hl (by omega) h2) ?_) (nb rfl); refine jl_op (ow_assign rfl ?_) (nb rfl); refine jl_nil ?_; refine jq_then ?_; refine jc_condF rfl rfl ?_; refine jc_seq ?_; refine jc_region ?_
          refine jl_op (ow_move rfl ?_) (nb rfl); refine jl_op (ow_call1 [0] rfl rfl (named_y (by omega) h3) ?_) (nb rfl); refine jl_op (ow_not rfl ?_) (nb rfl); refine jl_op (ow_assign rfl ?_) (nb rfl); refine jl_nil ?_
          refine jq_then ?_; refine jc_condF rfl rfl ?_; refine jc_skip ?_; refine jq_block ?_; refine jq_then ?_; refine jc_seq ?_; refine jc_region ?_; refine jl_op (ow_move rfl ?_) (nb rfl)
          refine jl_op (ow_call1 [0] rfl rfl (pname_ok hl (by omega) h3) ?_) (nb rfl); refine jl_op (ow_assign rfl ?_) (nb rfl); refine jl_nil ?_; refine jq_then ?_; refine jc_seq ?_; refine jc_seq ?_; refine jc_region ?_
          refine jl_op (ow_move rfl ?_) (nb rfl); refine jl_op (ow_call1 [0] rfl rfl (has_n hl (by omega) h4) ?_) (nb rfl); refine jl_nil ?_; refine jq_then ?_; refine jc_condF rfl rfl ?_; refine jc_skip ?_; refine jq_then ?_
          refine jc_seq ?_; refine jc_region ?_; refine jl_op (ow_move rfl ?_) (nb rfl); refine jl_op (ow_build rfl rfl rfl rfl rfl ?_) (nb rfl); refine jl_op (ow_move rfl ?_) (nb rfl)
          refine jl_op (ow_add64 rfl rfl (by omega) ?_) (nb rfl); refine jl_op (ow_build rfl rfl rfl rfl rfl ?_) (nb rfl); refine jl_op0 (ow_storeAll 1 rfl rfl rfl rfl rfl rfl ?_); refine jl_nil ?_; refine jq_then ?_
          refine jc_ret ?_; refine jq_row 0 (PFX (some (.nm (txtAt l a), a + 1))) rfl ?_ ?_
          · (repeat (first | exact RowLe.nil | refine RowLe.cons (CLe.refl _) ?_ | refine RowLe.cons CLe.nil ?_))
          · refine jq_retRowS rfl rfl rfl rfl 0 rfl (fun K h => by rw [e] at h; exact h (a + 1) (by omega)) ?_; refine sub_step 1 rfl ?_; exact sub_end
      | false =>
        have h3' : ¬ isNm l a = true := by rw [h3]; decide
        cases h4 : isA l a W40 with
        | true =>
          have hlt2 := isA_lt h4
          have con := hI b (a + 1) (a + 1) W41 (by omega) (by omega) (by unfold need; omega)
          have e : lx l (F + 1) 3 a = inx l W41 (lx l F 0 (a + 1)) := by rw [lx, if_pos (Nat.le_refl _), if_neg h1', if_neg h2', if_neg h3', if_pos h4]
          rw [← e] at con
          cases hr : lx l (F + 1) 3 a with
          | none =>
            rw [hr] at con
            refine jc_seq ?_; refine jc_region ?_; refine jl_op (ow_alloc rfl rfl (fun bl => ?_)) (nb rfl); refine jl_nil ?_; refine jq_then ?_; refine jc_seq ?_; refine jc_region ?_; refine jl_op (ow_move rfl ?_) (nb rfl)
            refine jl_op (ow_move rfl ?_) (nb rfl); refine jl_op (ow_nilCheck rfl ?_) (nb rfl); refine jl_op (ow_fieldAddr rfl rfl rfl (nb rfl) ?_) (nb rfl); refine jl_op0 (ow_store1 1 rfl rfl rfl rfl (nb rfl) ?_)
            refine jl_nil ?_; refine jq_then ?_; refine jc_seq ?_; refine jc_block ?_; refine jc_seq ?_; refine jc_region ?_; refine jl_op (ow_move rfl ?_) (nb rfl)
            refine jl_op (ow_call1 [0] rfl rfl (numbered_n (by omega) h1) ?_) (nb rfl); refine jl_op (ow_assign rfl ?_) (nb rfl); refine jl_nil ?_; refine jq_then ?_; refine jc_condF rfl rfl ?_; refine jc_seq ?_
            refine jc_region ?_; refine jl_op (ow_move rfl ?_) (nb rfl); refine jl_op (ow_call1 [0] rfl rfl (has_n hl (by omega) h2) ?_) (nb rfl); refine jl_op (ow_assign rfl ?_) (nb rfl); refine jl_nil ?_; refine jq_then ?_
            refine jc_condF rfl rfl ?_; refine jc_seq ?_; refine jc_region ?_; refine jl_op (ow_move rfl ?_) (nb rfl); refine jl_op (ow_call1 [0] rfl rfl (named_n (by omega) h3) ?_) (nb rfl); refine jl_op (ow_not rfl ?_) (nb rfl)
            refine jl_op (ow_assign rfl ?_) (nb rfl); refine jl_nil ?_; refine jq_then ?_; refine jc_condT rfl rfl ?_; refine jc_seq ?_; refine jc_seq ?_; refine jc_region ?_; refine jl_op (ow_move rfl ?_) (nb rfl)
            refine jl_op (ow_call1 [0] rfl rfl (has_y hl (by omega) h4) ?_) (nb rfl); refine jl_op (ow_not rfl ?_) (nb rfl); refine jl_nil ?_; refine jq_then ?_; refine jc_condF rfl rfl ?_; refine jc_skip ?_; refine jq_then ?_
            refine jc_seq ?_; refine jc_region ?_; refine jl_op (ow_move rfl ?_) (nb rfl); refine jl_op (ow_move rfl ?_) (nb rfl); refine jl_op (ow_add64 rfl rfl (by omega) ?_) (nb rfl)
            refine jl_op (ow_callP [0] rfl rfl (con) (fun pp hpp => ?_)) (nb rfl); refine jl_op0 (ow_storeAll 1 rfl rfl rfl rfl rfl rfl ?_); refine jl_nil ?_; refine jq_then ?_; refine jc_ret ?_; refine jq_block_ret ?_
            refine jq_then_ret ?_; refine jq_retRowS rfl rfl rfl rfl 0 rfl (fun K h => h pp hpp) ?_; refine sub_step 1 rfl ?_; exact sub_end
          | some tb =>
            obtain ⟨t, c⟩ := tb
            rw [hr] at con
            refine jc_seq ?_; refine jc_region ?_; refine jl_op (ow_alloc rfl rfl (fun bl => ?_)) (nb rfl); refine jl_nil ?_; refine jq_then ?_; refine jc_seq ?_; refine jc_region ?_; refine jl_op (ow_move rfl ?_) (nb rfl)
            refine jl_op (ow_move rfl ?_) (nb rfl); refine jl_op (ow_nilCheck rfl ?_) (nb rfl); refine jl_op (ow_fieldAddr rfl rfl rfl (nb rfl) ?_) (nb rfl); refine jl_op0 (ow_store1 1 rfl rfl rfl rfl (nb rfl) ?_)
            refine jl_nil ?_; refine jq_then ?_; refine jc_seq ?_; refine jc_block ?_; refine jc_seq ?_; refine jc_region ?_; refine jl_op (ow_move rfl ?_) (nb rfl)
            refine jl_op (ow_call1 [0] rfl rfl (numbered_n (by omega) h1) ?_) (nb rfl); refine jl_op (ow_assign rfl ?_) (nb rfl); refine jl_nil ?_; refine jq_then ?_; refine jc_condF rfl rfl ?_; refine jc_seq ?_
            refine jc_region ?_; refine jl_op (ow_move rfl ?_) (nb rfl); refine jl_op (ow_call1 [0] rfl rfl (has_n hl (by omega) h2) ?_) (nb rfl); refine jl_op (ow_assign rfl ?_) (nb rfl); refine jl_nil ?_; refine jq_then ?_
            refine jc_condF rfl rfl ?_; refine jc_seq ?_; refine jc_region ?_; refine jl_op (ow_move rfl ?_) (nb rfl); refine jl_op (ow_call1 [0] rfl rfl (named_n (by omega) h3) ?_) (nb rfl); refine jl_op (ow_not rfl ?_) (nb rfl)
            refine jl_op (ow_assign rfl ?_) (nb rfl); refine jl_nil ?_; refine jq_then ?_; refine jc_condT rfl rfl ?_; refine jc_seq ?_; refine jc_seq ?_; refine jc_region ?_; refine jl_op (ow_move rfl ?_) (nb rfl)
            refine jl_op (ow_call1 [0] rfl rfl (has_y hl (by omega) h4) ?_) (nb rfl); refine jl_op (ow_not rfl ?_) (nb rfl); refine jl_nil ?_; refine jq_then ?_; refine jc_condF rfl rfl ?_; refine jc_skip ?_; refine jq_then ?_
            refine jc_seq ?_; refine jc_region ?_; refine jl_op (ow_move rfl ?_) (nb rfl); refine jl_op (ow_move rfl ?_) (nb rfl); refine jl_op (ow_add64 rfl rfl (by omega) ?_) (nb rfl)
            refine jl_op (ow_callP [0] rfl rfl (con) (fun pp hpp => ?_)) (nb rfl); refine jl_op0 (ow_storeAll 1 rfl rfl rfl rfl rfl rfl ?_); refine jl_nil ?_; refine jq_then ?_; refine jc_ret ?_; refine jq_block_ret ?_
            refine jq_then_ret ?_; refine jq_retRowS rfl rfl rfl rfl 0 rfl (fun K h => h pp hpp) ?_; refine sub_step 1 rfl ?_; exact sub_end
        | false =>
          have h4' : ¬ isA l a W40 = true := by rw [h4]; decide
          have e : lx l (F + 1) 3 a = none := by rw [lx, if_pos (Nat.le_refl _), if_neg h1', if_neg h2', if_neg h3', if_neg h4']
          refine jc_seq ?_; refine jc_region ?_; refine jl_op (ow_alloc rfl rfl (fun bl => ?_)) (nb rfl); refine jl_nil ?_; refine jq_then ?_; refine jc_seq ?_; refine jc_region ?_; refine jl_op (ow_move rfl ?_) (nb rfl)
          refine jl_op (ow_move rfl ?_) (nb rfl); refine jl_op (ow_nilCheck rfl ?_) (nb rfl); refine jl_op (ow_fieldAddr rfl rfl rfl (nb rfl) ?_) (nb rfl); refine jl_op0 (ow_store1 1 rfl rfl rfl rfl (nb rfl) ?_); refine jl_nil ?_
          refine jq_then ?_; refine jc_seq ?_; refine jc_block ?_; refine jc_seq ?_; refine jc_region ?_; refine jl_op (ow_move rfl ?_) (nb rfl); refine jl_op (ow_call1 [0] rfl rfl (numbered_n (by omega) h1) ?_) (nb rfl)
          refine jl_op (ow_assign rfl ?_) (nb rfl); refine jl_nil ?_; refine jq_then ?_; refine jc_condF rfl rfl ?_; refine jc_seq ?_; refine jc_region ?_; refine jl_op (ow_move rfl ?_) (nb rfl)
          refine jl_op (ow_call1 [0] rfl rfl (has_n hl (by omega) h2) ?_) (nb rfl); refine jl_op (ow_assign rfl ?_) (nb rfl); refine jl_nil ?_; refine jq_then ?_; refine jc_condF rfl rfl ?_; refine jc_seq ?_; refine jc_region ?_
          refine jl_op (ow_move rfl ?_) (nb rfl); refine jl_op (ow_call1 [0] rfl rfl (named_n (by omega) h3) ?_) (nb rfl); refine jl_op (ow_not rfl ?_) (nb rfl); refine jl_op (ow_assign rfl ?_) (nb rfl); refine jl_nil ?_
          refine jq_then ?_; refine jc_condT rfl rfl ?_; refine jc_seq ?_; refine jc_seq ?_; refine jc_region ?_; refine jl_op (ow_move rfl ?_) (nb rfl); refine jl_op (ow_call1 [0] rfl rfl (has_n hl (by omega) h4) ?_) (nb rfl)
          refine jl_op (ow_not rfl ?_) (nb rfl); refine jl_nil ?_; refine jq_then ?_; refine jc_condT rfl rfl ?_; refine jc_seq ?_; refine jc_region ?_; refine jl_op (ow_build rfl rfl rfl rfl rfl ?_) (nb rfl)
          refine jl_op0 (ow_storeAll 1 rfl rfl rfl rfl rfl rfl ?_); refine jl_nil ?_; refine jq_then ?_; refine jc_ret ?_; refine jq_then_ret ?_; refine jq_block_ret ?_; refine jq_then_ret ?_
          refine jq_retRowS rfl rfl rfl rfl 0 rfl (fun K h => by rw [e] at h; exact h a (by omega)) ?_; refine sub_step 1 rfl ?_; exact sub_end
theorem longest_step (F : Nat) (hG : LgP l F) : LtP l (F + 1) := by
  intro b a p ha hp hF
  unfold need at hF
  have con := hG b 0 a p (by omega) ha hp (by unfold need; omega)
  refine con_intro Tryd.func27 rfl rfl (Nat.le_of_ble_eq_true rfl) (fun c hc => ?_)
  cases hr : lx l F 1 a with
  | none =>
    have e : lx l (F + 1) 0 a = none := by rw [lx, if_neg (by omega), hr]
    rw [show 0 + 1 = 1 from rfl, hr] at con
    refine jc_seq ?_; refine jc_region ?_; refine jl_op (ow_alloc rfl rfl (fun bl => ?_)) (nb rfl); refine jl_nil ?_; refine jq_then ?_; refine jc_seq ?_; refine jc_region ?_; refine jl_op (ow_move rfl ?_) (nb rfl)
    refine jl_op (ow_move rfl ?_) (nb rfl); refine jl_op (ow_callP [1] rfl rfl (con) (fun pp hpp => ?_)) (nb rfl); refine jl_op (ow_alloc rfl rfl (fun bl => ?_)) (nb rfl); refine jl_op0 (ow_storeAll 0 rfl rfl rfl rfl rfl rfl ?_)
    refine jl_nil ?_; refine jq_then ?_; refine jc_seq ?_; refine jc_seq ?_; refine jc_region ?_; refine jl_op (ow_fieldAddr rfl rfl rfl (nb rfl) ?_) (nb rfl); refine jl_op (ow_load 0 rfl rfl rfl rfl ?_) (nb rfl)
    refine jl_op (ow_not rfl ?_) (nb rfl); refine jl_nil ?_; refine jq_then ?_; refine jc_condT rfl rfl ?_; refine jc_seq ?_; refine jc_region ?_; refine jl_op (ow_loadAll 0 rfl rfl rfl rfl ?_) (nb rfl)
    refine jl_op0 (ow_storeAll 2 rfl rfl rfl rfl rfl rfl ?_); refine jl_nil ?_; refine jq_then ?_; refine jc_ret ?_; refine jq_then_ret ?_; refine jq_retRowS rfl rfl rfl rfl 0 rfl (fun K h => by rw [e] at h; exact h pp hpp) ?_
    refine sub_step 2 rfl ?_; exact sub_end
  | some tb =>
    obtain ⟨t, c⟩ := tb
    have hc := lx_bd _ _ _ _ _ hr
    rw [show 0 + 1 = 1 from rfl, hr] at con
    cases ho : opAt l cmpL c with
    | none =>
      have e : lx l (F + 1) 0 a = some (t, c) := by rw [lx, if_neg (by omega), hr]; show some (lpx l cmpL (lx l F 1) 1 t c) = _; rw [lpx_none ho]
      refine jc_seq ?_; refine jc_region ?_; refine jl_op (ow_alloc rfl rfl (fun bl => ?_)) (nb rfl); refine jl_nil ?_; refine jq_then ?_; refine jc_seq ?_; refine jc_region ?_; refine jl_op (ow_move rfl ?_) (nb rfl)
      refine jl_op (ow_move rfl ?_) (nb rfl); refine jl_op (ow_callP [1] rfl rfl (con) (fun pp hpp => ?_)) (nb rfl); refine jl_op (ow_alloc rfl rfl (fun bl => ?_)) (nb rfl); refine jl_op0 (ow_storeAll 0 rfl rfl rfl rfl rfl rfl ?_)
      refine jl_nil ?_; refine jq_then ?_; refine jc_seq ?_; refine jc_seq ?_; refine jc_region ?_; refine jl_op (ow_fieldAddr rfl rfl rfl (nb rfl) ?_) (nb rfl); refine jl_op (ow_load 0 rfl rfl rfl rfl ?_) (nb rfl)
      refine jl_op (ow_not rfl ?_) (nb rfl); refine jl_nil ?_; refine jq_then ?_; refine jc_condF rfl rfl ?_; refine jc_skip ?_; refine jq_then ?_; refine jc_seq ?_; refine jc_region ?_; refine jl_op (ow_move rfl ?_) (nb rfl)
      refine jl_op (ow_fieldAddr rfl rfl rfl (nb rfl) ?_) (nb rfl); refine jl_op (ow_load 0 rfl rfl rfl rfl ?_) (nb rfl); refine jl_op (ow_nilCheck rfl ?_) (nb rfl); refine jl_op (ow_fieldAddr rfl rfl rfl (nb rfl) ?_) (nb rfl)
      refine jl_op0 (ow_store1 1 rfl rfl rfl rfl (nb rfl) ?_); refine jl_nil ?_; refine jq_then ?_; refine jc_seq ?_; refine jc_seq ?_; refine jc_region ?_; refine jl_op (ow_move rfl ?_) (nb rfl)
      refine jl_op (ow_loadG gl_cmps rfl rfl rfl ?_) (nb rfl); refine jl_op (ow_callP [] rfl rfl (one_c b cmpL) (fun pp hpp => ?_)) (nb rfl)
      refine jl_op (ow_callv (cs := [Ptr _, Ptr _]) [0, 0, 0] rfl rfl (fun _ _ => ⟨_, _, rfl, ⟨rfl, rfl⟩, _, _, rfl, ⟨rfl, rfl⟩, rfl⟩) rfl (op1_none hl (by omega) ho _ _) ?_) (nb rfl); refine jl_op (ow_assign rfl ?_) (nb rfl)
      refine jl_nil ?_; refine jq_then ?_; refine jc_seq ?_; refine jc_region ?_; refine jl_op (ow_move rfl ?_) (nb rfl); refine jl_op (ow_neq rfl rfl ?_) (nb rfl); refine jl_nil ?_; refine jq_then ?_; refine jc_condF rfl rfl ?_
      refine jc_skip ?_; refine jq_then ?_; refine jc_seq ?_; refine jc_region ?_; refine jl_op (ow_loadAll 3 rfl rfl rfl rfl ?_) (nb rfl); refine jl_op0 (ow_storeAll 4 rfl rfl rfl rfl rfl rfl ?_); refine jl_nil ?_
      refine jq_then ?_; refine jc_ret ?_; refine jq_retRowS rfl rfl rfl rfl 0 rfl (fun K h => by rw [e] at h; exact h c (by omega)) ?_; refine sub_step 3 rfl ?_; exact sub_end
    | some o =>
      have ho0 : ¬ o = 0 := opAt_pos (k := 0) ho
      have hlt := opAt_lt ho
      have con2 := hG b 0 (c + 1) (c + 1) (by omega) (by omega) (by omega) (by unfold need; omega)
      cases hr2 : lx l F 1 (c + 1) with
      | none =>
        have e : lx l (F + 1) 0 a = some (t, c) := by rw [lx, if_neg (by omega), hr]; show some (lpx l cmpL (lx l F 1) 1 t c) = _; rw [lpx_stop hr2]
        rw [show 0 + 1 = 1 from rfl, hr2] at con2
        refine jc_seq ?_; refine jc_region ?_; refine jl_op (ow_alloc rfl rfl (fun bl => ?_)) (nb rfl); refine jl_nil ?_; refine jq_then ?_; refine jc_seq ?_; refine jc_region ?_; refine jl_op (ow_move rfl ?_) (nb rfl)
        refine jl_op (ow_move rfl ?_) (nb rfl); refine jl_op (ow_callP [1] rfl rfl (con) (fun pp hpp => ?_)) (nb rfl); refine jl_op (ow_alloc rfl rfl (fun bl => ?_)) (nb rfl)
        refine jl_op0 (ow_storeAll 0 rfl rfl rfl rfl rfl rfl ?_); refine jl_nil ?_; refine jq_then ?_; refine jc_seq ?_; refine jc_seq ?_; refine jc_region ?_; refine jl_op (ow_fieldAddr rfl rfl rfl (nb rfl) ?_) (nb rfl)
        refine jl_op (ow_load 0 rfl rfl rfl rfl ?_) (nb rfl); refine jl_op (ow_not rfl ?_) (nb rfl); refine jl_nil ?_; refine jq_then ?_; refine jc_condF rfl rfl ?_; refine jc_skip ?_; refine jq_then ?_; refine jc_seq ?_
        refine jc_region ?_; refine jl_op (ow_move rfl ?_) (nb rfl); refine jl_op (ow_fieldAddr rfl rfl rfl (nb rfl) ?_) (nb rfl); refine jl_op (ow_load 0 rfl rfl rfl rfl ?_) (nb rfl); refine jl_op (ow_nilCheck rfl ?_) (nb rfl)
        refine jl_op (ow_fieldAddr rfl rfl rfl (nb rfl) ?_) (nb rfl); refine jl_op0 (ow_store1 1 rfl rfl rfl rfl (nb rfl) ?_); refine jl_nil ?_; refine jq_then ?_; refine jc_seq ?_; refine jc_seq ?_; refine jc_region ?_
        refine jl_op (ow_move rfl ?_) (nb rfl); refine jl_op (ow_loadG gl_cmps rfl rfl rfl ?_) (nb rfl); refine jl_op (ow_callP [] rfl rfl (one_c b cmpL) (fun pp hpp => ?_)) (nb rfl)
        refine jl_op (ow_callv (cs := [Ptr _, Ptr _]) [0, 0, 0] rfl rfl (fun _ _ => ⟨_, _, rfl, ⟨rfl, rfl⟩, _, _, rfl, ⟨rfl, rfl⟩, rfl⟩) rfl (op1_some hl (by omega) ho _ _) ?_) (nb rfl); refine jl_op (ow_assign rfl ?_) (nb rfl)
        refine jl_nil ?_; refine jq_then ?_; refine jc_seq ?_; refine jc_region ?_; refine jl_op (ow_move rfl ?_) (nb rfl); refine jl_op (ow_neq rfl rfl ?_) (nb rfl); refine jl_nil ?_; refine jq_then ?_
        refine jc_condT rfl (decide_eq_true (by assumption)) ?_; refine jc_seq ?_; refine jc_region ?_; refine jl_op (ow_move rfl ?_) (nb rfl); refine jl_op (ow_move rfl ?_) (nb rfl); refine jl_op (ow_nilCheck rfl ?_) (nb rfl)
        refine jl_op (ow_fieldAddr rfl rfl rfl (nb rfl) ?_) (nb rfl); refine jl_op (ow_load 2 rfl rfl rfl rfl ?_) (nb rfl); refine jl_op (ow_callP [2] rfl rfl (con2) (fun pp hpp => ?_)) (nb rfl)
        refine jl_op (ow_alloc rfl rfl (fun bl => ?_)) (nb rfl); refine jl_op0 (ow_storeAll 0 rfl rfl rfl rfl rfl rfl ?_); refine jl_nil ?_; refine jq_then ?_; refine jc_seq ?_; refine jc_region ?_
        refine jl_op (ow_fieldAddr rfl rfl rfl (nb rfl) ?_) (nb rfl); refine jl_op (ow_load 0 rfl rfl rfl rfl ?_) (nb rfl); refine jl_nil ?_; refine jq_then ?_; refine jc_condF rfl rfl ?_; refine jc_skip ?_; refine jq_then ?_
        refine jc_seq ?_; refine jc_region ?_; refine jl_op (ow_loadAll 4 rfl rfl rfl rfl ?_) (nb rfl); refine jl_op0 (ow_storeAll 5 rfl rfl rfl rfl rfl rfl ?_); refine jl_nil ?_; refine jq_then ?_; refine jc_ret ?_
        refine jq_retRowS rfl rfl rfl rfl 0 rfl (fun K h => by rw [e] at h; exact h pp hpp) ?_; refine sub_step 2 rfl ?_; exact sub_end
      | some tb =>
        obtain ⟨u, d⟩ := tb
        have hc2 := lx_bd _ _ _ _ _ hr2
        have e : lx l (F + 1) 0 a = some (.bn o t u, d) := by rw [lx, if_neg (by omega), hr]; show some (lpx l cmpL (lx l F 1) 1 t c) = _; rw [lpx_go ho hr2, lpx]
        rw [show 0 + 1 = 1 from rfl, hr2] at con2
        refine jc_seq ?_; refine jc_region ?_; refine jl_op (ow_alloc rfl rfl (fun bl => ?_)) (nb rfl); refine jl_nil ?_; refine jq_then ?_; refine jc_seq ?_; refine jc_region ?_; refine jl_op (ow_move rfl ?_) (nb rfl)
        refine jl_op (ow_move rfl ?_) (nb rfl); refine jl_op (ow_callP [1] rfl rfl (con) (fun pp hpp => ?_)) (nb rfl); refine jl_op (ow_alloc rfl rfl (fun bl => ?_)) (nb rfl)
        refine jl_op0 (ow_storeAll 0 rfl rfl rfl rfl rfl rfl ?_); refine jl_nil ?_; refine jq_then ?_; refine jc_seq ?_; refine jc_seq ?_; refine jc_region ?_; refine jl_op (ow_fieldAddr rfl rfl rfl (nb rfl) ?_) (nb rfl)
        refine jl_op (ow_load 0 rfl rfl rfl rfl ?_) (nb rfl); refine jl_op (ow_not rfl ?_) (nb rfl); refine jl_nil ?_; refine jq_then ?_; refine jc_condF rfl rfl ?_; refine jc_skip ?_; refine jq_then ?_; refine jc_seq ?_
        refine jc_region ?_; refine jl_op (ow_move rfl ?_) (nb rfl); refine jl_op (ow_fieldAddr rfl rfl rfl (nb rfl) ?_) (nb rfl); refine jl_op (ow_load 0 rfl rfl rfl rfl ?_) (nb rfl); refine jl_op (ow_nilCheck rfl ?_) (nb rfl)
        refine jl_op (ow_fieldAddr rfl rfl rfl (nb rfl) ?_) (nb rfl); refine jl_op0 (ow_store1 1 rfl rfl rfl rfl (nb rfl) ?_); refine jl_nil ?_; refine jq_then ?_; refine jc_seq ?_; refine jc_seq ?_; refine jc_region ?_
        refine jl_op (ow_move rfl ?_) (nb rfl); refine jl_op (ow_loadG gl_cmps rfl rfl rfl ?_) (nb rfl); refine jl_op (ow_callP [] rfl rfl (one_c b cmpL) (fun pp hpp => ?_)) (nb rfl)
        refine jl_op (ow_callv (cs := [Ptr _, Ptr _]) [0, 0, 0] rfl rfl (fun _ _ => ⟨_, _, rfl, ⟨rfl, rfl⟩, _, _, rfl, ⟨rfl, rfl⟩, rfl⟩) rfl (op1_some hl (by omega) ho _ _) ?_) (nb rfl); refine jl_op (ow_assign rfl ?_) (nb rfl)
        refine jl_nil ?_; refine jq_then ?_; refine jc_seq ?_; refine jc_region ?_; refine jl_op (ow_move rfl ?_) (nb rfl); refine jl_op (ow_neq rfl rfl ?_) (nb rfl); refine jl_nil ?_; refine jq_then ?_
        refine jc_condT rfl (decide_eq_true (by assumption)) ?_; refine jc_seq ?_; refine jc_region ?_; refine jl_op (ow_move rfl ?_) (nb rfl); refine jl_op (ow_move rfl ?_) (nb rfl); refine jl_op (ow_nilCheck rfl ?_) (nb rfl)
        refine jl_op (ow_fieldAddr rfl rfl rfl (nb rfl) ?_) (nb rfl); refine jl_op (ow_load 2 rfl rfl rfl rfl ?_) (nb rfl); refine jl_op (ow_callP [2] rfl rfl (con2) (fun pp hpp => ?_)) (nb rfl)
        refine jl_op (ow_alloc rfl rfl (fun bl => ?_)) (nb rfl); refine jl_op0 (ow_storeAll 0 rfl rfl rfl rfl rfl rfl ?_); refine jl_nil ?_; refine jq_then ?_; refine jc_seq ?_; refine jc_region ?_
        refine jl_op (ow_fieldAddr rfl rfl rfl (nb rfl) ?_) (nb rfl); refine jl_op (ow_load 0 rfl rfl rfl rfl ?_) (nb rfl); refine jl_nil ?_; refine jq_then ?_; refine jc_condT rfl rfl ?_; refine jc_seq ?_
        refine jc_anyB 9 none rfl (by kernel_rfl) (by kernel_rfl) ?_; refine any_op (fun c => ow_move rfl ⟨rfl, List.Perm.refl _⟩) ?_; refine any_op (fun c => ow_fieldAddr rfl rfl rfl (nb rfl) ⟨rfl, List.Perm.refl _⟩) ?_
        refine any_op (fun c => ow_loadN 4 rfl rfl rfl rfl rfl ⟨rfl, List.Perm.refl _⟩) ?_; refine any_op (fun c => ow_fieldAddr rfl rfl rfl (nb rfl) ⟨rfl, List.Perm.refl _⟩) ?_
        refine any_op (fun c => ow_loadN 0 rfl rfl rfl rfl rfl ⟨rfl, List.Perm.refl _⟩) ?_; refine any_op (fun c => ow_call0 rfl (binary_c o t u) ⟨rfl, List.Perm.refl _⟩) ?_
        refine any_op (fun c => ow_fieldAddr rfl rfl rfl (nb rfl) ⟨rfl, List.Perm.refl _⟩) ?_; refine any_op (fun c => ow_load 0 rfl rfl rfl rfl ⟨rfl, List.Perm.refl _⟩) ?_
        refine any_op (fun c => ow_build rfl rfl rfl rfl rfl ⟨rfl, List.Perm.refl _⟩) ?_; refine any_nil ?_; refine afin_none ?_; refine jl_op0 (ow_storeAll 5 rfl rfl rfl rfl rfl rfl ?_); refine jl_nil ?_; refine jq_then ?_
        refine jc_ret ?_; refine jq_then_ret ?_; refine jq_retRowS rfl rfl rfl rfl 0 rfl (fun K h => by rw [e] at h; exact h pp hpp) ?_; refine sub_step 2 rfl ?_; exact sub_end
omit hl in
theorem longer_top (F : Nat) (hS : ShP l F) (b a p : Nat) (ha : a ≤ l.length) (hp : p ≤ l.length) (hF : need l 3 a ≤ F) : Con Tryd.prog 47 [Ptr b, In .i64 (a : Int), In .i64 ((2 : Nat) : Int)] [Pz b l p] (fun K => ∀ q : Nat, q ≤ l.length → K (.row (PFX (lx l F 3 a))) [Pz b l q]) := by
  have con := hS b a p ha hp hF
  refine con_intro Tryd.func47 rfl rfl (Nat.le_of_ble_eq_true rfl) (fun c hc => ?_)
  cases hr : lx l F 3 a with
  | none =>
    rw [hr] at con
    refine jc_seq ?_; refine jc_region ?_; refine jl_op (ow_alloc rfl rfl (fun bl => ?_)) (nb rfl); refine jl_nil ?_; refine jq_then ?_; refine jc_seq ?_; refine jc_seq ?_; refine jc_region ?_
    refine jl_op (ow_move rfl ?_) (nb rfl); refine jl_op (ow_eql rfl rfl ?_) (nb rfl); refine jl_nil ?_; refine jq_then ?_; refine jc_condT rfl (decide_eq_true rfl) ?_; refine jc_seq ?_; refine jc_region ?_
    refine jl_op (ow_move rfl ?_) (nb rfl); refine jl_op (ow_move rfl ?_) (nb rfl); refine jl_op (ow_callP [1] rfl rfl (con) (fun pp hpp => ?_)) (nb rfl); refine jl_op0 (ow_storeAll 1 rfl rfl rfl rfl rfl rfl ?_); refine jl_nil ?_
    refine jq_then ?_; refine jc_ret ?_; refine jq_then_ret ?_; refine jq_retRowS rfl rfl rfl rfl 0 rfl (fun K h => h pp hpp) ?_; refine sub_step 1 rfl ?_; exact sub_end
  | some tb =>
    obtain ⟨t, c⟩ := tb
    rw [hr] at con
    refine jc_seq ?_; refine jc_region ?_; refine jl_op (ow_alloc rfl rfl (fun bl => ?_)) (nb rfl); refine jl_nil ?_; refine jq_then ?_; refine jc_seq ?_; refine jc_seq ?_; refine jc_region ?_
    refine jl_op (ow_move rfl ?_) (nb rfl); refine jl_op (ow_eql rfl rfl ?_) (nb rfl); refine jl_nil ?_; refine jq_then ?_; refine jc_condT rfl (decide_eq_true rfl) ?_; refine jc_seq ?_; refine jc_region ?_
    refine jl_op (ow_move rfl ?_) (nb rfl); refine jl_op (ow_move rfl ?_) (nb rfl); refine jl_op (ow_callP [1] rfl rfl (con) (fun pp hpp => ?_)) (nb rfl); refine jl_op0 (ow_storeAll 1 rfl rfl rfl rfl rfl rfl ?_); refine jl_nil ?_
    refine jq_then ?_; refine jc_ret ?_; refine jq_then_ret ?_; refine jq_retRowS rfl rfl rfl rfl 0 rfl (fun K h => h pp hpp) ?_; refine sub_step 1 rfl ?_; exact sub_end
theorem longer_step (F k b a p : Nat) (hk : k ≤ 1) (hG : ∀ a p, a ≤ l.length → p ≤ l.length → need l (k + 2) a ≤ F → Con Tryd.prog 47 [Ptr b, In .i64 (a : Int), In .i64 ((k + 1 : Nat) : Int)] [Pz b l p] (fun K => ∀ q : Nat, q ≤ l.length → K (.row (PFX (lx l F (k + 2) a))) [Pz b l q]))
    (ha : a ≤ l.length) (hp : p ≤ l.length) (hF : need l (k + 1) a ≤ F + 1) : Con Tryd.prog 47 [Ptr b, In .i64 (a : Int), In .i64 (k : Int)] [Pz b l p] (fun K => ∀ q : Nat, q ≤ l.length → K (.row (PFX (lx l (F + 1) (k + 1) a))) [Pz b l q]) := by
  unfold need at hF
  have con := hG a p ha hp (by unfold need; omega)
  have hk2 : ¬ (k : Int) = 2 := by omega
  refine con_intro Tryd.func47 rfl rfl (Nat.le_of_ble_eq_true rfl) (fun c hc => ?_)
  cases hr : lx l F (k + 2) a with
  | none =>
    have e : lx l (F + 1) (k + 1) a = none := by rw [lx, if_neg (by omega), hr]
    rw [hr] at con
    refine jc_seq ?_; refine jc_region ?_; refine jl_op (ow_alloc rfl rfl (fun bl => ?_)) (nb rfl); refine jl_nil ?_; refine jq_then ?_; refine jc_seq ?_; refine jc_seq ?_; refine jc_region ?_
    refine jl_op (ow_move rfl ?_) (nb rfl); refine jl_op (ow_eql rfl rfl ?_) (nb rfl); refine jl_nil ?_; refine jq_then ?_; refine jc_condF rfl (decide_eq_false (by assumption)) ?_; refine jc_skip ?_; refine jq_then ?_
    refine jc_seq ?_; refine jc_region ?_; refine jl_op (ow_move rfl ?_) (nb rfl); refine jl_op (ow_move rfl ?_) (nb rfl); refine jl_op (ow_move rfl ?_) (nb rfl); refine jl_op (ow_add64 rfl rfl (by omega) ?_) (nb rfl)
    refine jl_op (ow_callP [1] rfl rfl (con) (fun pp hpp => ?_)) (nb rfl); refine jl_op (ow_alloc rfl rfl (fun bl => ?_)) (nb rfl); refine jl_op0 (ow_storeAll 0 rfl rfl rfl rfl rfl rfl ?_); refine jl_nil ?_; refine jq_then ?_
    refine jc_seq ?_; refine jc_block ?_
    rename_i bR
    refine jc_loopS (ι := Unit) [] (fun _ => True) (fun _ => [(0, Ptr b), (2, In .i64 (k : Int)), (6, Ptr bR), (7, Ptr bl)]) (fun _ => [.blk bR 69 (PFX none), .blk bl 69 (PFX none), Pz b l pp]) (fun _ => 0) () trivial ?_ ?_ ?_
    · refine sub_step 2 rfl ?_; refine sub_step 0 rfl ?_; refine sub_step 0 rfl ?_; exact sub_end
    · (repeat (first | exact True.intro | refine ⟨rfl, ?_⟩))
    · intro _ _
      refine jc_reset [(0, Ptr b), (2, In .i64 (k : Int)), (6, Ptr bR), (7, Ptr bl)] [.blk bR 69 (PFX none), .blk bl 69 (PFX none), Pz b l pp] ?_ ⟨[0, 0, 0], [], rfl⟩ ?_
      · (repeat (first | exact True.intro | refine ⟨rfl, ?_⟩))
      refine jc_seq ?_; refine jc_seq ?_; refine jc_region ?_; refine jl_op (ow_fieldAddr rfl rfl rfl (nb rfl) ?_) (nb rfl); refine jl_op (ow_load 1 rfl rfl rfl rfl ?_) (nb rfl); refine jl_nil ?_; refine jq_then ?_
      refine jc_condF rfl rfl ?_; refine jc_exit ?_; refine jq_then_exit ?_; refine jq_then_exit ?_; refine jq_block_exit ?_; refine jq_then ?_; refine jc_seq ?_; refine jc_region ?_
      refine jl_op (ow_loadAll 1 rfl rfl rfl rfl ?_) (nb rfl); refine jl_op0 (ow_storeAll 0 rfl rfl rfl rfl rfl rfl ?_); refine jl_nil ?_; refine jq_then ?_; refine jc_ret ?_
      refine jq_retRowS rfl rfl rfl rfl 0 rfl (fun K h => by rw [e] at h; exact h pp hpp) ?_; refine sub_step 2 rfl ?_; exact sub_end
  | some tb =>
    obtain ⟨t0, c0⟩ := tb
    have hc0 := lx_bd _ _ _ _ _ hr
    have e : lx l (F + 1) (k + 1) a = some (lpx l (opsL (k + 1)) (lx l F (k + 2)) F t0 c0) := by rw [lx, if_neg (by omega), hr, if_neg (Nat.succ_ne_zero k)]
    rw [hr] at con
    refine jc_seq ?_; refine jc_region ?_; refine jl_op (ow_alloc rfl rfl (fun bl => ?_)) (nb rfl); refine jl_nil ?_; refine jq_then ?_; refine jc_seq ?_; refine jc_seq ?_; refine jc_region ?_
    refine jl_op (ow_move rfl ?_) (nb rfl); refine jl_op (ow_eql rfl rfl ?_) (nb rfl); refine jl_nil ?_; refine jq_then ?_; refine jc_condF rfl (decide_eq_false (by assumption)) ?_; refine jc_skip ?_; refine jq_then ?_
    refine jc_seq ?_; refine jc_region ?_; refine jl_op (ow_move rfl ?_) (nb rfl); refine jl_op (ow_move rfl ?_) (nb rfl); refine jl_op (ow_move rfl ?_) (nb rfl); refine jl_op (ow_add64 rfl rfl (by omega) ?_) (nb rfl)
    refine jl_op (ow_callP [1] rfl rfl (con) (fun pp hpp => ?_)) (nb rfl); refine jl_op (ow_alloc rfl rfl (fun bl => ?_)) (nb rfl); refine jl_op0 (ow_storeAll 0 rfl rfl rfl rfl rfl rfl ?_); refine jl_nil ?_; refine jq_then ?_
    refine jc_seq ?_; refine jc_block ?_
    rename_i bR
    refine jc_loopS (ι := T × Nat × Nat × Nat) [] (fun i => (a ≤ i.2.1 ∧ i.2.1 ≤ l.length) ∧ l.length - i.2.1 ≤ i.2.2.1 ∧ i.2.2.2 ≤ l.length ∧ lpx l (opsL (k + 1)) (lx l F (k + 2)) F t0 c0 = lpx l (opsL (k + 1)) (lx l F (k + 2)) i.2.2.1 i.1 i.2.1)
      (fun _ => [(0, Ptr b), (2, In .i64 (k : Int)), (6, Ptr bR), (7, Ptr bl)]) (fun i => [.blk bR 69 (PFX none), .blk bl 69 (PFX (some (i.1, i.2.1))), Pz b l i.2.2.2]) (fun i => l.length - i.2.1) (t0, c0, F, pp) ⟨⟨by dsimp only; omega, hc0.2⟩, by dsimp only; omega, hpp, rfl⟩ ?_ ?_ ?_
    · refine sub_step 2 rfl ?_; refine sub_step 0 rfl ?_; refine sub_step 0 rfl ?_; exact sub_end
    · (repeat (first | exact True.intro | refine ⟨rfl, ?_⟩))
    · rintro ⟨t, c, n, q⟩ ⟨⟨hac, hcl⟩, hn, hq, hi⟩
      dsimp only at hac hcl hn hq hi ⊢
      clear hpp
      refine jc_reset [(0, Ptr b), (2, In .i64 (k : Int)), (6, Ptr bR), (7, Ptr bl)] [.blk bR 69 (PFX none), .blk bl 69 (PFX (some (t, c))), Pz b l q] ?_ ⟨[0, 0, 0], [], rfl⟩ ?_
      · (repeat (first | exact True.intro | refine ⟨rfl, ?_⟩))
      refine jc_seq ?_; refine jc_seq ?_; refine jc_region ?_; refine jl_op (ow_fieldAddr rfl rfl rfl (nb rfl) ?_) (nb rfl); refine jl_op (ow_load 1 rfl rfl rfl rfl ?_) (nb rfl); refine jl_nil ?_; refine jq_then ?_
      refine jc_condT rfl rfl ?_; refine jc_skip ?_; refine jq_then ?_; refine jc_block ?_; refine jc_seq ?_; refine jc_region ?_; refine jl_op (ow_move rfl ?_) (nb rfl)
      refine jl_op (ow_fieldAddr rfl rfl rfl (nb rfl) ?_) (nb rfl); refine jl_op (ow_load 1 rfl rfl rfl rfl ?_) (nb rfl); refine jl_op (ow_nilCheck rfl ?_) (nb rfl); refine jl_op (ow_fieldAddr rfl rfl rfl (nb rfl) ?_) (nb rfl)
      refine jl_op0 (ow_store1 2 rfl rfl rfl rfl (nb rfl) ?_); refine jl_nil ?_; refine jq_then ?_; refine jc_seq ?_; refine jc_region ?_; refine jl_op (ow_move rfl ?_) (nb rfl); refine jl_op (ow_move rfl ?_) (nb rfl)
      refine jl_op (ow_indexArr (n := 2) (e := 36) rfl rfl rfl (by omega) (by omega) ?_) (nb rfl)
      refine jl_op (ow_loadG (e := .list ((opsL (k + 1)).map Wrow)) gl_lines rfl rfl (by rcases (show k = 0 ∨ k = 1 by omega) with rfl | rfl <;> rfl) ?_) (nb rfl)
      cases ho : opAt l (opsL (k + 1)) c with
      | none =>
        rw [lpx_none ho] at hi
        refine jl_op (ow_callP [] rfl rfl (one_c b (opsL (k + 1))) (fun pp hpp => ?_)) (nb rfl)
        refine jl_op (ow_callv (cs := [Ptr _, Ptr _]) [0, 0, 0] rfl rfl (fun _ _ => ⟨_, _, rfl, ⟨rfl, rfl⟩, _, _, rfl, ⟨rfl, rfl⟩, rfl⟩) rfl (op1_none hl (by omega) ho _ _) ?_) (nb rfl); refine jl_op (ow_assign rfl ?_) (nb rfl)
        refine jl_nil ?_; refine jq_then ?_; refine jc_seq ?_; refine jc_seq ?_; refine jc_region ?_; refine jl_op (ow_move rfl ?_) (nb rfl); refine jl_op (ow_eql rfl rfl ?_) (nb rfl); refine jl_nil ?_; refine jq_then ?_
        refine jc_condT rfl (decide_eq_true rfl) ?_; refine jc_exit ?_; refine jq_then_exit ?_; refine jq_block_other rfl ?_; refine jq_then_exit ?_; refine jq_block_exit ?_; refine jq_then ?_; refine jc_seq ?_
        refine jc_region ?_; refine jl_op (ow_loadAll 4 rfl rfl rfl rfl ?_) (nb rfl); refine jl_op0 (ow_storeAll 3 rfl rfl rfl rfl rfl rfl ?_); refine jl_nil ?_; refine jq_then ?_; refine jc_ret ?_
        refine jq_retRowS rfl rfl rfl rfl 0 rfl (fun K h => by rw [e, hi] at h; exact h c hcl) ?_; refine sub_step 3 rfl ?_; exact sub_end
      | some o =>
        have ho0 : ¬ o = 0 := opAt_pos ho
        have hlt := opAt_lt ho
        have con2 := hG (c + 1) (c + 1) (by omega) (by omega) (by unfold need; omega)
        cases hr2 : lx l F (k + 2) (c + 1) with
        | none =>
          rw [lpx_stop hr2] at hi
          rw [hr2] at con2
          refine jl_op (ow_callP [] rfl rfl (one_c b (opsL (k + 1))) (fun pp hpp => ?_)) (nb rfl)
          refine jl_op (ow_callv (cs := [Ptr _, Ptr _]) [0, 0, 0] rfl rfl (fun _ _ => ⟨_, _, rfl, ⟨rfl, rfl⟩, _, _, rfl, ⟨rfl, rfl⟩, rfl⟩) rfl (op1_some hl (by omega) ho _ _) ?_) (nb rfl); refine jl_op (ow_assign rfl ?_) (nb rfl)
          refine jl_nil ?_; refine jq_then ?_; refine jc_seq ?_; refine jc_seq ?_; refine jc_region ?_; refine jl_op (ow_move rfl ?_) (nb rfl); refine jl_op (ow_eql rfl rfl ?_) (nb rfl); refine jl_nil ?_; refine jq_then ?_
          refine jc_condF rfl (decide_eq_false (by assumption)) ?_; refine jc_skip ?_; refine jq_then ?_; refine jc_seq ?_; refine jc_region ?_; refine jl_op (ow_move rfl ?_) (nb rfl); refine jl_op (ow_move rfl ?_) (nb rfl)
          refine jl_op (ow_nilCheck rfl ?_) (nb rfl); refine jl_op (ow_fieldAddr rfl rfl rfl (nb rfl) ?_) (nb rfl); refine jl_op (ow_load 2 rfl rfl rfl rfl ?_) (nb rfl); refine jl_op (ow_move rfl ?_) (nb rfl)
          refine jl_op (ow_add64 rfl rfl (by omega) ?_) (nb rfl); refine jl_op (ow_callP [2] rfl rfl (con2) (fun pp hpp => ?_)) (nb rfl); refine jl_op (ow_alloc rfl rfl (fun bl => ?_)) (nb rfl)
          refine jl_op0 (ow_storeAll 0 rfl rfl rfl rfl rfl rfl ?_); refine jl_nil ?_; refine jq_then ?_; refine jc_seq ?_; refine jc_seq ?_; refine jc_region ?_; refine jl_op (ow_fieldAddr rfl rfl rfl (nb rfl) ?_) (nb rfl)
          refine jl_op (ow_load 0 rfl rfl rfl rfl ?_) (nb rfl); refine jl_op (ow_not rfl ?_) (nb rfl); refine jl_nil ?_; refine jq_then ?_; refine jc_condT rfl rfl ?_; refine jc_exit ?_; refine jq_then_exit ?_
          refine jq_block_other rfl ?_; refine jq_then_exit ?_; refine jq_block_exit ?_; refine jq_then ?_; refine jc_seq ?_; refine jc_region ?_; refine jl_op (ow_loadAll 5 rfl rfl rfl rfl ?_) (nb rfl)
          refine jl_op0 (ow_storeAll 4 rfl rfl rfl rfl rfl rfl ?_); refine jl_nil ?_; refine jq_then ?_; refine jc_ret ?_; refine jq_retRowS rfl rfl rfl rfl 0 rfl (fun K h => by rw [e, hi] at h; exact h pp hpp) ?_
          refine sub_step 2 rfl ?_; exact sub_end
        | some tb =>
          obtain ⟨u, d⟩ := tb
          have hc2 := lx_bd _ _ _ _ _ hr2
          rw [hr2] at con2
          obtain ⟨n, rfl⟩ : ∃ m, n = m + 1 := ⟨n - 1, by omega⟩
          rw [lpx_go ho hr2] at hi
          refine jl_op (ow_callP [] rfl rfl (one_c b (opsL (k + 1))) (fun pp hpp => ?_)) (nb rfl)
          refine jl_op (ow_callv (cs := [Ptr _, Ptr _]) [0, 0, 0] rfl rfl (fun _ _ => ⟨_, _, rfl, ⟨rfl, rfl⟩, _, _, rfl, ⟨rfl, rfl⟩, rfl⟩) rfl (op1_some hl (by omega) ho _ _) ?_) (nb rfl); refine jl_op (ow_assign rfl ?_) (nb rfl)
          refine jl_nil ?_; refine jq_then ?_; refine jc_seq ?_; refine jc_seq ?_; refine jc_region ?_; refine jl_op (ow_move rfl ?_) (nb rfl); refine jl_op (ow_eql rfl rfl ?_) (nb rfl); refine jl_nil ?_; refine jq_then ?_
          refine jc_condF rfl (decide_eq_false (by assumption)) ?_; refine jc_skip ?_; refine jq_then ?_; refine jc_seq ?_; refine jc_region ?_; refine jl_op (ow_move rfl ?_) (nb rfl); refine jl_op (ow_move rfl ?_) (nb rfl)
          refine jl_op (ow_nilCheck rfl ?_) (nb rfl); refine jl_op (ow_fieldAddr rfl rfl rfl (nb rfl) ?_) (nb rfl); refine jl_op (ow_load 2 rfl rfl rfl rfl ?_) (nb rfl); refine jl_op (ow_move rfl ?_) (nb rfl)
          refine jl_op (ow_add64 rfl rfl (by omega) ?_) (nb rfl); refine jl_op (ow_callP [2] rfl rfl (con2) (fun pp hpp => ?_)) (nb rfl); refine jl_op (ow_alloc rfl rfl (fun bl => ?_)) (nb rfl)
          refine jl_op0 (ow_storeAll 0 rfl rfl rfl rfl rfl rfl ?_); refine jl_nil ?_; refine jq_then ?_; refine jc_seq ?_; refine jc_seq ?_; refine jc_region ?_; refine jl_op (ow_fieldAddr rfl rfl rfl (nb rfl) ?_) (nb rfl)
          refine jl_op (ow_load 0 rfl rfl rfl rfl ?_) (nb rfl); refine jl_op (ow_not rfl ?_) (nb rfl); refine jl_nil ?_; refine jq_then ?_; refine jc_condF rfl rfl ?_; refine jc_skip ?_; refine jq_then ?_
          refine jc_anyB 9 none rfl (by kernel_rfl) (by kernel_rfl) ?_; refine any_op (fun c => ow_move rfl ⟨rfl, List.Perm.refl _⟩) ?_; refine any_op (fun c => ow_fieldAddr rfl rfl rfl (nb rfl) ⟨rfl, List.Perm.refl _⟩) ?_
          refine any_op (fun c => ow_loadN 5 rfl rfl rfl rfl rfl ⟨rfl, List.Perm.refl _⟩) ?_; refine any_op (fun c => ow_fieldAddr rfl rfl rfl (nb rfl) ⟨rfl, List.Perm.refl _⟩) ?_
          refine any_op (fun c => ow_loadN 0 rfl rfl rfl rfl rfl ⟨rfl, List.Perm.refl _⟩) ?_; refine any_op (fun c => ow_call0 rfl (binary_c o t u) ⟨rfl, List.Perm.refl _⟩) ?_
          refine any_op (fun c => ow_fieldAddr rfl rfl rfl (nb rfl) ⟨rfl, List.Perm.refl _⟩) ?_; refine any_op (fun c => ow_load 0 rfl rfl rfl rfl ⟨rfl, List.Perm.refl _⟩) ?_
          refine any_op (fun c => ow_build rfl rfl rfl rfl rfl ⟨rfl, List.Perm.refl _⟩) ?_; refine any_nil ?_; refine afin_none ?_; refine jl_op0 (ow_storeAll 5 rfl rfl rfl rfl rfl rfl ?_); refine jl_nil ?_; refine jq_block ?_
          refine jq_againS (i := (t, c, n + 1, q)) ((T.bn o t u, d, n, pp) : T × Nat × Nat × Nat) ⟨⟨by dsimp only; omega, hc2.2⟩, by dsimp only; omega, hpp, hi⟩ (by dsimp only; omega) ?_ ?_
          · refine sub_step 5 rfl ?_; refine sub_step 0 rfl ?_; refine sub_step 1 rfl ?_; exact sub_end
          · (repeat (first | exact True.intro | refine ⟨rfl, ?_⟩))
/-- All of it. -/
theorem long_all : ∀ F : Nat, ShP l F ∧ LtP l F ∧ LgP l F
  | 0 => ⟨fun b a p ha hp h => absurd h (by unfold need; omega), fun b a p ha hp h => absurd h (by unfold need; omega), fun b k a p hk ha hp h => absurd h (by unfold need; omega)⟩
  | F + 1 => by
    obtain ⟨h1, h2, h3⟩ := long_all F
    have i1 := inner_step hl F h2
    have s1 := shortest_step hl F h1 i1
    refine ⟨s1, longest_step hl F h3, ?_⟩
    intro b k a p hk ha hp hF
    rcases (show k = 0 ∨ k = 1 ∨ k = 2 by omega) with rfl | rfl | rfl
    · exact longer_step hl F 0 b a p (by omega) (fun a p ha hp h => h3 b 1 a p (by omega) ha hp h) ha hp hF
    · exact longer_step hl F 1 b a p (by omega) (fun a p ha hp h => h3 b 2 a p (by omega) ha hp h) ha hp hF
    · exact longer_top (F + 1) s1 b a p ha hp hF
end
end Go.Proofs.YtamajcgdfjeehaaDoor
end

section
namespace Go.Proofs.YtamajcgdfjeehaaDoor
open Go.Vc
attribute [local irreducible] JL JC JQ OpWp Con ConN Pan ConE OpPan hasW idxW isA isNum isNm numAt txtAt lineAt opAt lx lpx sx sxp dpR
set_option maxHeartbeats 4000000

abbrev A5 : List C := [.any, .any, .any, .any, .any]
abbrev Z5 : List C := [.val (.int .i64 0), .val (.int .i64 0), .val (.string ⟨#[]⟩), .val (.int .i64 0), .val (.slice none 0 0)]
def LvPost (b : Nat) (l : List Tok) (fr : Bool) : R T → (S → List Ch → Prop) → Prop
  | .ok t c, K => K (.tup [.row t.row', In .i64 (t.dep : Int)]) [Rz b l c 0 0 fr]
  | .er code p, K => ∀ g : Nat × Int, g.1 ≤ l.length ∧ ¬ code = 0 → K (.tup [.row A5, In .i64 g.2]) [Rz b l g.1 (lineAt l p) code fr]
def FcP (l : List Tok) (fr : Bool) (F : Nat) : Prop := ∀ b a, a ≤ l.length → need l 3 a ≤ F → Con Tryd.prog 82 [Ptr b] [Rz b l a 0 0 fr] (LvPost b l fr (sx fr l F 3 a))
def LvP (l : List Tok) (fr : Bool) (F : Nat) : Prop := ∀ b k a, k ≤ 3 → a ≤ l.length → need l k a ≤ F → Con Tryd.prog 50 [Ptr b, In .i64 (k : Int)] [Rz b l a 0 0 fr] (LvPost b l fr (sx fr l F k a))
def XpP (l : List Tok) (fr : Bool) (F : Nat) : Prop := ∀ b a, a ≤ l.length → need l 0 a ≤ F → Con Tryd.prog 29 [Ptr b] [Rz b l a 0 0 fr] (LvPost b l fr (sx fr l F 0 a))

section
variable {l : List Tok} {a b : Nat} {ln e : Int} {fr : Bool} (hl : l.length ≤ 1000000)
/-! Behind an error -/
theorem factor_e (he : ¬ e = 0) : Con Tryd.prog 82 [Ptr b] [Rz b l a ln e fr] (fun K => K (.tup [.row Z5, In .i64 0]) [Rz b l a ln e fr]) := by
  refine con_intro Tryd.func82 rfl rfl (Nat.le_of_ble_eq_true rfl) (fun c hc => ?_); refine jc_seq ?_; refine jc_region ?_; refine jl_op (ow_alloc rfl rfl (fun bl => ?_)) (nb rfl); refine jl_op (ow_assign rfl ?_) (nb rfl)
  refine jl_nil ?_; refine jq_then ?_; refine jc_seq ?_; refine jc_block ?_; refine jc_seq ?_; refine jc_region ?_; refine jl_op (ow_move rfl ?_) (nb rfl); refine jl_op (ow_nilCheck rfl ?_) (nb rfl)
  refine jl_op (ow_fieldAddr rfl rfl rfl (nb rfl) ?_) (nb rfl); refine jl_op (ow_load 1 rfl rfl rfl rfl ?_) (nb rfl); refine jl_op (ow_neq rfl rfl ?_) (nb rfl); refine jl_op (ow_assign rfl ?_) (nb rfl); refine jl_nil ?_
  refine jq_then ?_; refine jc_condT rfl (decide_eq_true (by assumption)) ?_; refine jc_seq ?_; refine jc_region ?_; refine jl_op (ow_build rfl rfl rfl rfl rfl ?_) (nb rfl); refine jl_op0 (ow_storeAll 0 rfl rfl rfl rfl rfl rfl ?_)
  refine jl_op (ow_assign rfl ?_) (nb rfl); refine jl_nil ?_; refine jq_then ?_; refine jc_ret ?_; refine jq_block_ret ?_; refine jq_then_ret ?_; refine jq_retRowT rfl rfl rfl rfl rfl 0 rfl (fun K h => h) ?_
  refine sub_step 1 rfl ?_; exact sub_end
theorem rnext_e (he : ¬ e = 0) (x y : C) : Con Tryd.prog 83 [Ptr b, .cell x, .cell y] [Rz b l a ln e fr] (fun K => K (In .i64 0) [Rz b l a ln e fr]) := by
  refine con_intro Tryd.func83 rfl rfl (Nat.le_of_ble_eq_true rfl) (fun c hc => ?_); refine jc_seq ?_; refine jc_region ?_; refine jl_op (ow_assign rfl ?_) (nb rfl); refine jl_nil ?_; refine jq_then ?_; refine jc_seq ?_
  refine jc_seq ?_; refine jc_any rfl rfl (by kernel_rfl) (by kernel_rfl) ?_; refine any_op (fun c => ow_move rfl ⟨rfl, List.Perm.refl _⟩) ?_; refine any_op (fun c => ow_nilCheck rfl ⟨rfl, List.Perm.refl _⟩) ?_
  refine any_op (fun c => ow_fieldAddr rfl rfl rfl (nb rfl) ⟨rfl, List.Perm.refl _⟩) ?_; refine any_op (fun c => ow_load 0 rfl rfl rfl rfl ⟨rfl, List.Perm.refl _⟩) ?_
  refine any_op (fun c => ow_neq rfl rfl ⟨rfl, List.Perm.refl _⟩) ?_; refine any_op (fun c => ow_move rfl ⟨rfl, List.Perm.refl _⟩) ?_; refine any_guardN rfl (decide_eq_true (by assumption)) ?_
  refine any_guardN rfl (decide_eq_true (by assumption)) ?_; refine any_guardN rfl (decide_eq_true (by assumption)) ?_; refine any_guardN rfl (decide_eq_true (by assumption)) ?_
  refine any_guardN rfl (decide_eq_true (by assumption)) ?_; refine any_guardN rfl (decide_eq_true (by assumption)) ?_; refine any_guardN rfl (decide_eq_true (by assumption)) ?_
  refine any_guardN rfl (decide_eq_true (by assumption)) ?_; refine any_guardN rfl (decide_eq_true (by assumption)) ?_; refine any_guardN rfl (decide_eq_true (by assumption)) ?_
  refine any_op (fun c => ow_pickT rfl (decide_eq_true (by assumption)) rfl ⟨rfl, List.Perm.refl _⟩) ?_; refine any_op (fun c => ow_move rfl ⟨rfl, List.Perm.refl _⟩) ?_; refine any_guardN rfl rfl ?_; refine any_guardN rfl rfl ?_
  refine any_guardN rfl rfl ?_; refine any_guardN rfl rfl ?_; refine any_guardN rfl rfl ?_; refine any_guardN rfl rfl ?_; refine any_guardN rfl rfl ?_; refine any_guardN rfl rfl ?_; refine any_guardN rfl rfl ?_
  refine any_guardN rfl rfl ?_; refine any_guardN rfl rfl ?_; refine any_guardN rfl rfl ?_; refine any_op (fun c => ow_pickT rfl rfl rfl ⟨rfl, List.Perm.refl _⟩) ?_; refine any_nil ?_; refine jq_then ?_; refine jc_condT rfl rfl ?_
  refine jc_seq ?_; refine jc_region ?_; refine jl_op (ow_assign rfl ?_) (nb rfl); refine jl_nil ?_; refine jq_then ?_; refine jc_ret ?_; refine jq_then_ret ?_; refine jq_ret1 rfl rfl [0] rfl (fun K h => h)
theorem level_e3 (he : ¬ e = 0) : Con Tryd.prog 50 [Ptr b, In .i64 3] [Rz b l a ln e fr] (fun K => K (.tup [.row Z5, In .i64 0]) [Rz b l a ln e fr]) := by
  refine con_intro Tryd.func50 rfl rfl (Nat.le_of_ble_eq_true rfl) (fun c hc => ?_); refine jc_seq ?_; refine jc_region ?_; refine jl_op (ow_alloc rfl rfl (fun bl => ?_)) (nb rfl); refine jl_op (ow_assign rfl ?_) (nb rfl)
  refine jl_nil ?_; refine jq_then ?_; refine jc_seq ?_; refine jc_region ?_; refine jl_op (ow_buildSlice rfl rfl (nb rfl) rfl rfl (nb rfl) ?_) (nb rfl); refine jl_op (ow_buildSlice rfl rfl (nb rfl) rfl rfl (nb rfl) ?_) (nb rfl)
  refine jl_op (ow_assign rfl ?_) (nb rfl); refine jl_op (ow_assign rfl ?_) (nb rfl); refine jl_nil ?_; refine jq_then ?_; refine jc_seq ?_; refine jc_seq ?_; refine jc_region ?_; refine jl_op (ow_move rfl ?_) (nb rfl)
  refine jl_nil ?_; refine jq_then ?_; refine jc_block ?_; refine jc_seq ?_; refine jc_region ?_; refine jl_op (ow_eql rfl rfl ?_) (nb rfl); refine jl_op (ow_assign rfl ?_) (nb rfl); refine jl_nil ?_; refine jq_then ?_
  refine jc_condF rfl rfl ?_; refine jc_seq ?_; refine jc_region ?_; refine jl_op (ow_eql rfl rfl ?_) (nb rfl); refine jl_op (ow_assign rfl ?_) (nb rfl); refine jl_nil ?_; refine jq_then ?_; refine jc_condF rfl rfl ?_
  refine jc_seq ?_; refine jc_region ?_; refine jl_op (ow_eql rfl rfl ?_) (nb rfl); refine jl_op (ow_assign rfl ?_) (nb rfl); refine jl_nil ?_; refine jq_then ?_; refine jc_condT rfl (decide_eq_true rfl) ?_; refine jc_seq ?_
  refine jc_region ?_; refine jl_op (ow_move rfl ?_) (nb rfl); refine jl_op (ow_call1 [1] rfl rfl (factor_e he) ?_) (nb rfl); refine jl_op (ow_extract rfl rfl ?_) (nb rfl); refine jl_op (ow_extract rfl rfl ?_) (nb rfl)
  refine jl_op0 (ow_storeAll 1 rfl rfl rfl rfl rfl rfl ?_); refine jl_op (ow_assign rfl ?_) (nb rfl); refine jl_nil ?_; refine jq_then ?_; refine jc_ret ?_; refine jq_block_ret ?_; refine jq_then_ret ?_
  refine jq_retRowT rfl rfl rfl rfl rfl 0 rfl (fun K h => h) ?_; refine sub_step 1 rfl ?_; exact sub_end
theorem level_eS (he : ¬ e = 0) (k : Nat) (hk : k ≤ 2) (h : Con Tryd.prog 50 [Ptr b, In .i64 ((k + 1 : Nat) : Int)] [Rz b l a ln e fr] (fun K => K (.tup [.row Z5, In .i64 0]) [Rz b l a ln e fr])) : Con Tryd.prog 50 [Ptr b, In .i64 (k : Int)] [Rz b l a ln e fr] (fun K => K (.tup [.row Z5, In .i64 0]) [Rz b l a ln e fr]) := by
  refine con_intro Tryd.func50 rfl rfl (Nat.le_of_ble_eq_true rfl) (fun c hc => ?_)
  have hI : ∀ x y : C, Con Tryd.prog 83 [Ptr b, .cell x, .cell y] [Rz b l a ln e fr] (fun K => K (In .i64 0) [Rz b l a ln e fr]) := rnext_e he
  rcases (show k = 0 ∨ k = 1 ∨ k = 2 by omega) with rfl | rfl | rfl
  · refine jc_seq ?_; refine jc_region ?_; refine jl_op (ow_alloc rfl rfl (fun bl => ?_)) (nb rfl); refine jl_op (ow_assign rfl ?_) (nb rfl); refine jl_nil ?_; refine jq_then ?_; refine jc_seq ?_; refine jc_region ?_
    refine jl_op (ow_buildSlice rfl rfl (nb rfl) rfl rfl (nb rfl) ?_) (nb rfl); refine jl_op (ow_buildSlice rfl rfl (nb rfl) rfl rfl (nb rfl) ?_) (nb rfl); refine jl_op (ow_assign rfl ?_) (nb rfl)
    refine jl_op (ow_assign rfl ?_) (nb rfl); refine jl_nil ?_; refine jq_then ?_; refine jc_seq ?_; refine jc_seq ?_; refine jc_region ?_; refine jl_op (ow_move rfl ?_) (nb rfl); refine jl_nil ?_; refine jq_then ?_
    refine jc_block ?_; refine jc_seq ?_; refine jc_region ?_; refine jl_op (ow_eql rfl rfl ?_) (nb rfl); refine jl_op (ow_assign rfl ?_) (nb rfl); refine jl_nil ?_; refine jq_then ?_; refine jc_condF rfl rfl ?_; refine jc_seq ?_
    refine jc_region ?_; refine jl_op (ow_eql rfl rfl ?_) (nb rfl); refine jl_op (ow_assign rfl ?_) (nb rfl); refine jl_nil ?_; refine jq_then ?_; refine jc_condF rfl rfl ?_; refine jc_seq ?_; refine jc_region ?_
    refine jl_op (ow_eql rfl rfl ?_) (nb rfl); refine jl_op (ow_assign rfl ?_) (nb rfl); refine jl_nil ?_; refine jq_then ?_; refine jc_condF rfl rfl ?_; refine jc_skip ?_; refine jq_block ?_; refine jq_then ?_; refine jc_seq ?_
    refine jc_region ?_; refine jl_op (ow_move rfl ?_) (nb rfl); refine jl_op (ow_move rfl ?_) (nb rfl); refine jl_op (ow_add64 rfl rfl (by omega) ?_) (nb rfl); refine jl_op (ow_call1 [1] rfl rfl (h) ?_) (nb rfl)
    refine jl_op (ow_move rfl ?_) (nb rfl); refine jl_op (ow_extract rfl rfl ?_) (nb rfl); refine jl_op (ow_extract rfl rfl ?_) (nb rfl); refine jl_op (ow_alloc rfl rfl (fun bl => ?_)) (nb rfl)
    refine jl_op0 (ow_storeAll 0 rfl rfl rfl rfl rfl rfl ?_); refine jl_op (ow_assign rfl ?_) (nb rfl); refine jl_nil ?_; refine jq_then ?_; refine jc_seq ?_; refine jc_seq ?_; refine jc_region ?_
    refine jl_op (ow_assign rfl ?_) (nb rfl); refine jl_nil ?_; refine jq_then ?_; refine jc_block ?_
    rename_i bR
    refine jc_loopS (ι := Unit) [0, 1, 4, 5, 6, 7, 8, 9, 10] (fun _ => True) (fun _ => []) (fun _ => [.blk bR 27 Z5, .blk bl 27 Z5, Rz b l a ln e fr]) (fun _ => 0) () trivial ?_ ?_ ?_
    · refine sub_step 2 rfl ?_; refine sub_step 0 rfl ?_; refine sub_step 0 rfl ?_; exact sub_end
    · (repeat (first | exact True.intro | refine ⟨rfl, ?_⟩))
    · intro _ _
      refine jc_seq ?_; refine jc_seq ?_; refine jc_region ?_; refine jl_op (ow_move rfl ?_) (nb rfl); refine jl_op (ow_move rfl ?_) (nb rfl); refine jl_op (ow_move rfl ?_) (nb rfl)
      refine jl_op (ow_call1 [2] rfl rfl (hI _ _) ?_) (nb rfl); refine jl_op (ow_neq rfl rfl ?_) (nb rfl); refine jl_op (ow_move rfl ?_) (nb rfl); refine jl_guardN rfl rfl (nb rfl) ?_; refine jl_guardN rfl rfl (nb rfl) ?_
      refine jl_guardN rfl rfl (nb rfl) ?_; refine jl_guardU rfl (nb rfl) ?_; refine jl_guardU rfl (nb rfl) ?_; refine jl_guardN rfl rfl (nb rfl) ?_; refine jl_op (ow_pickF rfl rfl rfl ?_) (nb rfl); refine jl_nil ?_
      refine jq_then ?_; refine jc_condF rfl rfl ?_; refine jc_exit ?_; refine jq_then_exit ?_; refine jq_then_exit ?_; refine jq_block_exit ?_; refine jq_then ?_; refine jc_seq ?_; refine jc_region ?_
      refine jl_op (ow_loadAll 2 rfl rfl rfl rfl ?_) (nb rfl); refine jl_op (ow_move rfl ?_) (nb rfl); refine jl_op0 (ow_storeAll 1 rfl rfl rfl rfl rfl rfl ?_); refine jl_op (ow_assign rfl ?_) (nb rfl); refine jl_nil ?_
      refine jq_then ?_; refine jc_ret ?_; refine jq_retRowT rfl rfl rfl rfl rfl 0 rfl (fun K h => h) ?_; refine sub_step 1 rfl ?_; exact sub_end
  · refine jc_seq ?_; refine jc_region ?_; refine jl_op (ow_alloc rfl rfl (fun bl => ?_)) (nb rfl); refine jl_op (ow_assign rfl ?_) (nb rfl); refine jl_nil ?_; refine jq_then ?_; refine jc_seq ?_; refine jc_region ?_
    refine jl_op (ow_buildSlice rfl rfl (nb rfl) rfl rfl (nb rfl) ?_) (nb rfl); refine jl_op (ow_buildSlice rfl rfl (nb rfl) rfl rfl (nb rfl) ?_) (nb rfl); refine jl_op (ow_assign rfl ?_) (nb rfl)
    refine jl_op (ow_assign rfl ?_) (nb rfl); refine jl_nil ?_; refine jq_then ?_; refine jc_seq ?_; refine jc_seq ?_; refine jc_region ?_; refine jl_op (ow_move rfl ?_) (nb rfl); refine jl_nil ?_; refine jq_then ?_
    refine jc_block ?_; refine jc_seq ?_; refine jc_region ?_; refine jl_op (ow_eql rfl rfl ?_) (nb rfl); refine jl_op (ow_assign rfl ?_) (nb rfl); refine jl_nil ?_; refine jq_then ?_; refine jc_condT rfl (decide_eq_true rfl) ?_
    refine jc_region ?_; refine jl_op (ow_buildSlice rfl rfl (nb rfl) rfl rfl (nb rfl) ?_) (nb rfl); refine jl_op (ow_buildSlice rfl rfl (nb rfl) rfl rfl (nb rfl) ?_) (nb rfl); refine jl_op (ow_assign rfl ?_) (nb rfl)
    refine jl_op (ow_assign rfl ?_) (nb rfl); refine jl_nil ?_; refine jq_block ?_; refine jq_then ?_; refine jc_seq ?_; refine jc_region ?_; refine jl_op (ow_move rfl ?_) (nb rfl); refine jl_op (ow_move rfl ?_) (nb rfl)
    refine jl_op (ow_add64 rfl rfl (by omega) ?_) (nb rfl); refine jl_op (ow_call1 [1] rfl rfl (h) ?_) (nb rfl); refine jl_op (ow_move rfl ?_) (nb rfl); refine jl_op (ow_extract rfl rfl ?_) (nb rfl)
    refine jl_op (ow_extract rfl rfl ?_) (nb rfl); refine jl_op (ow_alloc rfl rfl (fun bl => ?_)) (nb rfl); refine jl_op0 (ow_storeAll 0 rfl rfl rfl rfl rfl rfl ?_); refine jl_op (ow_assign rfl ?_) (nb rfl); refine jl_nil ?_
    refine jq_then ?_; refine jc_seq ?_; refine jc_seq ?_; refine jc_region ?_; refine jl_op (ow_assign rfl ?_) (nb rfl); refine jl_nil ?_; refine jq_then ?_; refine jc_block ?_
    rename_i bR
    refine jc_loopS (ι := Unit) [0, 1, 4, 5, 6, 7, 8, 9, 10] (fun _ => True) (fun _ => []) (fun _ => [.blk bR 27 Z5, .blk bl 27 Z5, Rz b l a ln e fr]) (fun _ => 0) () trivial ?_ ?_ ?_
    · refine sub_step 2 rfl ?_; refine sub_step 0 rfl ?_; refine sub_step 0 rfl ?_; exact sub_end
    · (repeat (first | exact True.intro | refine ⟨rfl, ?_⟩))
    · intro _ _
      refine jc_seq ?_; refine jc_seq ?_; refine jc_region ?_; refine jl_op (ow_move rfl ?_) (nb rfl); refine jl_op (ow_move rfl ?_) (nb rfl); refine jl_op (ow_move rfl ?_) (nb rfl)
      refine jl_op (ow_call1 [2] rfl rfl (hI _ _) ?_) (nb rfl); refine jl_op (ow_neq rfl rfl ?_) (nb rfl); refine jl_op (ow_move rfl ?_) (nb rfl); refine jl_guardN rfl rfl (nb rfl) ?_; refine jl_guardN rfl rfl (nb rfl) ?_
      refine jl_guardN rfl rfl (nb rfl) ?_; refine jl_guardU rfl (nb rfl) ?_; refine jl_guardU rfl (nb rfl) ?_; refine jl_guardN rfl rfl (nb rfl) ?_; refine jl_op (ow_pickF rfl rfl rfl ?_) (nb rfl); refine jl_nil ?_
      refine jq_then ?_; refine jc_condF rfl rfl ?_; refine jc_exit ?_; refine jq_then_exit ?_; refine jq_then_exit ?_; refine jq_block_exit ?_; refine jq_then ?_; refine jc_seq ?_; refine jc_region ?_
      refine jl_op (ow_loadAll 2 rfl rfl rfl rfl ?_) (nb rfl); refine jl_op (ow_move rfl ?_) (nb rfl); refine jl_op0 (ow_storeAll 1 rfl rfl rfl rfl rfl rfl ?_); refine jl_op (ow_assign rfl ?_) (nb rfl); refine jl_nil ?_
      refine jq_then ?_; refine jc_ret ?_; refine jq_retRowT rfl rfl rfl rfl rfl 0 rfl (fun K h => h) ?_; refine sub_step 1 rfl ?_; exact sub_end
  · refine jc_seq ?_; refine jc_region ?_; refine jl_op (ow_alloc rfl rfl (fun bl => ?_)) (nb rfl); refine jl_op (ow_assign rfl ?_) (nb rfl); refine jl_nil ?_; refine jq_then ?_; refine jc_seq ?_; refine jc_region ?_
    refine jl_op (ow_buildSlice rfl rfl (nb rfl) rfl rfl (nb rfl) ?_) (nb rfl); refine jl_op (ow_buildSlice rfl rfl (nb rfl) rfl rfl (nb rfl) ?_) (nb rfl); refine jl_op (ow_assign rfl ?_) (nb rfl)
    refine jl_op (ow_assign rfl ?_) (nb rfl); refine jl_nil ?_; refine jq_then ?_; refine jc_seq ?_; refine jc_seq ?_; refine jc_region ?_; refine jl_op (ow_move rfl ?_) (nb rfl); refine jl_nil ?_; refine jq_then ?_
    refine jc_block ?_; refine jc_seq ?_; refine jc_region ?_; refine jl_op (ow_eql rfl rfl ?_) (nb rfl); refine jl_op (ow_assign rfl ?_) (nb rfl); refine jl_nil ?_; refine jq_then ?_; refine jc_condF rfl rfl ?_; refine jc_seq ?_
    refine jc_region ?_; refine jl_op (ow_eql rfl rfl ?_) (nb rfl); refine jl_op (ow_assign rfl ?_) (nb rfl); refine jl_nil ?_; refine jq_then ?_; refine jc_condT rfl (decide_eq_true rfl) ?_; refine jc_region ?_
    refine jl_op (ow_buildSlice rfl rfl (nb rfl) rfl rfl (nb rfl) ?_) (nb rfl); refine jl_op (ow_buildSlice rfl rfl (nb rfl) rfl rfl (nb rfl) ?_) (nb rfl); refine jl_op (ow_assign rfl ?_) (nb rfl)
    refine jl_op (ow_assign rfl ?_) (nb rfl); refine jl_nil ?_; refine jq_block ?_; refine jq_then ?_; refine jc_seq ?_; refine jc_region ?_; refine jl_op (ow_move rfl ?_) (nb rfl); refine jl_op (ow_move rfl ?_) (nb rfl)
    refine jl_op (ow_add64 rfl rfl (by omega) ?_) (nb rfl); refine jl_op (ow_call1 [1] rfl rfl (h) ?_) (nb rfl); refine jl_op (ow_move rfl ?_) (nb rfl); refine jl_op (ow_extract rfl rfl ?_) (nb rfl)
    refine jl_op (ow_extract rfl rfl ?_) (nb rfl); refine jl_op (ow_alloc rfl rfl (fun bl => ?_)) (nb rfl); refine jl_op0 (ow_storeAll 0 rfl rfl rfl rfl rfl rfl ?_); refine jl_op (ow_assign rfl ?_) (nb rfl); refine jl_nil ?_
    refine jq_then ?_; refine jc_seq ?_; refine jc_seq ?_; refine jc_region ?_; refine jl_op (ow_assign rfl ?_) (nb rfl); refine jl_nil ?_; refine jq_then ?_; refine jc_block ?_
    rename_i bR
    refine jc_loopS (ι := Unit) [0, 1, 4, 5, 6, 7, 8, 9, 10] (fun _ => True) (fun _ => []) (fun _ => [.blk bR 27 Z5, .blk bl 27 Z5, Rz b l a ln e fr]) (fun _ => 0) () trivial ?_ ?_ ?_
    · refine sub_step 2 rfl ?_; refine sub_step 0 rfl ?_; refine sub_step 0 rfl ?_; exact sub_end
    · (repeat (first | exact True.intro | refine ⟨rfl, ?_⟩))
    · intro _ _
      refine jc_seq ?_; refine jc_seq ?_; refine jc_region ?_; refine jl_op (ow_move rfl ?_) (nb rfl); refine jl_op (ow_move rfl ?_) (nb rfl); refine jl_op (ow_move rfl ?_) (nb rfl)
      refine jl_op (ow_call1 [2] rfl rfl (hI _ _) ?_) (nb rfl); refine jl_op (ow_neq rfl rfl ?_) (nb rfl); refine jl_op (ow_move rfl ?_) (nb rfl); refine jl_guardN rfl rfl (nb rfl) ?_; refine jl_guardN rfl rfl (nb rfl) ?_
      refine jl_guardN rfl rfl (nb rfl) ?_; refine jl_guardU rfl (nb rfl) ?_; refine jl_guardU rfl (nb rfl) ?_; refine jl_guardN rfl rfl (nb rfl) ?_; refine jl_op (ow_pickF rfl rfl rfl ?_) (nb rfl); refine jl_nil ?_
      refine jq_then ?_; refine jc_condF rfl rfl ?_; refine jc_exit ?_; refine jq_then_exit ?_; refine jq_then_exit ?_; refine jq_block_exit ?_; refine jq_then ?_; refine jc_seq ?_; refine jc_region ?_
      refine jl_op (ow_loadAll 2 rfl rfl rfl rfl ?_) (nb rfl); refine jl_op (ow_move rfl ?_) (nb rfl); refine jl_op0 (ow_storeAll 1 rfl rfl rfl rfl rfl rfl ?_); refine jl_op (ow_assign rfl ?_) (nb rfl); refine jl_nil ?_
      refine jq_then ?_; refine jc_ret ?_; refine jq_retRowT rfl rfl rfl rfl rfl 0 rfl (fun K h => h) ?_; refine sub_step 1 rfl ?_; exact sub_end
theorem level_e (he : ¬ e = 0) (k : Nat) (hk : k ≤ 3) : Con Tryd.prog 50 [Ptr b, In .i64 (k : Int)] [Rz b l a ln e fr] (fun K => K (.tup [.row Z5, In .i64 0]) [Rz b l a ln e fr]) := by
  have h2 := level_eS he 2 (by omega) (level_e3 (b := b) (l := l) (a := a) (ln := ln) (fr := fr) he)
  have h1 := level_eS he 1 (by omega) h2
  have h0 := level_eS he 0 (by omega) h1
  rcases (show k = 0 ∨ k = 1 ∨ k = 2 ∨ k = 3 by omega) with rfl | rfl | rfl | rfl
  · exact h0
  · exact h1
  · exact h2
  · exact level_e3 he
theorem rexpr_e (he : ¬ e = 0) : Con Tryd.prog 29 [Ptr b] [Rz b l a ln e fr] (fun K => K (.tup [.row Z5, In .i64 0]) [Rz b l a ln e fr]) := by
  have h := level_e (b := b) (l := l) (a := a) (ln := ln) (fr := fr) he 0 (by omega)
  refine con_intro Tryd.func29 rfl rfl (Nat.le_of_ble_eq_true rfl) (fun c hc => ?_); refine jc_seq ?_; refine jc_region ?_; refine jl_op (ow_alloc rfl rfl (fun bl => ?_)) (nb rfl); refine jl_op (ow_assign rfl ?_) (nb rfl)
  refine jl_nil ?_; refine jq_then ?_; refine jc_seq ?_; refine jc_region ?_; refine jl_op (ow_move rfl ?_) (nb rfl); refine jl_op (ow_call1 [1] rfl rfl (h) ?_) (nb rfl); refine jl_op (ow_extract rfl rfl ?_) (nb rfl)
  refine jl_op (ow_extract rfl rfl ?_) (nb rfl); refine jl_op0 (ow_storeAll 1 rfl rfl rfl rfl rfl rfl ?_); refine jl_op (ow_assign rfl ?_) (nb rfl); refine jl_nil ?_; refine jq_then ?_; refine jc_ret ?_
  refine jq_retRowT rfl rfl rfl rfl rfl 0 rfl (fun K h => h) ?_; refine sub_step 1 rfl ?_; exact sub_end

/-! Operators -/
def opnL : Nat → List Int
  | 0 => [11, 12, 13, 14]
  | 1 => [1, 2, 7, 8]
  | _ => [3, 4, 5, 6, 9, 10]
theorem opnL_eq : ∀ k, opnL k = (opsL k).map (fun w => idxW signL w + 1)
  | 0 => by decide +kernel
  | 1 => by decide +kernel
  | _ + 2 => by show [3, 4, 5, 6, 9, 10] = mulL.map (fun w => idxW signL w + 1); decide +kernel
def opF (L : List ByteArray) (s : ByteArray) : Int := if (L.any fun w => decide (w = s)) = true then idxW signL s + 1 else 0
theorem op_c (k : Nat) (s : ByteArray) : Con Tryd.prog 113 [Str s, .cell (.list ((opsL k).map Wrow)), .cell (.list ((opnL k).map Irow))] [] (fun K => K (In .i64 (opF (opsL k) s)) []) := by
  have eO := opnL_eq k
  generalize opnL k = O at eO
  generalize opsL k = L at eO
  have eL : (L.map Wrow).length = L.length := List.length_map _
  have eN : (O.map Irow).length = O.length := List.length_map _
  have eON : O.length = L.length := by rw [eO, List.length_map]
  refine con_intro Tryd.func113 rfl rfl (Nat.le_of_ble_eq_true rfl) (fun c hc => ?_); refine jc_seq ?_; refine jc_region ?_; refine jl_op (ow_assign rfl ?_) (nb rfl); refine jl_nil ?_; refine jq_then ?_; refine jc_seq ?_
  refine jc_seq ?_; refine jc_region ?_; refine jl_op (ow_assign rfl ?_) (nb rfl); refine jl_nil ?_; refine jq_then ?_; refine jc_block ?_
  refine jc_loopS [] (fun k : Nat => k ≤ L.length ∧ ∀ j (hj : j < L.length), j < k → ¬ L[j] = s) (fun k => [(0, Str s), (1, .cell (.list (L.map Wrow))), (2, .cell (.list (O.map Irow))), (7, In .i64 (k : Int))]) (fun _ => []) (fun k => L.length - k) 0 ⟨Nat.zero_le _, fun j _ h => by omega⟩ ?_ ?_ ?_
  · exact sub_end
  · (repeat (first | exact True.intro | refine ⟨rfl, ?_⟩))
  · rintro k ⟨hk, hno⟩
    refine jc_reset [(0, Str s), (1, .cell (.list (L.map Wrow))), (2, .cell (.list (O.map Irow))), (7, In .i64 (k : Int))] [] ?_ ⟨[], [], rfl⟩ ?_
    · (repeat (first | exact True.intro | refine ⟨rfl, ?_⟩))
    by_cases hlt : k < L.length
    · have hltO : k < O.length := by omega
      by_cases hb : L[k] = s
      · have e : opF L s = O[k] := by
          unfold opF
          rw [if_pos (List.any_eq_true.2 ⟨L[k], List.getElem_mem hlt, decide_eq_true hb⟩)]
          subst eO
          simp [hb]
        refine jc_seq ?_; refine jc_seq ?_; refine jc_region ?_; refine jl_op (ow_move rfl ?_) (nb rfl); refine jl_op (ow_move rfl ?_) (nb rfl); refine jl_op (ow_len rfl (fun hlen => ?_)) (nb rfl)
        refine jl_op (ow_lss rfl rfl ?_) (nb rfl); refine jl_nil ?_; refine jq_then ?_; refine jc_condT rfl (decide_eq_true (by omega)) ?_; refine jc_skip ?_; refine jq_then ?_; refine jc_seq ?_; refine jc_block ?_
        refine jc_seq ?_; refine jc_region ?_; refine jl_op (ow_move rfl ?_) (nb rfl); refine jl_op (ow_move rfl ?_) (nb rfl); refine jl_op (ow_indexAddrMapE rfl rfl (by omega) rfl rfl (nb rfl) ?_) (nb rfl)
        refine jl_op (ow_loadPlace rfl rfl ?_) (nb rfl); refine jl_op (ow_move rfl ?_) (nb rfl); refine jl_op (ow_streql rfl rfl ?_) (nb rfl); refine jl_nil ?_; refine jq_then ?_
        refine jc_condT rfl (decide_eq_true (by assumption)) ?_; refine jc_seq ?_; refine jc_region ?_; refine jl_op (ow_move rfl ?_) (nb rfl); refine jl_op (ow_move rfl ?_) (nb rfl)
        refine jl_op (ow_indexAddrMapE rfl rfl (by omega) rfl rfl (nb rfl) ?_) (nb rfl); refine jl_op (ow_loadPlace rfl rfl ?_) (nb rfl); refine jl_op (ow_assign rfl ?_) (nb rfl); refine jl_nil ?_; refine jq_then ?_
        refine jc_ret ?_; refine jq_block_ret ?_; refine jq_then_ret ?_; refine jq_then_ret ?_; refine jq_block_ret ?_; refine jq_then_ret ?_; refine jq_ret1 rfl rfl [] rfl (fun K h => by rw [e] at h; exact h)
      · refine jc_seq ?_; refine jc_seq ?_; refine jc_region ?_; refine jl_op (ow_move rfl ?_) (nb rfl); refine jl_op (ow_move rfl ?_) (nb rfl); refine jl_op (ow_len rfl (fun hlen => ?_)) (nb rfl)
        refine jl_op (ow_lss rfl rfl ?_) (nb rfl); refine jl_nil ?_; refine jq_then ?_; refine jc_condT rfl (decide_eq_true (by omega)) ?_; refine jc_skip ?_; refine jq_then ?_; refine jc_seq ?_; refine jc_block ?_
        refine jc_seq ?_; refine jc_region ?_; refine jl_op (ow_move rfl ?_) (nb rfl); refine jl_op (ow_move rfl ?_) (nb rfl); refine jl_op (ow_indexAddrMapE rfl rfl (by omega) rfl rfl (nb rfl) ?_) (nb rfl)
        refine jl_op (ow_loadPlace rfl rfl ?_) (nb rfl); refine jl_op (ow_move rfl ?_) (nb rfl); refine jl_op (ow_streql rfl rfl ?_) (nb rfl); refine jl_nil ?_; refine jq_then ?_
        refine jc_condF rfl (decide_eq_false (by assumption)) ?_; refine jc_skip ?_; refine jq_block ?_; refine jq_then ?_; refine jc_region ?_; refine jl_op (ow_move rfl ?_) (nb rfl)
        refine jl_op (ow_add64 rfl rfl (by omega) ?_) (nb rfl); refine jl_op (ow_assign rfl ?_) (nb rfl); refine jl_nil ?_; refine jq_againS (k + 1) ⟨by omega, fun j hj hjk => ?_⟩ (by omega) ?_ ?_
        · by_cases e : j < k
          · exact hno j hj e
          · obtain rfl : j = k := by omega
            exact hb
        · exact sub_end
        · (repeat (first | exact True.intro | refine ⟨rfl, ?_⟩))
    · have e : opF L s = 0 := by
        unfold opF
        rw [if_neg]
        intro h
        obtain ⟨w, hw, hd⟩ := List.any_eq_true.1 h
        obtain ⟨j, hj, rfl⟩ := List.mem_iff_getElem.1 hw
        exact hno j hj (by omega) (of_decide_eq_true hd)
      refine jc_seq ?_; refine jc_seq ?_; refine jc_region ?_; refine jl_op (ow_move rfl ?_) (nb rfl); refine jl_op (ow_move rfl ?_) (nb rfl); refine jl_op (ow_len rfl (fun hlen => ?_)) (nb rfl)
      refine jl_op (ow_lss rfl rfl ?_) (nb rfl); refine jl_nil ?_; refine jq_then ?_; refine jc_condF rfl (decide_eq_false (by omega)) ?_; refine jc_exit ?_; refine jq_then_exit ?_; refine jq_then_exit ?_; refine jq_block_exit ?_
      refine jq_then ?_; refine jc_seq ?_; refine jc_region ?_; refine jl_op (ow_assign rfl ?_) (nb rfl); refine jl_nil ?_; refine jq_then ?_; refine jc_ret ?_; refine jq_ret1 rfl rfl [] rfl (fun K h => by rw [e] at h; exact h)
theorem rnext_c (ha : a ≤ l.length) (k : Nat) : Con Tryd.prog 83 [Ptr b, .cell (.list ((opsL k).map Wrow)), .cell (.list ((opnL k).map Irow))] [Rz b l a ln 0 fr] (fun K => K (In .i64 (opV l (opsL k) a)) [Rz b l a ln 0 fr]) := by
  have eL : (l.map Tok.row).length = l.length := List.length_map _
  refine con_intro Tryd.func83 rfl rfl (Nat.le_of_ble_eq_true rfl) (fun c hc => ?_)
  by_cases hlt : a < l.length
  · have hge : ¬ (a : Int) ≥ l.length := by omega
    have e := opAt_get (opsL k) hlt
    by_cases hk : l[a].kind = 3
    · have hkn : ¬ ¬ l[a].kind = 3 := fun h => h hk
      have e2 : opV l (opsL k) a = opF (opsL k) l[a].text := by
        unfold opV opF
        rw [e]
        by_cases h : ((opsL k).any fun w => decide (w = l[a].text)) = true
        · rw [if_pos ⟨hk, h⟩, if_pos h]; rfl
        · rw [if_neg (fun x => h x.2), if_neg h]; rfl
      refine jc_seq ?_; refine jc_region ?_; refine jl_op (ow_assign rfl ?_) (nb rfl); refine jl_nil ?_; refine jq_then ?_; refine jc_seq ?_; refine jc_seq ?_; refine jc_any rfl rfl (by kernel_rfl) (by kernel_rfl) ?_
      refine any_op (fun c => ow_move rfl ⟨rfl, List.Perm.refl _⟩) ?_; refine any_op (fun c => ow_nilCheck rfl ⟨rfl, List.Perm.refl _⟩) ?_; refine any_op (fun c => ow_fieldAddr rfl rfl rfl (nb rfl) ⟨rfl, List.Perm.refl _⟩) ?_
      refine any_op (fun c => ow_load 0 rfl rfl rfl rfl ⟨rfl, List.Perm.refl _⟩) ?_; refine any_op (fun c => ow_neq rfl rfl ⟨rfl, List.Perm.refl _⟩) ?_; refine any_op (fun c => ow_move rfl ⟨rfl, List.Perm.refl _⟩) ?_
      refine any_guardY rfl rfl (fun c => ow_move rfl ⟨rfl, List.Perm.refl _⟩) ?_; refine any_guardY rfl rfl (fun c => ow_nilCheck rfl ⟨rfl, List.Perm.refl _⟩) ?_
      refine any_guardY rfl rfl (fun c => ow_fieldAddr rfl rfl rfl (nb rfl) ⟨rfl, List.Perm.refl _⟩) ?_; refine any_guardY rfl rfl (fun c => ow_load 0 rfl rfl rfl rfl ⟨rfl, List.Perm.refl _⟩) ?_
      refine any_guardY rfl rfl (fun c => ow_move rfl ⟨rfl, List.Perm.refl _⟩) ?_; refine any_guardY rfl rfl (fun c => ow_nilCheck rfl ⟨rfl, List.Perm.refl _⟩) ?_
      refine any_guardY rfl rfl (fun c => ow_fieldAddr rfl rfl rfl (nb rfl) ⟨rfl, List.Perm.refl _⟩) ?_; refine any_guardY rfl rfl (fun c => ow_load 0 rfl rfl rfl rfl ⟨rfl, List.Perm.refl _⟩) ?_
      refine any_guardY rfl rfl (fun c => ow_len rfl (fun hlen => ⟨rfl, List.Perm.refl _⟩)) ?_; refine any_guardY rfl rfl (fun c => ow_geq rfl rfl ⟨rfl, List.Perm.refl _⟩) ?_
      refine any_op (fun c => ow_pickF rfl rfl rfl ⟨rfl, List.Perm.refl _⟩) ?_; refine any_op (fun c => ow_move rfl ⟨rfl, List.Perm.refl _⟩) ?_
      refine any_guardY rfl (decide_eq_false (by omega)) (fun c => ow_move rfl ⟨rfl, List.Perm.refl _⟩) ?_; refine any_guardY rfl (decide_eq_false (by omega)) (fun c => ow_nilCheck rfl ⟨rfl, List.Perm.refl _⟩) ?_
      refine any_guardY rfl (decide_eq_false (by omega)) (fun c => ow_fieldAddr rfl rfl rfl (nb rfl) ⟨rfl, List.Perm.refl _⟩) ?_
      refine any_guardY rfl (decide_eq_false (by omega)) (fun c => ow_load 0 rfl rfl rfl rfl ⟨rfl, List.Perm.refl _⟩) ?_; refine any_guardY rfl (decide_eq_false (by omega)) (fun c => ow_move rfl ⟨rfl, List.Perm.refl _⟩) ?_
      refine any_guardY rfl (decide_eq_false (by omega)) (fun c => ow_nilCheck rfl ⟨rfl, List.Perm.refl _⟩) ?_
      refine any_guardY rfl (decide_eq_false (by omega)) (fun c => ow_fieldAddr rfl rfl rfl (nb rfl) ⟨rfl, List.Perm.refl _⟩) ?_
      refine any_guardY rfl (decide_eq_false (by omega)) (fun c => ow_load 0 rfl rfl rfl rfl ⟨rfl, List.Perm.refl _⟩) ?_
      refine any_guardY rfl (decide_eq_false (by omega)) (fun c => ow_indexAddrMapE rfl rfl (by omega) rfl rfl (nb rfl) ⟨rfl, List.Perm.refl _⟩) ?_
      refine any_guardY rfl (decide_eq_false (by omega)) (fun c => ow_fieldAddrPlace rfl rfl rfl (nb rfl) rfl (nb rfl) ⟨rfl, List.Perm.refl _⟩) ?_
      refine any_guardY rfl (decide_eq_false (by omega)) (fun c => ow_loadPlace rfl rfl ⟨rfl, List.Perm.refl _⟩) ?_; refine any_guardY rfl (decide_eq_false (by omega)) (fun c => ow_neq rfl rfl ⟨rfl, List.Perm.refl _⟩) ?_
      refine any_op (fun c => ow_pickF rfl (decide_eq_false (by omega)) rfl ⟨rfl, List.Perm.refl _⟩) ?_; refine any_nil ?_; refine jq_then ?_; refine jc_condF rfl (decide_eq_false (by assumption)) ?_; refine jc_skip ?_
      refine jq_then ?_; refine jc_seq ?_; refine jc_any rfl rfl (by kernel_rfl) (by kernel_rfl) ?_; refine any_op (fun c => ow_move rfl ⟨rfl, List.Perm.refl _⟩) ?_
      refine any_op (fun c => ow_nilCheck rfl ⟨rfl, List.Perm.refl _⟩) ?_; refine any_op (fun c => ow_fieldAddr rfl rfl rfl (nb rfl) ⟨rfl, List.Perm.refl _⟩) ?_
      refine any_op (fun c => ow_load 0 rfl rfl rfl rfl ⟨rfl, List.Perm.refl _⟩) ?_; refine any_op (fun c => ow_move rfl ⟨rfl, List.Perm.refl _⟩) ?_; refine any_op (fun c => ow_nilCheck rfl ⟨rfl, List.Perm.refl _⟩) ?_
      refine any_op (fun c => ow_fieldAddr rfl rfl rfl (nb rfl) ⟨rfl, List.Perm.refl _⟩) ?_; refine any_op (fun c => ow_load 0 rfl rfl rfl rfl ⟨rfl, List.Perm.refl _⟩) ?_
      refine any_op (fun c => ow_indexAddrMapE rfl rfl (by omega) rfl rfl (nb rfl) ⟨rfl, List.Perm.refl _⟩) ?_; refine any_op (fun c => ow_fieldAddrPlace rfl rfl rfl (nb rfl) rfl (nb rfl) ⟨rfl, List.Perm.refl _⟩) ?_
      refine any_op (fun c => ow_loadPlace rfl rfl ⟨rfl, List.Perm.refl _⟩) ?_; refine any_op (fun c => ow_move rfl ⟨rfl, List.Perm.refl _⟩) ?_; refine any_op (fun c => ow_move rfl ⟨rfl, List.Perm.refl _⟩) ?_
      refine any_op (fun c => ow_call0 rfl (op_c k _) ⟨rfl, List.Perm.refl _⟩) ?_; refine any_op (fun c => ow_assign rfl ⟨rfl, List.Perm.refl _⟩) ?_; refine any_nil ?_; refine jq_then ?_; refine jc_ret ?_
      refine jq_ret1 rfl rfl [0] rfl (fun K h => by rw [e2] at h; exact h)
    · have e2 : opV l (opsL k) a = 0 := by unfold opV; rw [e, if_neg (fun x => hk x.1)]; rfl
      refine jc_seq ?_; refine jc_region ?_; refine jl_op (ow_assign rfl ?_) (nb rfl); refine jl_nil ?_; refine jq_then ?_; refine jc_seq ?_; refine jc_seq ?_; refine jc_any rfl rfl (by kernel_rfl) (by kernel_rfl) ?_
      refine any_op (fun c => ow_move rfl ⟨rfl, List.Perm.refl _⟩) ?_; refine any_op (fun c => ow_nilCheck rfl ⟨rfl, List.Perm.refl _⟩) ?_; refine any_op (fun c => ow_fieldAddr rfl rfl rfl (nb rfl) ⟨rfl, List.Perm.refl _⟩) ?_
      refine any_op (fun c => ow_load 0 rfl rfl rfl rfl ⟨rfl, List.Perm.refl _⟩) ?_; refine any_op (fun c => ow_neq rfl rfl ⟨rfl, List.Perm.refl _⟩) ?_; refine any_op (fun c => ow_move rfl ⟨rfl, List.Perm.refl _⟩) ?_
      refine any_guardY rfl rfl (fun c => ow_move rfl ⟨rfl, List.Perm.refl _⟩) ?_; refine any_guardY rfl rfl (fun c => ow_nilCheck rfl ⟨rfl, List.Perm.refl _⟩) ?_
      refine any_guardY rfl rfl (fun c => ow_fieldAddr rfl rfl rfl (nb rfl) ⟨rfl, List.Perm.refl _⟩) ?_; refine any_guardY rfl rfl (fun c => ow_load 0 rfl rfl rfl rfl ⟨rfl, List.Perm.refl _⟩) ?_
      refine any_guardY rfl rfl (fun c => ow_move rfl ⟨rfl, List.Perm.refl _⟩) ?_; refine any_guardY rfl rfl (fun c => ow_nilCheck rfl ⟨rfl, List.Perm.refl _⟩) ?_
      refine any_guardY rfl rfl (fun c => ow_fieldAddr rfl rfl rfl (nb rfl) ⟨rfl, List.Perm.refl _⟩) ?_; refine any_guardY rfl rfl (fun c => ow_load 0 rfl rfl rfl rfl ⟨rfl, List.Perm.refl _⟩) ?_
      refine any_guardY rfl rfl (fun c => ow_len rfl (fun hlen => ⟨rfl, List.Perm.refl _⟩)) ?_; refine any_guardY rfl rfl (fun c => ow_geq rfl rfl ⟨rfl, List.Perm.refl _⟩) ?_
      refine any_op (fun c => ow_pickF rfl rfl rfl ⟨rfl, List.Perm.refl _⟩) ?_; refine any_op (fun c => ow_move rfl ⟨rfl, List.Perm.refl _⟩) ?_
      refine any_guardY rfl (decide_eq_false (by omega)) (fun c => ow_move rfl ⟨rfl, List.Perm.refl _⟩) ?_; refine any_guardY rfl (decide_eq_false (by omega)) (fun c => ow_nilCheck rfl ⟨rfl, List.Perm.refl _⟩) ?_
      refine any_guardY rfl (decide_eq_false (by omega)) (fun c => ow_fieldAddr rfl rfl rfl (nb rfl) ⟨rfl, List.Perm.refl _⟩) ?_
      refine any_guardY rfl (decide_eq_false (by omega)) (fun c => ow_load 0 rfl rfl rfl rfl ⟨rfl, List.Perm.refl _⟩) ?_; refine any_guardY rfl (decide_eq_false (by omega)) (fun c => ow_move rfl ⟨rfl, List.Perm.refl _⟩) ?_
      refine any_guardY rfl (decide_eq_false (by omega)) (fun c => ow_nilCheck rfl ⟨rfl, List.Perm.refl _⟩) ?_
      refine any_guardY rfl (decide_eq_false (by omega)) (fun c => ow_fieldAddr rfl rfl rfl (nb rfl) ⟨rfl, List.Perm.refl _⟩) ?_
      refine any_guardY rfl (decide_eq_false (by omega)) (fun c => ow_load 0 rfl rfl rfl rfl ⟨rfl, List.Perm.refl _⟩) ?_
      refine any_guardY rfl (decide_eq_false (by omega)) (fun c => ow_indexAddrMapE rfl rfl (by omega) rfl rfl (nb rfl) ⟨rfl, List.Perm.refl _⟩) ?_
      refine any_guardY rfl (decide_eq_false (by omega)) (fun c => ow_fieldAddrPlace rfl rfl rfl (nb rfl) rfl (nb rfl) ⟨rfl, List.Perm.refl _⟩) ?_
      refine any_guardY rfl (decide_eq_false (by omega)) (fun c => ow_loadPlace rfl rfl ⟨rfl, List.Perm.refl _⟩) ?_; refine any_guardY rfl (decide_eq_false (by omega)) (fun c => ow_neq rfl rfl ⟨rfl, List.Perm.refl _⟩) ?_
      refine any_op (fun c => ow_pickF rfl (decide_eq_false (by omega)) rfl ⟨rfl, List.Perm.refl _⟩) ?_; refine any_nil ?_; refine jq_then ?_; refine jc_condT rfl (decide_eq_true (by assumption)) ?_; refine jc_seq ?_
      refine jc_region ?_; refine jl_op (ow_assign rfl ?_) (nb rfl); refine jl_nil ?_; refine jq_then ?_; refine jc_ret ?_; refine jq_then_ret ?_; refine jq_ret1 rfl rfl [0] rfl (fun K h => by rw [e2] at h; exact h)
  · have e2 : opV l (opsL k) a = 0 := by unfold opV; rw [opAt_end hlt]; rfl
    have hge : (a : Int) ≥ l.length := by omega
    refine jc_seq ?_; refine jc_region ?_; refine jl_op (ow_assign rfl ?_) (nb rfl); refine jl_nil ?_; refine jq_then ?_; refine jc_seq ?_; refine jc_seq ?_; refine jc_any rfl rfl (by kernel_rfl) (by kernel_rfl) ?_
    refine any_op (fun c => ow_move rfl ⟨rfl, List.Perm.refl _⟩) ?_; refine any_op (fun c => ow_nilCheck rfl ⟨rfl, List.Perm.refl _⟩) ?_; refine any_op (fun c => ow_fieldAddr rfl rfl rfl (nb rfl) ⟨rfl, List.Perm.refl _⟩) ?_
    refine any_op (fun c => ow_load 0 rfl rfl rfl rfl ⟨rfl, List.Perm.refl _⟩) ?_; refine any_op (fun c => ow_neq rfl rfl ⟨rfl, List.Perm.refl _⟩) ?_; refine any_op (fun c => ow_move rfl ⟨rfl, List.Perm.refl _⟩) ?_
    refine any_guardY rfl rfl (fun c => ow_move rfl ⟨rfl, List.Perm.refl _⟩) ?_; refine any_guardY rfl rfl (fun c => ow_nilCheck rfl ⟨rfl, List.Perm.refl _⟩) ?_
    refine any_guardY rfl rfl (fun c => ow_fieldAddr rfl rfl rfl (nb rfl) ⟨rfl, List.Perm.refl _⟩) ?_; refine any_guardY rfl rfl (fun c => ow_load 0 rfl rfl rfl rfl ⟨rfl, List.Perm.refl _⟩) ?_
    refine any_guardY rfl rfl (fun c => ow_move rfl ⟨rfl, List.Perm.refl _⟩) ?_; refine any_guardY rfl rfl (fun c => ow_nilCheck rfl ⟨rfl, List.Perm.refl _⟩) ?_
    refine any_guardY rfl rfl (fun c => ow_fieldAddr rfl rfl rfl (nb rfl) ⟨rfl, List.Perm.refl _⟩) ?_; refine any_guardY rfl rfl (fun c => ow_load 0 rfl rfl rfl rfl ⟨rfl, List.Perm.refl _⟩) ?_
    refine any_guardY rfl rfl (fun c => ow_len rfl (fun hlen => ⟨rfl, List.Perm.refl _⟩)) ?_; refine any_guardY rfl rfl (fun c => ow_geq rfl rfl ⟨rfl, List.Perm.refl _⟩) ?_
    refine any_op (fun c => ow_pickF rfl rfl rfl ⟨rfl, List.Perm.refl _⟩) ?_; refine any_op (fun c => ow_move rfl ⟨rfl, List.Perm.refl _⟩) ?_; refine any_guardN rfl (decide_eq_true (by omega)) ?_
    refine any_guardN rfl (decide_eq_true (by omega)) ?_; refine any_guardN rfl (decide_eq_true (by omega)) ?_; refine any_guardN rfl (decide_eq_true (by omega)) ?_; refine any_guardN rfl (decide_eq_true (by omega)) ?_
    refine any_guardN rfl (decide_eq_true (by omega)) ?_; refine any_guardN rfl (decide_eq_true (by omega)) ?_; refine any_guardN rfl (decide_eq_true (by omega)) ?_; refine any_guardN rfl (decide_eq_true (by omega)) ?_
    refine any_guardN rfl (decide_eq_true (by omega)) ?_; refine any_guardN rfl (decide_eq_true (by omega)) ?_; refine any_guardN rfl (decide_eq_true (by omega)) ?_
    refine any_op (fun c => ow_pickT rfl (decide_eq_true (by omega)) rfl ⟨rfl, List.Perm.refl _⟩) ?_; refine any_nil ?_; refine jq_then ?_; refine jc_condT rfl rfl ?_; refine jc_seq ?_; refine jc_region ?_
    refine jl_op (ow_assign rfl ?_) (nb rfl); refine jl_nil ?_; refine jq_then ?_; refine jc_ret ?_; refine jq_then_ret ?_; refine jq_ret1 rfl rfl [0] rfl (fun K h => by rw [e2] at h; exact h)
theorem rnext_none (ha : a ≤ l.length) {k : Nat} (h : opAt l (opsL k) a = none) : Con Tryd.prog 83 [Ptr b, .cell (.list ((opsL k).map Wrow)), .cell (.list ((opnL k).map Irow))] [Rz b l a ln 0 fr] (fun K => K (In .i64 0) [Rz b l a ln 0 fr]) := by
  have := rnext_c (b := b) (ln := ln) (fr := fr) ha k
  rw [opV, h] at this
  exact this
theorem rnext_some (ha : a ≤ l.length) {k : Nat} {o : Int} (h : opAt l (opsL k) a = some o) : Con Tryd.prog 83 [Ptr b, .cell (.list ((opsL k).map Wrow)), .cell (.list ((opnL k).map Irow))] [Rz b l a ln 0 fr] (fun K => K (In .i64 o) [Rz b l a ln 0 fr]) := by
  have := rnext_c (b := b) (ln := ln) (fr := fr) ha k
  rw [opV, h] at this
  exact this
end
end Go.Proofs.YtamajcgdfjeehaaDoor
end
