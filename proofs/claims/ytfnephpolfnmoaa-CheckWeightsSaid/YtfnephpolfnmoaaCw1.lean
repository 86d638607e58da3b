import Derived.Test.YtfnephpolfnmoaaTy
namespace Go.Proofs.Ytfnephpolfnmoaa
open Go.Vc
attribute [local irreducible] JL JC JQ OpWp Con ConN

/-! The data -/
inductive Ex where
  | mk (kind num : Int) (name : ByteArray) (op : Int) (args : List Ex)

mutual
def Ex.row : Ex → List C
  | ⟨k, n, s, o, xs⟩ => [.val (.int .i64 k), .val (.int .i64 n), .val (.string s), .val (.int .i64 o), .list (Ex.rows xs)]
def Ex.rows : List Ex → List (List C)
  | [] => []
  | e :: r => e.row :: Ex.rows r
end
theorem Ex.rows_map : ∀ l : List Ex, Ex.rows l = l.map Ex.row
  | [] => rfl
  | e :: r => by simp [Ex.rows, Ex.rows_map r]
def Ex.args : Ex → List Ex | ⟨_, _, _, _, xs⟩ => xs
def Ex.kind : Ex → Int | ⟨k, _, _, _, _⟩ => k
def Ex.num : Ex → Int | ⟨_, n, _, _, _⟩ => n
def Ex.name : Ex → ByteArray | ⟨_, _, s, _, _⟩ => s
def Ex.op : Ex → Int | ⟨_, _, _, o, _⟩ => o
abbrev Ex.row' (e : Ex) : List C := [.val (.int .i64 e.kind), .val (.int .i64 e.num), .val (.string e.name), .val (.int .i64 e.op), .list (e.args.map Ex.row)]
theorem Ex.row_eq (e : Ex) : e.row = e.row' := by
  cases e; simp [Ex.row, Ex.rows_map, Ex.kind, Ex.num, Ex.name, Ex.op, Ex.args]

/-! check -/
theorem limited_c (n : Int) : Con Try.prog 20 [In .i64 n] [] (fun K => K (In .i64 (min n 1099511627776)) []) := by
  refine con_intro Try.func20 rfl rfl (Nat.le_of_ble_eq_true rfl) (fun c hc => ?_)
  refine jc_seq ?_
  refine jc_region ?_
  refine jl_op ?_ (nb rfl)
  refine ow_assign rfl ?_
  refine jl_nil ?_
  refine jq_then ?_
  refine jc_seq ?_
  refine jc_region ?_
  refine jl_op ?_ (nb rfl)
  refine ow_move rfl ?_
  refine jl_op ?_ (nb rfl)
  refine ow_min2 rfl rfl ?_
  refine jl_op ?_ (nb rfl)
  refine ow_assign rfl ?_
  refine jl_nil ?_
  refine jq_then ?_
  refine jc_ret ?_
  refine jq_ret1 rfl rfl [] rfl (fun K h => h)

/-- The weight of an expression. -/
def lim (n : Int) : Int := min n 1099511627776
mutual
def wParts : Ex → Nat → Int
  | ⟨_, _, _, _, xs⟩, fuel => match fuel with
    | 0 => 1099511627776
    | f + 1 => wPartsL xs f 1
def wPartsL : List Ex → Nat → Int → Int
  | [], _, n => n
  | e :: r, f, n => wPartsL r f (lim (n + wParts e f))
end
theorem wParts_zero (e : Ex) : wParts e 0 = 1099511627776 := by cases e; simp [wParts]
theorem wParts_succ (e : Ex) (f : Nat) : wParts e (f + 1) = wPartsL e.args f 1 := by cases e; simp [wParts, Ex.args]

theorem lim_bd (n : Int) (h : 0 ≤ n) : 0 ≤ lim n ∧ lim n ≤ 1099511627776 := by unfold lim; omega
theorem wPartsL_bd (f : Nat) (hf : ∀ e, 0 ≤ wParts e f ∧ wParts e f ≤ 1099511627776) : ∀ (l : List Ex) (n : Int), 0 ≤ n ∧ n ≤ 1099511627776 → 0 ≤ wPartsL l f n ∧ wPartsL l f n ≤ 1099511627776
  | [], n, h => by simpa [wPartsL] using h
  | e :: r, n, h => by
    rw [wPartsL]
    exact wPartsL_bd f hf r _ (lim_bd _ (by have := hf e; omega))
theorem wParts_bd : ∀ (f : Nat) (e : Ex), 0 ≤ wParts e f ∧ wParts e f ≤ 1099511627776
  | 0, e => by rw [wParts_zero]; omega
  | f + 1, e => by rw [wParts_succ]; exact wPartsL_bd f (wParts_bd f) _ _ (by omega)
theorem wPartsL_snoc (f : Nat) (e : Ex) : ∀ (l : List Ex) (n : Int), wPartsL (l ++ [e]) f n = lim (wPartsL l f n + wParts e f)
  | [], n => by simp [wPartsL]
  | a :: l, n => by simp [wPartsL, wPartsL_snoc f e l]
theorem wPartsL_take (f : Nat) (l : List Ex) (n : Int) (k : Nat) (h : k < l.length) : wPartsL (l.take (k + 1)) f n = lim (wPartsL (l.take k) f n + wParts l[k] f) := by
  rw [List.take_succ_eq_append_getElem h, wPartsL_snoc]

theorem parts_c : ∀ (fuel : Nat) (e : Ex) (depth : Int), 0 ≤ depth → depth + fuel = 21 → Con Try.prog 30 [.row e.row', In .i64 depth] [] (fun K => K (In .i64 (wParts e fuel)) []) := by
  intro fuel
  induction fuel with
  | zero =>
    intro e depth h0 h1
    refine con_intro Try.func30 rfl rfl (Nat.le_of_ble_eq_true rfl) (fun c hc => ?_)
    refine jc_seq ?_
    refine jc_region ?_
    refine jl_op ?_ (nb rfl)
    refine ow_box rfl (fun bx => ?_)
    refine jl_op ?_ (nb rfl)
    refine ow_assign rfl ?_
    refine jl_nil ?_
    refine jq_then ?_
    refine jc_seq ?_
    refine jc_seq ?_
    refine jc_region ?_
    refine jl_op ?_ (nb rfl)
    refine ow_move rfl ?_
    refine jl_op ?_ (nb rfl)
    refine ow_gtr rfl rfl ?_
    refine jl_nil ?_
    refine jq_then ?_
    refine jc_condd rfl (fun h => ?_) (fun h => absurd (show 20 < depth by omega) h)
    refine jc_seq ?_
    refine jc_region ?_
    refine jl_op ?_ (nb rfl)
    refine ow_assign rfl ?_
    refine jl_nil ?_
    refine jq_then ?_
    refine jc_ret ?_
    refine jq_then_ret ?_
    refine jq_ret1 rfl rfl [] rfl (fun K h => by rw [wParts_zero] at h; exact h)
  | succ f ih =>
    intro e depth h0 h1
    refine con_intro Try.func30 rfl rfl (Nat.le_of_ble_eq_true rfl) (fun c hc => ?_)
    refine jc_seq ?_
    refine jc_region ?_
    refine jl_op ?_ (nb rfl)
    refine ow_box rfl (fun bx => ?_)
    refine jl_op ?_ (nb rfl)
    refine ow_assign rfl ?_
    refine jl_nil ?_
    refine jq_then ?_
    refine jc_seq ?_
    refine jc_seq ?_
    refine jc_region ?_
    refine jl_op ?_ (nb rfl)
    refine ow_move rfl ?_
    refine jl_op ?_ (nb rfl)
    refine ow_gtr rfl rfl ?_
    refine jl_nil ?_
    refine jq_then ?_
    refine jc_condd rfl (fun h => by omega) (fun h => ?_)
    refine jc_skip ?_
    refine jq_then ?_
    refine jc_seq ?_
    refine jc_region ?_
    refine jl_op ?_ (nb rfl)
    refine ow_assign rfl ?_
    refine jl_nil ?_
    refine jq_then ?_
    refine jc_seq ?_
    refine jc_seq ?_
    refine jc_region ?_
    refine jl_op ?_ (nb rfl)
    refine ow_fieldAddr rfl rfl rfl (nb rfl) ?_
    refine jl_op ?_ (nb rfl)
    refine ow_load 0 rfl rfl rfl rfl ?_
    refine jl_op ?_ (nb rfl)
    refine ow_len rfl (fun hlen => ?_)
    refine jl_op ?_ (nb rfl)
    refine ow_move rfl ?_
    refine jl_nil ?_
    refine jq_then ?_
    refine jc_block ?_
    have hmax : e.args.length ≤ 9223372036854775807 := by simpa using hlen
    refine jc_loop [1, 2, 11, 12] (fun k => k ≤ e.args.length) (fun k => [(5, In .i64 (wPartsL (e.args.take k) f 1)), (13, In .i64 (k : Int))]) (fun _ => []) (fun k => e.args.length - k) 0 [] (Nat.zero_le _) rfl ?_ ?_
    · (repeat (first | exact True.intro | refine ⟨rfl, ?_⟩))
    · intro k hk
      refine jc_seq ?_
      refine jc_region ?_
      refine jl_op ?_ (nb rfl)
      refine ow_lss rfl rfl ?_
      refine jl_nil ?_
      refine jq_then ?_
      refine jc_seq ?_
      refine jc_condd rfl (fun hlt => ?_) (fun hge => ?_)
      · simp only [List.length_map, Int.ofNat_lt] at hlt
        refine jc_skip ?_
        refine jq_then ?_
        refine jc_seq ?_
        refine jc_block ?_
        refine jc_seq ?_
        refine jc_region ?_
        refine jl_op ?_ (nb rfl)
        refine ow_indexAddrMapE rfl rfl (by omega) (Ex.row_eq _) rfl (nb rfl) ?_
        refine jl_op ?_ (nb rfl)
        refine ow_loadPlaceN rfl rfl rfl ?_
        refine jl_op ?_ (nb rfl)
        refine ow_alloc rfl rfl (fun bl => ?_)
        refine jl_op0 ?_
        refine ow_storeAll 0 rfl rfl rfl rfl rfl rfl ?_
        refine jl_nil ?_
        refine jq_then ?_
        refine jc_region ?_
        refine jl_op ?_ (nb rfl)
        refine ow_move rfl ?_
        refine jl_op ?_ (nb rfl)
        refine ow_loadAll 0 rfl rfl rfl rfl ?_
        refine jl_op ?_ (nb rfl)
        refine ow_move rfl ?_
        refine jl_op ?_ (nb rfl)
        refine ow_add64 rfl rfl (by omega) ?_
        refine jl_op ?_ (Nat.le_of_ble_eq_true rfl)
        refine ow_call0 rfl (ih _ _ (by omega) (by omega)) ?_
        have b1 := wParts_bd f e.args[k]
        have b2 := wPartsL_bd f (wParts_bd f) (e.args.take k) 1 (by omega)
        refine jl_op ?_ (nb rfl)
        refine ow_add64 rfl rfl (by omega) ?_
        refine jl_op (ow_call0 rfl (limited_c _) ?_) (Nat.le_of_ble_eq_true rfl)
        refine jl_op ?_ (nb rfl)
        refine ow_assign rfl ?_
        refine jl_nil ?_
        refine jq_block ?_
        refine jq_then ?_
        refine jc_region ?_
        refine jl_op ?_ (nb rfl)
        refine ow_add64 rfl rfl (by omega) ?_
        refine jl_op ?_ (nb rfl)
        refine ow_move rfl ?_
        refine jl_nil ?_
        refine jq_again (k + 1) [] hlt (by omega) rfl ?_
        · rw [wPartsL_take f e.args 1 k hlt]
          (repeat (first | exact True.intro | refine ⟨rfl, ?_⟩))
      · simp only [List.length_map, Int.ofNat_lt] at hge
        refine jc_exit ?_
        refine jq_then_exit ?_
        refine jq_then_exit ?_
        refine jq_block_exit ?_
        refine jq_then ?_
        refine jc_seq ?_
        refine jc_region ?_
        refine jl_op ?_ (nb rfl)
        refine ow_move rfl ?_
        refine jl_op ?_ (nb rfl)
        refine ow_assign rfl ?_
        refine jl_nil ?_
        refine jq_then ?_
        refine jc_ret ?_
        refine jq_ret1 rfl rfl [] rfl (fun K h => by rw [wParts_succ, ← List.take_of_length_le (Nat.le_of_not_lt hge)] at h; exact h)
end Go.Proofs.Ytfnephpolfnmoaa
