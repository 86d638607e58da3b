import Derived.Test.YtfnephpolfnmoaaCw1
namespace Go.Proofs.Ytfnephpolfnmoaa
open Go.Vc
attribute [local irreducible] JL JC JQ OpWp Con ConN

theorem exprs_c (l : List Ex) : Con Try.prog 26 [.cell (.list (l.map Ex.row))] [] (fun K => K (In .i64 (wPartsL l 20 0)) []) := by
  refine con_intro Try.func26 rfl rfl (Nat.le_of_ble_eq_true rfl) (fun c hc => ?_)
  refine jc_seq ?_
  refine jc_region ?_
  refine jl_op ?_ (nb rfl)
  refine ow_assign rfl ?_
  refine jl_nil ?_
  refine jq_then ?_
  refine jc_seq ?_
  refine jc_region ?_
  refine jl_op ?_ (nb rfl)
  refine ow_assign rfl ?_
  refine jl_nil ?_
  refine jq_then ?_
  refine jc_seq ?_
  refine jc_seq ?_
  refine jc_region ?_
  refine jl_op ?_ (nb rfl)
  refine ow_move rfl ?_
  refine jl_op ?_ (nb rfl)
  refine ow_len rfl (fun hlen => ?_)
  refine jl_op ?_ (nb rfl)
  refine ow_move rfl ?_
  refine jl_nil ?_
  refine jq_then ?_
  refine jc_block ?_
  have hmax : l.length ≤ 9223372036854775807 := by simpa using hlen
  refine jc_loop [6, 7] (fun k => k ≤ l.length) (fun k => [(3, In .i64 (wPartsL (l.take k) 20 0)), (8, In .i64 (k : Int))]) (fun _ => []) (fun k => l.length - k) 0 [] (Nat.zero_le _) rfl ?_ ?_
  · (repeat (first | exact True.intro | refine ⟨rfl, ?_⟩))
  · intro k hk
    refine jc_seq ?_
    refine jc_region ?_
    refine jl_op ?_ (nb rfl)
    refine ow_lss rfl rfl ?_
    refine jl_nil ?_
    refine jq_then ?_
    refine jc_seq ?_
    refine jc_condd rfl (fun hlt => ?_) (fun hge => ?_)
    · simp only [List.length_map, Int.ofNat_lt] at hlt
      refine jc_skip ?_
      refine jq_then ?_
      refine jc_seq ?_
      refine jc_block ?_
      refine jc_seq ?_
      refine jc_region ?_
      refine jl_op ?_ (nb rfl)
      refine ow_indexAddrMapE rfl rfl (by omega) (Ex.row_eq _) rfl (nb rfl) ?_
      refine jl_op ?_ (nb rfl)
      refine ow_loadPlaceN rfl rfl rfl ?_
      refine jl_op ?_ (nb rfl)
      refine ow_alloc rfl rfl (fun bl => ?_)
      refine jl_op0 ?_
      refine ow_storeAll 0 rfl rfl rfl rfl rfl rfl ?_
      refine jl_nil ?_
      refine jq_then ?_
      refine jc_region ?_
      refine jl_op ?_ (nb rfl)
      refine ow_move rfl ?_
      refine jl_op ?_ (nb rfl)
      refine ow_loadAll 0 rfl rfl rfl rfl ?_
      refine jl_op (ow_call0 rfl (parts_c 20 _ _ (by omega) (by omega)) ?_) (Nat.le_of_ble_eq_true rfl)
      have b1 := wParts_bd 20 l[k]
      have b2 := wPartsL_bd 20 (wParts_bd 20) (l.take k) 0 (by omega)
      refine jl_op ?_ (nb rfl)
      refine ow_add64 rfl rfl (by omega) ?_
      refine jl_op (ow_call0 rfl (limited_c _) ?_) (Nat.le_of_ble_eq_true rfl)
      refine jl_op ?_ (nb rfl)
      refine ow_assign rfl ?_
      refine jl_nil ?_
      refine jq_block ?_
      refine jq_then ?_
      refine jc_region ?_
      refine jl_op ?_ (nb rfl)
      refine ow_add64 rfl rfl (by omega) ?_
      refine jl_op ?_ (nb rfl)
      refine ow_move rfl ?_
      refine jl_nil ?_
      refine jq_again (k + 1) [] hlt (by omega) rfl ?_
      · rw [wPartsL_take 20 l 0 k hlt]
        (repeat (first | exact True.intro | refine ⟨rfl, ?_⟩))
    · simp only [List.length_map, Int.ofNat_lt] at hge
      refine jc_exit ?_
      refine jq_then_exit ?_
      refine jq_then_exit ?_
      refine jq_block_exit ?_
      refine jq_then ?_
      refine jc_seq ?_
      refine jc_region ?_
      refine jl_op ?_ (nb rfl)
      refine ow_move rfl ?_
      refine jl_op ?_ (nb rfl)
      refine ow_assign rfl ?_
      refine jl_nil ?_
      refine jq_then ?_
      refine jc_ret ?_
      refine jq_ret1 rfl rfl [] rfl (fun K h => by rw [← List.take_of_length_le (Nat.le_of_not_lt hge)] at h; exact h)

/-! Statements -/
inductive Sm where
  | mk (kind : Int) (name : ByteArray) (index value : List Ex) (max label : Int) (thn els : List Sm)
mutual
def Sm.row : Sm → List C
  | ⟨k, n, i, v, m, l, t, e⟩ => [.val (.int .i64 k), .val (.string n), .list (i.map Ex.row), .list (v.map Ex.row), .val (.int .i64 m), .val (.int .i64 l), .list (Sm.rows t), .list (Sm.rows e)]
def Sm.rows : List Sm → List (List C)
  | [] => []
  | s :: r => s.row :: Sm.rows r
end
theorem Sm.rows_map : ∀ l : List Sm, Sm.rows l = l.map Sm.row
  | [] => rfl
  | e :: r => by simp [Sm.rows, Sm.rows_map r]
def Sm.kind : Sm → Int | ⟨k, _, _, _, _, _, _, _⟩ => k
def Sm.name : Sm → ByteArray | ⟨_, n, _, _, _, _, _, _⟩ => n
def Sm.index : Sm → List Ex | ⟨_, _, i, _, _, _, _, _⟩ => i
def Sm.value : Sm → List Ex | ⟨_, _, _, v, _, _, _, _⟩ => v
def Sm.max : Sm → Int | ⟨_, _, _, _, m, _, _, _⟩ => m
def Sm.label : Sm → Int | ⟨_, _, _, _, _, l, _, _⟩ => l
def Sm.thn : Sm → List Sm | ⟨_, _, _, _, _, _, t, _⟩ => t
def Sm.els : Sm → List Sm | ⟨_, _, _, _, _, _, _, e⟩ => e
abbrev Sm.row' (s : Sm) : List C := [.val (.int .i64 s.kind), .val (.string s.name), .list (s.index.map Ex.row), .list (s.value.map Ex.row), .val (.int .i64 s.max), .val (.int .i64 s.label), .list (s.thn.map Sm.row), .list (s.els.map Sm.row)]
theorem Sm.row_eq (s : Sm) : s.row = s.row' := by
  cases s; simp [Sm.row, Sm.rows_map, Sm.kind, Sm.name, Sm.index, Sm.value, Sm.max, Sm.label, Sm.thn, Sm.els]

mutual
/-- The weight of a statement; of the depths, 'fuel' are left. -/
def wOne : Nat → Sm → Int
  | 0, _ => 1099511627776
  | f + 1, s =>
    if s.kind = 1 ∨ s.kind = 2 then lim (1 + wPartsL s.index 20 0 + wPartsL s.value 20 0)
    else if s.kind = 3 then lim (2 + wPartsL s.value 20 0 + wAll f s.thn 0 + wAll f s.els 0)
    else if s.kind = 4 then lim (2 + (Max.max 0 (min s.max 33) + 1) * lim (2 + wPartsL s.value 20 0 + wAll f s.thn 0))
    else if s.kind = 5 then lim (2 + wAll f s.thn 0)
    else 0
def wAll : Nat → List Sm → Int → Int
  | _, [], n => n
  | f, s :: r, n => wAll f r (lim (n + wOne f s))
end
end Go.Proofs.Ytfnephpolfnmoaa
