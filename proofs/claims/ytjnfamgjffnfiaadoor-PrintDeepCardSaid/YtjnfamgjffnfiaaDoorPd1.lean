import Derived.Test.YtjnfamgjffnfiaaDoorProg
import Derived.Test.YtjnfamgjffnfiaaDoorTy
import Derived.Test.YtjnfamgjffnfiaaDoorVcp
namespace Go.Proofs.YtjnfamgjffnfiaaDoor
open Go.Vc
attribute [local irreducible] JL JC JQ OpWp Con ConN
set_option maxHeartbeats 4000000

/-! Expressions: trees of numbers, names, indices and operators -/
inductive T where
  | nu (n : Int)
  | nm (s : ByteArray)
  | ix (s : ByteArray) (t : T)
  | bn (o : Int) (a b : T)
def T.kind : T → Int
  | .nu _ => 1
  | .nm _ => 2
  | .ix _ _ => 3
  | .bn _ _ _ => 4
def T.num : T → Int
  | .nu n => n
  | _ => 0
def T.name : T → ByteArray
  | .nm s => s
  | .ix s _ => s
  | _ => ⟨#[]⟩
def T.op : T → Int
  | .bn o _ _ => o
  | _ => 0
def T.args : T → List T
  | .ix _ t => [t]
  | .bn _ a b => [a, b]
  | _ => []
def T.row : T → List C
  | .nu n => [.val (.int .i64 1), .val (.int .i64 n), .val (.string ⟨#[]⟩), .val (.int .i64 0), .list []]
  | .nm s => [.val (.int .i64 2), .val (.int .i64 0), .val (.string s), .val (.int .i64 0), .list []]
  | .ix s t => [.val (.int .i64 3), .val (.int .i64 0), .val (.string s), .val (.int .i64 0), .list [t.row]]
  | .bn o a b => [.val (.int .i64 4), .val (.int .i64 0), .val (.string ⟨#[]⟩), .val (.int .i64 o), .list [a.row, b.row]]
abbrev T.row' (t : T) : List C := [.val (.int .i64 t.kind), .val (.int .i64 t.num), .val (.string t.name), .val (.int .i64 t.op), .list (t.args.map T.row)]
theorem T.row_eq (t : T) : t.row = t.row' := by cases t <;> rfl
def T.dep : T → Nat
  | .nu _ => 1
  | .nm _ => 1
  | .ix _ t => t.dep + 1
  | .bn _ a b => max a.dep b.dep + 1
theorem T.dep_args (t : T) : t.dep = (t.args.map T.dep).foldl max 0 + 1 := by cases t <;> simp [T.dep, T.args]
/-- The greatest of the first depths, each at most one more than a limit. -/
def mx (f : T → Nat) (l : List T) : Nat := l.foldl (fun m t => max m (f t)) 0
theorem mx_snoc (f : T → Nat) (l : List T) (t : T) : mx f (l ++ [t]) = max (mx f l) (f t) := by simp [mx]
def dl : Nat → T → Nat
  | 0, _ => 1
  | L + 1, t => mx (dl L) t.args + 1
theorem dl_eq : ∀ (L : Nat) (t : T), dl L t = min t.dep (L + 1)
  | 0, t => by have : 1 ≤ t.dep := by rw [T.dep_args]; omega
               simp only [dl]; omega
  | L + 1, t => by
    have h := dl_eq L
    cases t <;> simp only [dl, T.args, mx, List.foldl_nil, List.foldl_cons, T.dep, h] <;> omega
theorem dl_le (L : Nat) (t : T) : dl L t ≤ L + 1 := by rw [dl_eq]; omega
theorem mx_le {f : T → Nat} {B : Nat} (h : ∀ t, f t ≤ B) : ∀ l : List T, mx f l ≤ B := by
  intro l
  unfold mx
  have : ∀ (l : List T) (m : Nat), m ≤ B → l.foldl (fun m t => max m (f t)) m ≤ B := by
    intro l
    induction l with
    | nil => intro m hm; exact hm
    | cons t l ih => intro m hm; exact ih _ (by have := h t; show max m (f t) ≤ B; omega)
  exact this l 0 (Nat.zero_le _)
theorem Depth_c : ∀ (L : Nat) (t : T), L ≤ 1000 → Con Tryd.prog 10 [.row t.row', In .i64 (L : Int)] [] (fun K => K (In .i64 (dl L t : Int)) []) := by
  intro L
  induction L with
  | zero =>
    intro t _
    refine con_intro Tryd.func10 rfl rfl (Nat.le_of_ble_eq_true rfl) (fun c hc => ?_)
    refine jc_seq ?_
    refine jc_region ?_
    refine jl_op ?_ (nb rfl)
    refine ow_box rfl (fun bx => ?_)
    refine jl_op ?_ (nb rfl)
    refine ow_assign rfl ?_
    refine jl_nil ?_
    refine jq_then ?_
    refine jc_seq ?_
    refine jc_region ?_
    refine jl_op ?_ (nb rfl)
    refine ow_assign rfl ?_
    refine jl_nil ?_
    refine jq_then ?_
    refine jc_seq ?_
    refine jc_seq ?_
    refine jc_region ?_
    refine jl_op ?_ (nb rfl)
    refine ow_move rfl ?_
    refine jl_op ?_ (nb rfl)
    refine ow_gtr rfl rfl ?_
    refine jl_nil ?_
    refine jq_then ?_
    refine jc_condd rfl (fun h => by omega) (fun _ => ?_)
    refine jc_skip ?_
    refine jq_then ?_
    refine jc_seq ?_
    refine jc_region ?_
    refine jl_op ?_ (nb rfl)
    refine ow_move rfl ?_
    refine jl_op ?_ (nb rfl)
    refine ow_add64 rfl rfl (by omega) ?_
    refine jl_op ?_ (nb rfl)
    refine ow_assign rfl ?_
    refine jl_nil ?_
    refine jq_then ?_
    refine jc_ret ?_
    refine jq_ret1 rfl rfl [] rfl (fun K h => h)
  | succ L ih =>
    intro t hL
    have eA : (t.args.map T.row).length = t.args.length := List.length_map _
    refine con_intro Tryd.func10 rfl rfl (Nat.le_of_ble_eq_true rfl) (fun c hc => ?_)
    refine jc_seq ?_
    refine jc_region ?_
    refine jl_op ?_ (nb rfl)
    refine ow_box rfl (fun bx => ?_)
    refine jl_op ?_ (nb rfl)
    refine ow_assign rfl ?_
    refine jl_nil ?_
    refine jq_then ?_
    refine jc_seq ?_
    refine jc_region ?_
    refine jl_op ?_ (nb rfl)
    refine ow_assign rfl ?_
    refine jl_nil ?_
    refine jq_then ?_
    refine jc_seq ?_
    refine jc_seq ?_
    refine jc_region ?_
    refine jl_op ?_ (nb rfl)
    refine ow_move rfl ?_
    refine jl_op ?_ (nb rfl)
    refine ow_gtr rfl rfl ?_
    refine jl_nil ?_
    refine jq_then ?_
    refine jc_condd rfl (fun _ => ?_) (fun h => by omega)
    refine jc_seq ?_
    refine jc_region ?_
    refine jl_op ?_ (nb rfl)
    refine ow_fieldAddr rfl rfl rfl (nb rfl) ?_
    refine jl_op ?_ (nb rfl)
    refine ow_load 0 rfl rfl rfl rfl ?_
    refine jl_op ?_ (nb rfl)
    refine ow_len rfl (fun hlen => ?_)
    refine jl_op ?_ (nb rfl)
    refine ow_move rfl ?_
    refine jl_nil ?_
    refine jq_then ?_
    refine jc_block ?_
    refine jc_loopS (ι := Nat) [] (fun k => k ≤ t.args.length) (fun k => [(1, In .i64 ((L + 1 : Nat) : Int)), (5, In .i64 (mx (dl L) (t.args.take k) : Int)), (11, .cell (.list (t.args.map T.row))), (12, In .i64 ((t.args.map T.row).length : Int)), (13, In .i64 (k : Int))]) (fun _ => []) (fun k => t.args.length - k) 0 (Nat.zero_le _) ?_ ?_ ?_
    · exact sub_end
    · (repeat (first | exact True.intro | refine ⟨rfl, ?_⟩))
    · intro k hk
      refine jc_reset [(1, In .i64 ((L + 1 : Nat) : Int)), (5, In .i64 (mx (dl L) (t.args.take k) : Int)), (11, .cell (.list (t.args.map T.row))), (12, In .i64 ((t.args.map T.row).length : Int)), (13, In .i64 (k : Int))] [] ?_ ⟨[], [], rfl⟩ ?_
      · (repeat (first | exact True.intro | refine ⟨rfl, ?_⟩))
      refine jc_seq ?_
      refine jc_region ?_
      refine jl_op ?_ (nb rfl)
      refine ow_lss rfl rfl ?_
      refine jl_nil ?_
      refine jq_then ?_
      refine jc_seq ?_
      refine jc_condd rfl (fun hlt => ?_) (fun hge => ?_)
      · have hlt' : k < t.args.length := by omega
        have hI : Con Tryd.prog 10 [.row (t.args[k]).row', In .i64 (((L + 1 : Nat) : Int) - 1)] [] (fun K => K (In .i64 (dl L t.args[k] : Int)) []) := by
          rw [show (((L + 1 : Nat) : Int) - 1) = (L : Int) by omega]
          exact ih _ (by omega)
        refine jc_skip ?_
        refine jq_then ?_
        refine jc_seq ?_
        refine jc_block ?_
        refine jc_seq ?_
        refine jc_region ?_
        refine jl_op ?_ (nb rfl)
        refine ow_indexAddrMapE rfl rfl (by omega) (T.row_eq _) rfl (nb rfl) ?_
        refine jl_op ?_ (nb rfl)
        refine ow_loadPlaceN rfl rfl rfl ?_
        refine jl_op ?_ (nb rfl)
        refine ow_alloc rfl rfl (fun bl => ?_)
        refine jl_op0 ?_
        refine ow_storeAll 0 rfl rfl rfl rfl rfl rfl ?_
        refine jl_nil ?_
        refine jq_then ?_
        refine jc_region ?_
        refine jl_op ?_ (nb rfl)
        refine ow_move rfl ?_
        refine jl_op ?_ (nb rfl)
        refine ow_loadAll 0 rfl rfl rfl rfl ?_
        refine jl_op ?_ (nb rfl)
        refine ow_move rfl ?_
        refine jl_op ?_ (nb rfl)
        refine ow_sub64 rfl rfl (by omega) ?_
        refine jl_op ?_ (nb rfl)
        refine ow_call0 rfl (hI) ?_
        refine jl_op ?_ (nb rfl)
        refine ow_max2 rfl rfl ?_
        refine jl_op ?_ (nb rfl)
        refine ow_assign rfl ?_
        refine jl_nil ?_
        refine jq_block ?_
        refine jq_then ?_
        refine jc_region ?_
        refine jl_op ?_ (nb rfl)
        refine ow_add64 rfl rfl (by omega) ?_
        refine jl_op ?_ (nb rfl)
        refine ow_move rfl ?_
        refine jl_nil ?_
        refine jq_againS (k + 1) (by omega) (by omega) ?_ ?_
        · exact sub_end
        · rw [List.take_succ_eq_append_getElem hlt', mx_snoc, show ((max (mx (dl L) (t.args.take k)) (dl L t.args[k]) : Nat) : Int) = max (mx (dl L) (t.args.take k) : Int) (dl L t.args[k] : Int) by omega]
          (repeat (first | exact True.intro | refine ⟨rfl, ?_⟩))
      · obtain rfl : k = t.args.length := by omega
        have hm := mx_le (dl_le L) t.args
        rw [List.take_length]
        refine jc_exit ?_
        refine jq_then_exit ?_
        refine jq_then_exit ?_
        refine jq_block_exit ?_
        refine jq_then ?_
        refine jc_seq ?_
        refine jc_region ?_
        refine jl_op ?_ (nb rfl)
        refine ow_move rfl ?_
        refine jl_op ?_ (nb rfl)
        refine ow_add64 rfl rfl (by omega) ?_
        refine jl_op ?_ (nb rfl)
        refine ow_assign rfl ?_
        refine jl_nil ?_
        refine jq_then ?_
        refine jc_ret ?_
        refine jq_ret1 rfl rfl [] rfl (fun K h => h)

/-- The reference's: from a depth on, 21 where it is deeper than 20. -/
def rd : Nat → T → Nat
  | 0, _ => 21
  | F + 1, t => max (20 - F) (mx (rd F) t.args)
theorem rd_eq : ∀ (F : Nat) (t : T), F ≤ 20 → rd F t = min (t.dep + (20 - F)) 21
  | 0, t, _ => by have : 1 ≤ t.dep := by rw [T.dep_args]; omega
                  simp only [rd]; omega
  | F + 1, t, hF => by
    have h := fun t => rd_eq F t (by omega)
    cases t <;> simp only [rd, T.args, mx, List.foldl_nil, List.foldl_cons, T.dep, h] <;> omega
end Go.Proofs.YtjnfamgjffnfiaaDoor
