import Derived.Test.YtfnephpolfnmoaaCw5
namespace Go.Proofs.Ytfnephpolfnmoaa
open Go.Vc
attribute [local irreducible] JL JC JQ OpWp Con ConN

abbrev InR (L : List Int) : Prop := ∀ x ∈ L, -9223372036854775808 ≤ x ∧ x ≤ 9223372036854775807
theorem Nx_c {L : List Int} {b : Nat} (n : Int) (hL : InR L) (hLn : L.length ≤ 400) (hn : n ≤ 1000000000) :
    Con Try.prog 18 [Ptr b, In .i64 n] [Dk b L] (fun K => ∀ i : Int, (0 ≤ i ∧ (i < n ∨ i = 0)) → K (In .i64 i) [Dk b L]) :=
  con_exP (Next_c L b n hL hLn hn)

theorem Op_c {L : List Int} {b : Nat} (hL : InR L) (hLn : L.length ≤ 400) :
    Con Try.prog 39 [Ptr b] [Dk b L] (fun K => ∀ i : Int, (1 ≤ i ∧ i ≤ 14) → K (In .i64 i) [Dk b L]) := by
  refine con_intro Try.func39 rfl rfl (Nat.le_of_ble_eq_true rfl) (fun c hc => ?_)
  refine jc_seq ?_
  refine jc_region ?_
  refine jl_op ?_ (nb rfl)
  refine ow_assign rfl ?_
  refine jl_nil ?_
  refine jq_then ?_
  refine jc_seq ?_
  refine jc_region ?_
  refine jl_op ?_ (nb rfl)
  refine ow_move rfl ?_
  refine jl_op (ow_callP [0] rfl rfl (Nx_c _ hL hLn (by omega)) (fun i hi => ?_)) (nb rfl)
  refine jl_op ?_ (nb rfl)
  refine ow_add64 rfl rfl (by omega) ?_
  refine jl_op ?_ (nb rfl)
  refine ow_assign rfl ?_
  refine jl_nil ?_
  refine jq_then ?_
  refine jc_ret ?_
  refine jq_ret1 rfl rfl [0] rfl (fun K h => h (1 + i) (by omega))

theorem Word_c {L : List Int} {b : Nat} (hL : InR L) (hLn : L.length ≤ 400) :
    Con Try.prog 38 [Ptr b] [Dk b L] (fun K => ∀ i : Int, (-2147483648 ≤ i ∧ i ≤ 2147483647) → K (In .i64 i) [Dk b L]) := by
  refine con_intro Try.func38 rfl rfl (Nat.le_of_ble_eq_true rfl) (fun c hc => ?_)
  refine jc_seq ?_
  refine jc_region ?_
  refine jl_op ?_ (nb rfl)
  refine ow_assign rfl ?_
  refine jl_nil ?_
  refine jq_then ?_
  refine jc_seq ?_
  refine jc_seq ?_
  refine jc_region ?_
  refine jl_op ?_ (nb rfl)
  refine ow_move rfl ?_
  refine jl_op (ow_callP [0] rfl rfl (Nx_c _ hL hLn (by omega)) (fun k hk => ?_)) (nb rfl)
  refine jl_nil ?_
  refine jq_then ?_
  refine jc_block ?_
  refine jc_seq ?_
  refine jc_region ?_
  refine jl_op ?_ (nb rfl)
  refine ow_eql rfl rfl ?_
  refine jl_op ?_ (nb rfl)
  refine ow_assign rfl ?_
  refine jl_nil ?_
  refine jq_then ?_
  refine jc_condd rfl (fun h0 => ?_) (fun h0 => ?_)
  · refine jc_seq ?_
    refine jc_region ?_
    refine jl_op ?_ (nb rfl)
    refine ow_move rfl ?_
    refine jl_op (ow_callP [0] rfl rfl (Nx_c _ hL hLn (by omega)) (fun i hi => ?_)) (nb rfl)
    refine jl_op ?_ (nb rfl)
    refine ow_neg64 rfl (by omega) ?_
    refine jl_op ?_ (nb rfl)
    refine ow_assign rfl ?_
    refine jl_nil ?_
    refine jq_then ?_
    refine jc_ret ?_
    refine jq_block_ret ?_
    refine jq_then_ret ?_
    refine jq_ret1 rfl rfl [0] rfl (fun K h => h _ (by omega))
  refine jc_seq ?_
  refine jc_region ?_
  refine jl_op ?_ (nb rfl)
  refine ow_eql rfl rfl ?_
  refine jl_op ?_ (nb rfl)
  refine ow_assign rfl ?_
  refine jl_nil ?_
  refine jq_then ?_
  refine jc_condd rfl (fun h1 => ?_) (fun h1 => ?_)
  · refine jc_seq ?_
    refine jc_region ?_
    refine jl_op ?_ (nb rfl)
    refine ow_move rfl ?_
    refine jl_op (ow_callP [0] rfl rfl (Nx_c _ hL hLn (by omega)) (fun i hi => ?_)) (nb rfl)
    refine jl_op ?_ (nb rfl)
    refine ow_sub64 rfl rfl (by omega) ?_
    refine jl_op ?_ (nb rfl)
    refine ow_assign rfl ?_
    refine jl_nil ?_
    refine jq_then ?_
    refine jc_ret ?_
    refine jq_block_ret ?_
    refine jq_then_ret ?_
    refine jq_ret1 rfl rfl [0] rfl (fun K h => h _ (by omega))
  refine jc_seq ?_
  refine jc_region ?_
  refine jl_op ?_ (nb rfl)
  refine ow_eql rfl rfl ?_
  refine jl_op ?_ (nb rfl)
  refine ow_assign rfl ?_
  refine jl_nil ?_
  refine jq_then ?_
  refine jc_condd rfl (fun h2 => ?_) (fun h2 => ?_)
  · refine jc_seq ?_
    refine jc_region ?_
    refine jl_op ?_ (nb rfl)
    refine ow_move rfl ?_
    refine jl_op (ow_callP [0] rfl rfl (Nx_c _ hL hLn (by omega)) (fun i hi => ?_)) (nb rfl)
    refine jl_op ?_ (nb rfl)
    refine ow_add64 rfl rfl (by omega) ?_
    refine jl_op ?_ (nb rfl)
    refine ow_assign rfl ?_
    refine jl_nil ?_
    refine jq_then ?_
    refine jc_ret ?_
    refine jq_block_ret ?_
    refine jq_then_ret ?_
    refine jq_ret1 rfl rfl [0] rfl (fun K h => h _ (by omega))
  refine jc_seq ?_
  refine jc_region ?_
  refine jl_op ?_ (nb rfl)
  refine ow_eql rfl rfl ?_
  refine jl_op ?_ (nb rfl)
  refine ow_assign rfl ?_
  refine jl_nil ?_
  refine jq_then ?_
  refine jc_condd rfl (fun h3 => ?_) (fun h3 => ?_)
  · refine jc_seq ?_
    refine jc_region ?_
    refine jl_op ?_ (nb rfl)
    refine ow_move rfl ?_
    refine jl_op (ow_callP [0] rfl rfl (Nx_c _ hL hLn (by omega)) (fun i hi => ?_)) (nb rfl)
    have h5 : (0 : Int) ≤ 1 * 2 ^ i.toNat ∧ (1 : Int) * 2 ^ i.toNat ≤ 1073741824 := by
      have h6 : (2 : Nat) ^ i.toNat ≤ 2 ^ 30 := Nat.pow_le_pow_right (by omega) (by omega)
      have h7 : ((2 ^ i.toNat : Nat) : Int) = (2 : Int) ^ i.toNat := by simp
      have h8 : (0 : Int) ≤ (2 : Int) ^ i.toNat := h7 ▸ Int.natCast_nonneg _
      omega
    refine jl_op ?_ (nb rfl)
    refine ow_convU64 rfl rfl rfl (by omega) ?_
    refine jl_op ?_ (nb rfl)
    refine ow_shl64 rfl rfl (by omega) (by omega) ?_
    refine jl_op ?_ (nb rfl)
    refine ow_assign rfl ?_
    refine jl_nil ?_
    refine jq_then ?_
    refine jc_ret ?_
    refine jq_block_ret ?_
    refine jq_then_ret ?_
    refine jq_ret1 rfl rfl [0] rfl (fun K h => h _ (by omega))
  · refine jc_skip ?_
    refine jq_block ?_
    refine jq_then ?_
    refine jc_seq ?_
    refine jc_region ?_
    refine jl_op ?_ (nb rfl)
    refine ow_move rfl ?_
    refine jl_op (ow_callP [0] rfl rfl (Nx_c _ hL hLn (by omega)) (fun i hi => ?_)) (nb rfl)
    refine jl_op ?_ (nb rfl)
    refine ow_assign rfl ?_
    refine jl_nil ?_
    refine jq_then ?_
    refine jc_ret ?_
    refine jq_ret1 rfl rfl [0] rfl (fun K h => h _ (by omega))

/-! Makers -/
abbrev Srow (s : ByteArray) : List C := [.val (.string s)]
/-- A shared array: its name, size, resource. -/
abbrev Shd := ByteArray × Int × ByteArray
abbrev Shrow (s : Shd) : List C := [.val (.string s.1), .val (.int .i64 s.2.1), .val (.string s.2.2)]
/-- The deck, the variables, the slice of the loops under way, the arrays, the shared arrays, what is held, labels, statements left, loops under way. -/
abbrev MkRow (bd : Nat) (V : List ByteArray) (lv : Value) (A : List ByteArray) (Sh : List Shd) (hs : ByteArray) (lab st il : Int) : List C :=
  [.val (.pointer (some ⟨bd, 0, none⟩)), .list (V.map Srow), .val lv, .list (A.map Srow), .list (Sh.map Shrow), .val (.string hs), .val (.int .i64 lab), .val (.int .i64 st), .val (.int .i64 il)]
abbrev Mk (bm bd : Nat) (V : List ByteArray) (lv : Value) (A : List ByteArray) (Sh : List Shd) (hs : ByteArray) (lab st il : Int) : Ch := .blk bm 70 (MkRow bd V lv A Sh hs lab st il)

theorem name_c {L : List Int} {bm bd : Nat} {V A : List ByteArray} {lv : Value} {Sh : List Shd} {hs : ByteArray} {lab st il : Int} (hL : InR L) (hLn : L.length ≤ 400) (l : List ByteArray) (h0 : 0 < l.length) (h1 : l.length ≤ 1000) :
    Con Try.prog 32 [Ptr bm, .cell (.list (l.map Srow))] [Mk bm bd V lv A Sh hs lab st il, Dk bd L] (fun K => ∀ s : ByteArray, True → K (Str s) [Mk bm bd V lv A Sh hs lab st il, Dk bd L]) := by
  refine con_intro Try.func32 rfl rfl (Nat.le_of_ble_eq_true rfl) (fun c hc => ?_)
  refine jc_seq ?_
  refine jc_region ?_
  refine jl_op ?_ (nb rfl)
  refine ow_assign rfl ?_
  refine jl_nil ?_
  refine jq_then ?_
  refine jc_seq ?_
  refine jc_region ?_
  refine jl_op ?_ (nb rfl)
  refine ow_move rfl ?_
  refine jl_op ?_ (nb rfl)
  refine ow_move rfl ?_
  refine jl_op ?_ (nb rfl)
  refine ow_nilCheck rfl ?_
  refine jl_op ?_ (nb rfl)
  refine ow_fieldAddr rfl rfl rfl (nb rfl) ?_
  refine jl_op ?_ (nb rfl)
  refine ow_load 0 rfl rfl rfl rfl ?_
  refine jl_op ?_ (nb rfl)
  refine ow_move rfl ?_
  refine jl_op ?_ (nb rfl)
  refine ow_len rfl (fun hlen => ?_)
  refine jl_op (ow_callP [1] rfl rfl (Nx_c _ hL hLn (by simp; omega)) (fun i hi => ?_)) (nb rfl)
  simp only [List.length_map] at hi
  refine jl_op ?_ (nb rfl)
  refine ow_indexAddrMapI rfl rfl (by omega) (by omega) rfl rfl (nb rfl) ?_
  refine jl_op ?_ (nb rfl)
  refine ow_loadPlace rfl rfl ?_
  refine jl_op ?_ (nb rfl)
  refine ow_assign rfl ?_
  refine jl_nil ?_
  refine jq_then ?_
  refine jc_ret ?_
  refine jq_ret1 rfl rfl [1, 0] rfl (fun K h => h _ trivial)
end Go.Proofs.Ytfnephpolfnmoaa
