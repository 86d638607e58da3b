import Derived.Test.YtfnephpolfnmoaaCw8
namespace Go.Proofs.Ytfnephpolfnmoaa
open Go.Vc
attribute [local irreducible] JL JC JQ OpWp Con ConN

/-- A statement that no others stand in. -/
def Leaf (s : Sm) : Prop := (s.kind = 1 ∨ s.kind = 2) ∧ s.thn = [] ∧ s.els = []
/-- A statement of a depth, with few statements within. -/
def Shal : Nat → Sm → Prop
  | 0, s => Leaf s
  | d + 1, s => Leaf s ∨ ((s.kind = 3 ∨ s.kind = 4 ∨ s.kind = 5) ∧ (s.kind ≠ 3 → s.els = []) ∧ s.thn.length ≤ 5 ∧ s.els.length ≤ 5 ∧ (∀ t ∈ s.thn, Shal d t) ∧ ∀ t ∈ s.els, Shal d t)
theorem Shal.leaf {d : Nat} {s : Sm} (h : Leaf s) : Shal d s := by
  cases d with
  | zero => exact h
  | succ d => exact .inl h

/-- What turns in a maker. -/
structure Ms where
  lv : Value
  hs : ByteArray
  lab : Int
  st : Int
abbrev Ms.ok (m : Ms) : Prop := (0 ≤ m.lab ∧ m.lab ≤ 12) ∧ 0 ≤ m.st ∧ m.st ≤ 14

/-- What is given throughout. -/
structure Gv (L : List Int) (V A : List ByteArray) (Sh : List Shd) : Prop where
  hL : InR L
  hLn : L.length ≤ 400
  hV0 : 0 < V.length
  hV : V.length ≤ 100
  hA : A.length ≤ 100
  hSh : Sh.length ≤ 100

def StmtP (L : List Int) (bm bd : Nat) (V A : List ByteArray) (Sh : List Shd) (d : Nat) : Prop :=
  ∀ (m : Ms) (il : Int) (LS : List ByteArray) (x : Int), m.ok → 0 ≤ il → il ≤ 2 → LS.length ≤ il → x = d →
    Con Try.prog 27 [Ptr bm, In .i64 x] [Mk bm bd V m.lv A Sh m.hs m.lab m.st il, Dk bd L, .own m.lv 9 1 (LS.map Srow)]
      (fun K => ∀ r : Ms × List Sm, (r.1.ok ∧ r.2.length ≤ 2 ∧ ∀ s ∈ r.2, Shal d s) → K (.cell (.list (r.2.map Sm.row))) [Mk bm bd V r.1.lv A Sh r.1.hs r.1.lab r.1.st il, Dk bd L, .own r.1.lv 9 1 (LS.map Srow)])
def BlockP (L : List Int) (bm bd : Nat) (V A : List ByteArray) (Sh : List Shd) (d : Nat) : Prop :=
  ∀ (m : Ms) (il : Int) (LS : List ByteArray) (x most : Int), m.ok → 0 ≤ il → il ≤ 2 → LS.length ≤ il → x = d → 1 ≤ most → most ≤ 5 →
    ConN Try.prog 23 [Ptr bm, In .i64 x, In .i64 most] [Mk bm bd V m.lv A Sh m.hs m.lab m.st il, Dk bd L, .own m.lv 9 1 (LS.map Srow)]
      (fun n K => ∀ r : Ms × Value × List Sm, (r.1.ok ∧ FreshN n r.2.1 ∧ (r.2.2.length : Int) ≤ 2 * most ∧ ∀ s ∈ r.2.2, Shal d s) →
        K (.cell (.val r.2.1)) [.own r.2.1 45 8 (r.2.2.map Sm.row), Mk bm bd V r.1.lv A Sh r.1.hs r.1.lab r.1.st il, Dk bd L, .own r.1.lv 9 1 (LS.map Srow)])

section
variable {L : List Int} {bm bd : Nat} {V A : List ByteArray} {Sh : List Shd}

theorem block_step (gv : Gv L V A Sh) (d : Nat) (hst : StmtP L bm bd V A Sh d) : BlockP L bm bd V A Sh d := by
  intro m il LS x most hm hil hil2 hLS hx hmo hmo5
  obtain ⟨lv0, hs0, lab0, st0⟩ := m
  refine con_introN Try.func23 rfl rfl (Nat.le_of_ble_eq_true rfl) (fun c hc => ?_)
  refine jc_seq ?_
  refine jc_region ?_
  refine jl_op ?_ (nb rfl)
  refine ow_assign rfl ?_
  refine jl_nil ?_
  refine jq_then ?_
  refine jc_seq ?_
  refine jc_region ?_
  refine jl_op ?_ (nb rfl)
  refine ow_assign rfl ?_
  refine jl_nil ?_
  refine jq_then ?_
  refine jc_seq ?_
  refine jc_seq ?_
  refine jc_region ?_
  refine jl_op ?_ (nb rfl)
  refine ow_move rfl ?_
  refine jl_op ?_ (nb rfl)
  refine ow_nilCheck rfl ?_
  refine jl_op ?_ (nb rfl)
  refine ow_fieldAddr rfl rfl rfl (nb rfl) ?_
  refine jl_op ?_ (nb rfl)
  refine ow_load 0 rfl rfl rfl rfl ?_
  refine jl_op ?_ (nb rfl)
  refine ow_move rfl ?_
  refine jl_op (ow_callP [1] rfl rfl (Nx_c _ gv.hL gv.hLn (by omega)) (fun k0 hk0 => ?_)) (nb rfl)
  refine jl_op ?_ (nb rfl)
  refine ow_add64 rfl rfl (by omega) ?_
  refine jl_op ?_ (nb rfl)
  refine ow_assign rfl ?_
  refine jl_nil ?_
  refine jq_then ?_
  refine jc_block ?_
  refine jc_ownNil 45 8 (by omega) ?_
  obtain ⟨n0, hn0⟩ : ∃ n : Nat, 1 + k0 = (n : Int) := ⟨(1 + k0).toNat, by omega⟩
  rw [hn0]
  refine jc_loop (ι := Nat × Ms × Value × List Sm) [0, 1, 2] (fun i => ((i.1 : Int) ≤ most ∧ i.2.1.ok) ∧ c.Fresh i.2.2.1 ∧ ((i.2.2.2.length : Int) + 2 * (i.1 : Int) ≤ 2 * most ∧ ∀ s ∈ i.2.2.2, Shal d s)) (fun i => [(7, .cell (.val i.2.2.1)), (8, In .i64 (i.1 : Int))])
    (fun i => [.own i.2.2.1 45 8 (i.2.2.2.map Sm.row), Mk bm bd V i.2.1.lv A Sh i.2.1.hs i.2.1.lab i.2.1.st il, Dk bd L, .own i.2.1.lv 9 1 (LS.map Srow)]) (fun i => i.1) (n0, ⟨lv0, hs0, lab0, st0⟩, .slice none 0 0, []) [0, 1, 0, 0] ⟨⟨by dsimp only; omega, hm⟩, fresh_nil, by dsimp only; simp only [List.length_nil]; omega, by simp⟩ rfl ?_ ?_
  · (repeat (first | exact True.intro | refine ⟨rfl, ?_⟩))
  · rintro ⟨k, m, v, l⟩ ⟨⟨hk, hok⟩, hf, hl, hsh⟩
    obtain ⟨lv, hs, lab, st⟩ := m
    obtain ⟨⟨hlab0, hlab1⟩, hst0, hst1⟩ := hok
    dsimp only at hk hlab0 hlab1 hst0 hst1 hf hl hsh ⊢
    have fin : ∀ K : S → List Ch → Prop, (∀ r : Ms × Value × List Sm, (r.1.ok ∧ FreshN c.B.heap.size r.2.1 ∧ (r.2.2.length : Int) ≤ 2 * most ∧ ∀ s ∈ r.2.2, Shal d s) →
        K (.cell (.val r.2.1)) [.own r.2.1 45 8 (r.2.2.map Sm.row), Mk bm bd V r.1.lv A Sh r.1.hs r.1.lab r.1.st il, Dk bd L, .own r.1.lv 9 1 (LS.map Srow)]) →
        K (.cell (.val v)) [.own v 45 8 (l.map Sm.row), Mk bm bd V lv A Sh hs lab st il, Dk bd L, .own lv 9 1 (LS.map Srow)] :=
      fun K h => h (⟨lv, hs, lab, st⟩, v, l) ⟨⟨⟨hlab0, hlab1⟩, hst0, hst1⟩, hf, by dsimp only; omega, hsh⟩
    by_cases hk0 : (0 : Int) < (k : Int)
    · refine jc_seq ?_
      refine jc_seq ?_
      refine jc_region ?_
      refine jl_op ?_ (nb rfl)
      refine ow_move rfl ?_
      refine jl_op ?_ (nb rfl)
      refine ow_gtr rfl rfl ?_
      refine jl_op ?_ (nb rfl)
      refine ow_move rfl ?_
      refine jl_guardY rfl (by first | assumption | exact decide_eq_true (by first | assumption | omega) | exact decide_eq_false (by first | assumption | omega) | with_reducible rfl) (nb rfl) ?_
      refine ow_move rfl ?_
      refine jl_guardY rfl (by first | assumption | exact decide_eq_true (by first | assumption | omega) | exact decide_eq_false (by first | assumption | omega) | with_reducible rfl) (nb rfl) ?_
      refine ow_nilCheck rfl ?_
      refine jl_guardY rfl (by first | assumption | exact decide_eq_true (by first | assumption | omega) | exact decide_eq_false (by first | assumption | omega) | with_reducible rfl) (nb rfl) ?_
      refine ow_fieldAddr rfl rfl rfl (nb rfl) ?_
      refine jl_guardY rfl (by first | assumption | exact decide_eq_true (by first | assumption | omega) | exact decide_eq_false (by first | assumption | omega) | with_reducible rfl) (nb rfl) ?_
      refine ow_load 1 rfl rfl rfl rfl ?_
      refine jl_guardY rfl (by first | assumption | exact decide_eq_true (by first | assumption | omega) | exact decide_eq_false (by first | assumption | omega) | with_reducible rfl) (nb rfl) ?_
      refine ow_gtr rfl rfl ?_
      refine jl_op ?_ (nb rfl)
      refine ow_pickT rfl (by first | assumption | exact decide_eq_true (by first | assumption | omega) | exact decide_eq_false (by first | assumption | omega) | with_reducible rfl) rfl ?_
      refine jl_nil ?_
      refine jq_then ?_
      refine jc_condd rfl (fun hs0 => ?_) (fun hs0 => ?_)
      · refine jc_skip ?_
        refine jq_then ?_
        refine jc_seq ?_
        refine jc_block ?_
        refine jc_seq ?_
        refine jc_region ?_
        refine jl_op ?_ (nb rfl)
        refine ow_move rfl ?_
        refine jl_op ?_ (nb rfl)
        refine ow_nilCheck rfl ?_
        refine jl_op ?_ (nb rfl)
        refine ow_fieldAddr rfl rfl rfl (nb rfl) ?_
        refine jl_op ?_ (nb rfl)
        refine ow_load 1 rfl rfl rfl rfl ?_
        refine jl_op ?_ (nb rfl)
        refine ow_sub64 rfl rfl (by omega) ?_
        refine jl_op ?_ (nb rfl)
        refine ow_nilCheck rfl ?_
        refine jl_op ?_ (nb rfl)
        refine ow_fieldAddr rfl rfl rfl (nb rfl) ?_
        refine jl_op0 ?_
        refine ow_store1 1 rfl rfl rfl rfl (nb rfl) ?_
        refine jl_nil ?_
        refine jq_then ?_
        refine jc_region ?_
        refine jl_op ?_ (nb rfl)
        refine ow_move rfl ?_
        refine jl_op ?_ (nb rfl)
        refine ow_move rfl ?_
        refine jl_op ?_ (nb rfl)
        refine ow_move rfl ?_
        refine jl_op (ow_callP [0, 1, 1] rfl rfl (hst ⟨lv, hs, lab, st - 1⟩ il LS x ⟨⟨hlab0, hlab1⟩, by dsimp only; omega⟩ hil hil2 hLS hx) (fun r hr => ?_)) (nb rfl)
        obtain ⟨⟨lv2, hs2, lab2, st2⟩, l2⟩ := r
        obtain ⟨hok2, hl2, hsh2⟩ := hr
        dsimp only at hl2 hsh2 ⊢
        skip
        refine jl_op (ow_appendMF 3 rfl rfl rfl rfl rfl rfl rfl (fun a => by rw [Sm.row_eq]; rfl) (by show (_ + _) * 136 ≤ _; first | omega | (simp only [List.length_append]; omega)) (by first | omega | (simp only [List.length_append]; omega)) (fun v2 hv2 fv2 => ?_)) (nb rfl)
        refine jl_op ?_ (nb rfl)
        refine ow_assign rfl ?_
        refine jl_nil ?_
        refine jq_block ?_
        refine jq_then ?_
        refine jc_region ?_
        refine jl_op ?_ (nb rfl)
        refine ow_move rfl ?_
        refine jl_op ?_ (nb rfl)
        refine ow_sub64 rfl rfl (by omega) ?_
        refine jl_op ?_ (nb rfl)
        refine ow_assign rfl ?_
        refine jl_nil ?_
        refine jq_again (i := (k, ⟨lv, hs, lab, st⟩, v, l)) (k - 1, ⟨lv2, hs2, lab2, st2⟩, v2, l ++ l2) [0, 0, 0, 0] ⟨⟨by dsimp only; omega, hok2⟩, fv2 hf, by dsimp only; simp only [List.length_append]; omega, fun s hs => (List.mem_append.1 hs).elim (hsh s) (hsh2 s)⟩ (by dsimp only; omega) rfl ?_
        rw [show (((k - 1 : Nat) : Int)) = (k : Int) - 1 by omega]
        (repeat (first | exact True.intro | refine ⟨rfl, ?_⟩))
      · refine jc_exit ?_
        refine jq_then_exit ?_
        refine jq_then_exit ?_
        refine jq_block_exit ?_
        refine jq_then ?_
        refine jc_seq ?_
        refine jc_region ?_
        refine jl_op ?_ (nb rfl)
        refine ow_move rfl ?_
        refine jl_op ?_ (nb rfl)
        refine ow_assign rfl ?_
        refine jl_nil ?_
        refine jq_then ?_
        refine jc_ret ?_
        exact jq_ret1 rfl rfl [0, 0, 0, 0] rfl fin
    · refine jc_seq ?_
      refine jc_seq ?_
      refine jc_region ?_
      refine jl_op ?_ (nb rfl)
      refine ow_move rfl ?_
      refine jl_op ?_ (nb rfl)
      refine ow_gtr rfl rfl ?_
      refine jl_op ?_ (nb rfl)
      refine ow_move rfl ?_
      refine jl_guardN rfl (by first | assumption | exact decide_eq_true (by first | assumption | omega) | exact decide_eq_false (by first | assumption | omega) | with_reducible rfl) (nb rfl) ?_
      refine jl_guardN rfl (by first | assumption | exact decide_eq_true (by first | assumption | omega) | exact decide_eq_false (by first | assumption | omega) | with_reducible rfl) (nb rfl) ?_
      refine jl_guardN rfl (by first | assumption | exact decide_eq_true (by first | assumption | omega) | exact decide_eq_false (by first | assumption | omega) | with_reducible rfl) (nb rfl) ?_
      refine jl_guardN rfl (by first | assumption | exact decide_eq_true (by first | assumption | omega) | exact decide_eq_false (by first | assumption | omega) | with_reducible rfl) (nb rfl) ?_
      refine jl_guardN rfl (by first | assumption | exact decide_eq_true (by first | assumption | omega) | exact decide_eq_false (by first | assumption | omega) | with_reducible rfl) (nb rfl) ?_
      refine jl_op ?_ (nb rfl)
      refine ow_pickF rfl (by first | assumption | exact decide_eq_true (by first | assumption | omega) | exact decide_eq_false (by first | assumption | omega) | with_reducible rfl) rfl ?_
      refine jl_nil ?_
      refine jq_then ?_
      refine jc_cond rfl (fun h => by cases h) (fun _ => ?_)
      refine jc_exit ?_
      refine jq_then_exit ?_
      refine jq_then_exit ?_
      refine jq_block_exit ?_
      refine jq_then ?_
      refine jc_seq ?_
      refine jc_region ?_
      refine jl_op ?_ (nb rfl)
      refine ow_move rfl ?_
      refine jl_op ?_ (nb rfl)
      refine ow_assign rfl ?_
      refine jl_nil ?_
      refine jq_then ?_
      refine jc_ret ?_
      exact jq_ret1 rfl rfl [0, 0, 0, 0] rfl fin
end
end Go.Proofs.Ytfnephpolfnmoaa
