/- What is proved: ParseExprs of the package timeboundlaw03 returns true for every list of bytes and every list of tokens, and its arguments read as before. The card ties the listed tables (the keywords, the signs, the operators of the lines of the grammar and of comparisons) to the text of the program. -/
import Derived.Test.YtamajcgdfjeehaaDoorMa4
import Derived.KernelRfl
import Derived.Test.YtamajcgdfjeehaaDoorCards
import Derived.Test.YtamajcgdfjeehaaDoorTie
import Derived.SliceStrings
import Derived.WalkKit
import Derived.ProofKit
import Derived.OpenShut
import Derived.LaidMore
import Derived.Stop.Joined
import Derived.Stop.LaidErr
import Derived.Deep.DeepHandedRow
import Derived.Lib.LaidTab
import Derived.Lib.SmallJoins
import Derived.Carry
import Derived.Deep.DeepWitnessRowRef
section
namespace Go.Proofs.YtamajcgdfjeehaaDoor
open Go.Vc
attribute [local irreducible] JL JC JQ OpWp Con ConN Pan ConE OpPan HP HT HOk hasW idxW isA isNum isNm numAt txtAt lineAt opAt lx lpx sx sxp
set_option maxHeartbeats 4000000

/-- What Expr answers. -/
def exF : Option (T × Nat) → Option T × Int × Int
  | none => (none, 0, 1)
  | some (t, n) => if 8 < t.dep then (none, 0, 4) else (some t, n, 0)
def ERow : Option T → List C
  | none => Z5
  | some t => t.row'
def exprL (l : List Tok) : Option T × Int × Int := exF (lx l (5 * l.length + 4) 0 0)

theorem Expr_c (l : List Tok) (hl : l.length ≤ 1000000) : Con Tryd.prog 10 [.cell (.list (l.map Tok.row))] [] (fun K => K (.tup [.row (ERow (exprL l).1), In .i64 (exprL l).2.1, In .i64 (exprL l).2.2]) []) := by
  have hall := fun b => (long_all hl (5 * l.length + 4)).2.1 b 0 0 (Nat.zero_le _) (Nat.zero_le _) (by unfold need; omega)
  refine con_intro Tryd.func10 rfl rfl (Nat.le_of_ble_eq_true rfl) (fun c hc => ?_)
  cases hr : lx l (5 * l.length + 4) 0 0 with
  | none =>
    have e : exprL l = (none, 0, 1) := by unfold exprL; rw [hr]; rfl
    rw [hr] at hall
    refine jc_seq ?_; refine jc_region ?_; refine jl_op (ow_alloc rfl rfl (fun bl => ?_)) (nb rfl); refine jl_op (ow_assign rfl ?_) (nb rfl); refine jl_op (ow_assign rfl ?_) (nb rfl); refine jl_nil ?_; refine jq_then ?_
    refine jc_seq ?_; refine jc_region ?_; refine jl_op (ow_move rfl ?_) (nb rfl); refine jl_op (ow_build rfl rfl rfl rfl rfl ?_) (nb rfl); refine jl_op (ow_box rfl (fun bx => ?_)) (nb rfl)
    refine jl_op (ow_callP [0] rfl rfl (hall _) (fun pp hpp => ?_)) (nb rfl); refine jl_op (ow_alloc rfl rfl (fun bl => ?_)) (nb rfl); refine jl_op0 (ow_storeAll 0 rfl rfl rfl rfl rfl rfl ?_); refine jl_nil ?_; refine jq_then ?_
    refine jc_seq ?_; refine jc_block ?_; refine jc_seq ?_; refine jc_region ?_; refine jl_op (ow_fieldAddr rfl rfl rfl (nb rfl) ?_) (nb rfl); refine jl_op (ow_load 0 rfl rfl rfl rfl ?_) (nb rfl)
    refine jl_op (ow_not rfl ?_) (nb rfl); refine jl_op (ow_assign rfl ?_) (nb rfl); refine jl_nil ?_; refine jq_then ?_; refine jc_condT rfl rfl ?_; refine jc_seq ?_; refine jc_region ?_
    refine jl_op (ow_build rfl rfl rfl rfl rfl ?_) (nb rfl); refine jl_op0 (ow_storeAll 2 rfl rfl rfl rfl rfl rfl ?_); refine jl_op (ow_assign rfl ?_) (nb rfl); refine jl_op (ow_assign rfl ?_) (nb rfl); refine jl_nil ?_
    refine jq_then ?_; refine jc_ret ?_; refine jq_block_ret ?_; refine jq_then_ret ?_; refine jq_retRow2 rfl rfl rfl rfl rfl rfl 0 rfl (fun K h => by rw [e] at h; exact h) ?_; exact sub_end
  | some tn =>
    obtain ⟨t, n⟩ := tn
    rw [hr] at hall
    have hD := Depth_c 8 t (by omega)
    rw [dl_eq] at hD
    by_cases hd : 8 < t.dep
    · have e : exprL l = (none, 0, 4) := by unfold exprL; rw [hr]; exact if_pos hd
      have hd' : ((min t.dep (8 + 1) : Nat) : Int) > 8 := by omega
      refine jc_seq ?_; refine jc_region ?_; refine jl_op (ow_alloc rfl rfl (fun bl => ?_)) (nb rfl); refine jl_op (ow_assign rfl ?_) (nb rfl); refine jl_op (ow_assign rfl ?_) (nb rfl); refine jl_nil ?_; refine jq_then ?_
      refine jc_seq ?_; refine jc_region ?_; refine jl_op (ow_move rfl ?_) (nb rfl); refine jl_op (ow_build rfl rfl rfl rfl rfl ?_) (nb rfl); refine jl_op (ow_box rfl (fun bx => ?_)) (nb rfl)
      refine jl_op (ow_callP [0] rfl rfl (hall _) (fun pp hpp => ?_)) (nb rfl); refine jl_op (ow_alloc rfl rfl (fun bl => ?_)) (nb rfl); refine jl_op0 (ow_storeAll 0 rfl rfl rfl rfl rfl rfl ?_); refine jl_nil ?_; refine jq_then ?_
      refine jc_seq ?_; refine jc_block ?_; refine jc_seq ?_; refine jc_region ?_; refine jl_op (ow_fieldAddr rfl rfl rfl (nb rfl) ?_) (nb rfl); refine jl_op (ow_load 0 rfl rfl rfl rfl ?_) (nb rfl)
      refine jl_op (ow_not rfl ?_) (nb rfl); refine jl_op (ow_assign rfl ?_) (nb rfl); refine jl_nil ?_; refine jq_then ?_; refine jc_condF rfl rfl ?_; refine jc_seq ?_; refine jc_region ?_
      refine jl_op (ow_fieldAddr rfl rfl rfl (nb rfl) ?_) (nb rfl); refine jl_op (ow_loadN 0 rfl rfl rfl rfl rfl ?_) (nb rfl); refine jl_op (ow_call0 rfl (hD) ?_) (nb rfl); refine jl_op (ow_gtr rfl rfl ?_) (nb rfl)
      refine jl_op (ow_assign rfl ?_) (nb rfl); refine jl_nil ?_; refine jq_then ?_; refine jc_condT rfl (decide_eq_true (by assumption)) ?_; refine jc_seq ?_; refine jc_region ?_
      refine jl_op (ow_build rfl rfl rfl rfl rfl ?_) (nb rfl); refine jl_op0 (ow_storeAll 2 rfl rfl rfl rfl rfl rfl ?_); refine jl_op (ow_assign rfl ?_) (nb rfl); refine jl_op (ow_assign rfl ?_) (nb rfl); refine jl_nil ?_
      refine jq_then ?_; refine jc_ret ?_; refine jq_block_ret ?_; refine jq_then_ret ?_; refine jq_retRow2 rfl rfl rfl rfl rfl rfl 0 rfl (fun K h => by rw [e] at h; exact h) ?_; exact sub_end
    · have e : exprL l = (some t, (n : Int), 0) := by unfold exprL; rw [hr]; exact if_neg hd
      have hd' : ¬ ((min t.dep (8 + 1) : Nat) : Int) > 8 := by omega
      refine jc_seq ?_; refine jc_region ?_; refine jl_op (ow_alloc rfl rfl (fun bl => ?_)) (nb rfl); refine jl_op (ow_assign rfl ?_) (nb rfl); refine jl_op (ow_assign rfl ?_) (nb rfl); refine jl_nil ?_; refine jq_then ?_
      refine jc_seq ?_; refine jc_region ?_; refine jl_op (ow_move rfl ?_) (nb rfl); refine jl_op (ow_build rfl rfl rfl rfl rfl ?_) (nb rfl); refine jl_op (ow_box rfl (fun bx => ?_)) (nb rfl)
      refine jl_op (ow_callP [0] rfl rfl (hall _) (fun pp hpp => ?_)) (nb rfl); refine jl_op (ow_alloc rfl rfl (fun bl => ?_)) (nb rfl); refine jl_op0 (ow_storeAll 0 rfl rfl rfl rfl rfl rfl ?_); refine jl_nil ?_; refine jq_then ?_
      refine jc_seq ?_; refine jc_block ?_; refine jc_seq ?_; refine jc_region ?_; refine jl_op (ow_fieldAddr rfl rfl rfl (nb rfl) ?_) (nb rfl); refine jl_op (ow_load 0 rfl rfl rfl rfl ?_) (nb rfl)
      refine jl_op (ow_not rfl ?_) (nb rfl); refine jl_op (ow_assign rfl ?_) (nb rfl); refine jl_nil ?_; refine jq_then ?_; refine jc_condF rfl rfl ?_; refine jc_seq ?_; refine jc_region ?_
      refine jl_op (ow_fieldAddr rfl rfl rfl (nb rfl) ?_) (nb rfl); refine jl_op (ow_loadN 0 rfl rfl rfl rfl rfl ?_) (nb rfl); refine jl_op (ow_call0 rfl (hD) ?_) (nb rfl); refine jl_op (ow_gtr rfl rfl ?_) (nb rfl)
      refine jl_op (ow_assign rfl ?_) (nb rfl); refine jl_nil ?_; refine jq_then ?_; refine jc_condF rfl (decide_eq_false (by assumption)) ?_; refine jc_skip ?_; refine jq_block ?_; refine jq_then ?_; refine jc_seq ?_
      refine jc_hp1 5 (n := 7) rfl 0 (by kernel_rfl) rfl (fun cs1 hcs1 => ?_)
      obtain ⟨u10, u11, u12, u13, u14, u15, u16, rfl⟩ := len7 hcs1
      refine hp_take (i := 0) rfl (by kernel_rfl) (by kernel_rfl) (by kernel_rfl) (nb rfl) (by (repeat (first | refine pani_then ?_ | refine pani_block ?_)); exact pani_body) (hok_fieldAddr rfl rfl rfl (nb rfl)) ?_
      refine hp_take (i := 1) rfl (by kernel_rfl) (by kernel_rfl) (by kernel_rfl) (nb rfl) (by (repeat (first | refine pani_then ?_ | refine pani_block ?_)); exact pani_body) (hok_loadN 0 rfl rfl rfl mem0 rfl rfl) ?_
      refine hp_take (i := 2) rfl (by kernel_rfl) (by kernel_rfl) (by kernel_rfl) (nb rfl) (by (repeat (first | refine pani_then ?_ | refine pani_block ?_)); exact pani_body) (hok_fieldAddr rfl rfl rfl (nb rfl)) ?_
      refine hp_take (i := 3) rfl (by kernel_rfl) (by kernel_rfl) (by kernel_rfl) (nb rfl) (by (repeat (first | refine pani_then ?_ | refine pani_block ?_)); exact pani_body) (hok_load 0 rfl rfl rfl mem0 rfl) ?_
      refine hp_exact 0 rfl mem0 ?_; refine hp_op0 (i := 4) rfl (by kernel_rfl) (ow_storeAll 2 rfl rfl rfl rfl rfl rfl ⟨?_, ?_⟩); exact keep1 1 rfl; refine hp_tail ?_
      refine ht_op (i := 5) rfl (by kernel_rfl) (nb rfl) (by decide) (ow_assign rfl ?_); refine ht_op (i := 6) rfl (by kernel_rfl) (nb rfl) (by decide) (ow_assign rfl ?_); refine ht_done (by kernel_rfl) ?_; refine jq_then ?_
      refine jc_ret ?_; refine jq_retRow2 rfl rfl rfl rfl rfl rfl 0 rfl (fun K h => by rw [e] at h; exact h) ?_; exact sub_end
theorem RXpr_c (l : List Tok) (hl : l.length ≤ 1000000) : Con Tryd.prog 12 [.cell (.list (l.map Tok.row))] [] (fun K => K (.tup [.row (ERow (exprL l).1), In .i64 (exprL l).2.1, In .i64 (exprL l).2.2]) []) := by
  have eL : (l.map Tok.row).length = l.length := List.length_map _
  refine con_intro Tryd.func12 rfl rfl (Nat.le_of_ble_eq_true rfl) (fun c hc => ?_); refine jc_seq ?_; refine jc_region ?_; refine jl_op (ow_alloc rfl rfl (fun bl => ?_)) (nb rfl); refine jl_op (ow_assign rfl ?_) (nb rfl)
  refine jl_op (ow_assign rfl ?_) (nb rfl); refine jl_nil ?_; refine jq_then ?_; refine jc_seq ?_; refine jc_seq ?_; refine jc_region ?_; refine jl_op (ow_move rfl ?_) (nb rfl); refine jl_op (ow_len rfl (fun hlen => ?_)) (nb rfl)
  refine jl_op (ow_assign rfl ?_) (nb rfl); refine jl_nil ?_; refine jq_then ?_; refine jc_block ?_
  refine jc_loopS [] (fun n : Nat => n ≤ l.length ∧ ∀ j, j ≤ l.length → n < j → whole l (5 * l.length + 4) j = none) (fun n => [(0, .cell (.list (l.map Tok.row))), (2, Ptr bl), (5, In .i64 (n : Int))]) (fun _ => [.blk bl 27 Z5]) (fun n => n) l.length ⟨Nat.le_refl _, fun j h1 h2 => by omega⟩ ?_ ?_ ?_
  · refine sub_step 0 rfl ?_; exact sub_end
  · rw [← eL]
    (repeat (first | exact True.intro | refine ⟨rfl, ?_⟩))
  · rintro n ⟨hn, hno⟩
    refine jc_reset [(0, .cell (.list (l.map Tok.row))), (2, Ptr bl), (5, In .i64 (n : Int))] [.blk bl 27 Z5] ?_ ⟨[0], [], rfl⟩ ?_
    · (repeat (first | exact True.intro | refine ⟨rfl, ?_⟩))
    by_cases hn0 : 0 < n
    · have eT : (l.take n).length = n := by rw [List.length_take]; omega
      have con := fun b => rexpr_c (l := l.take n) (fr := true) (by omega) (5 * l.length + 4) b 0 (by omega) (by unfold need; omega)
      have eT2 : ((l.take n).map Tok.row).length = n := by rw [List.length_map]; exact eT
      have again : ∀ j, j ≤ l.length → n - 1 < j → whole l (5 * l.length + 4) n = none → whole l (5 * l.length + 4) j = none := by
        intro j h1 h2 h3
        by_cases hj : j = n
        · rw [hj]; exact h3
        · exact hno j h1 (by omega)
      cases hs : sx true (l.take n) (5 * l.length + 4) 0 0 with
      | er code p =>
        have hw : whole l (5 * l.length + 4) n = none := by unfold whole; rw [hs]
        rw [hs] at con
        refine jc_seq ?_; refine jc_seq ?_; refine jc_region ?_; refine jl_op (ow_move rfl ?_) (nb rfl); refine jl_op (ow_gtr rfl rfl ?_) (nb rfl); refine jl_nil ?_; refine jq_then ?_
        refine jc_condT rfl (decide_eq_true (by omega)) ?_; refine jc_skip ?_; refine jq_then ?_; refine jc_seq ?_; refine jc_block ?_; refine jc_seq ?_; refine jc_region ?_; refine jl_op (ow_move rfl ?_) (nb rfl)
        refine jl_op (ow_move rfl ?_) (nb rfl); refine jl_op (ow_prefixMap rfl rfl hn ?_) (nb rfl); refine jl_op (ow_build rfl rfl rfl rfl rfl ?_) (nb rfl); refine jl_op (ow_box rfl (fun bx => ?_)) (nb rfl)
        refine jl_op (ow_assign rfl ?_) (nb rfl); refine jl_nil ?_; refine jq_then ?_; refine jc_seq ?_; refine jc_region ?_; refine jl_op (ow_move rfl ?_) (nb rfl)
        refine jl_op (ow_callP [0] rfl rfl (con _) (fun pp hpp => ?_)) (nb rfl); refine jl_op (ow_move rfl ?_) (nb rfl); refine jl_op (ow_extract rfl rfl ?_) (nb rfl); refine jl_op (ow_extract rfl rfl ?_) (nb rfl)
        refine jl_op (ow_alloc rfl rfl (fun bl => ?_)) (nb rfl); refine jl_op0 (ow_storeAll 0 rfl rfl rfl rfl rfl rfl ?_); refine jl_op (ow_assign rfl ?_) (nb rfl); refine jl_nil ?_; refine jq_then ?_; refine jc_seq ?_
        refine jc_seq ?_; refine jc_region ?_; refine jl_op (ow_move rfl ?_) (nb rfl); refine jl_op (ow_nilCheck rfl ?_) (nb rfl); refine jl_op (ow_fieldAddr rfl rfl rfl (nb rfl) ?_) (nb rfl)
        refine jl_op (ow_load 1 rfl rfl rfl rfl ?_) (nb rfl); refine jl_op (ow_neq rfl rfl ?_) (nb rfl); refine jl_op (ow_move rfl ?_) (nb rfl); refine jl_guardN rfl (decide_eq_true (by omega)) (nb rfl) ?_
        refine jl_guardN rfl (decide_eq_true (by omega)) (nb rfl) ?_; refine jl_guardN rfl (decide_eq_true (by omega)) (nb rfl) ?_; refine jl_guardN rfl (decide_eq_true (by omega)) (nb rfl) ?_
        refine jl_guardN rfl (decide_eq_true (by omega)) (nb rfl) ?_; refine jl_guardN rfl (decide_eq_true (by omega)) (nb rfl) ?_; refine jl_op (ow_pickT rfl (decide_eq_true (by omega)) rfl ?_) (nb rfl); refine jl_nil ?_
        refine jq_then ?_; refine jc_condT rfl rfl ?_; refine jc_exit ?_; refine jq_then_exit ?_; refine jq_block_exit ?_; refine jq_then ?_; refine jc_region ?_; refine jl_op (ow_move rfl ?_) (nb rfl)
        refine jl_op (ow_sub64 rfl rfl (by omega) ?_) (nb rfl); refine jl_op (ow_assign rfl ?_) (nb rfl); refine jl_nil ?_; refine jq_againS (n - 1) ⟨by omega, fun j h1 h2 => again j h1 h2 hw⟩ (by omega) ?_ ?_
        · refine sub_step 2 rfl ?_; exact sub_end
        · rw [show ((n - 1 : Nat) : Int) = (n : Int) - 1 by omega]
          (repeat (first | exact True.intro | refine ⟨rfl, ?_⟩))
      | ok t m =>
        have hm := sx_bd _ _ _ _ _ hs
        rw [hs] at con
        by_cases hmn : m = n
        · subst hmn
          have hw : whole l (5 * l.length + 4) m = some t := by unfold whole; rw [hs]; exact if_pos rfl
          obtain ⟨t2, m2, h1, h2⟩ := whole_long hn hw
          have h3 := lx_bd _ _ _ _ _ h1
          have h4 := long_whole h1
          have h5 : m2 = m := by
            by_cases hlt : m < m2
            · rw [hno m2 h3.2 hlt] at h4; cases h4
            · omega
          subst h5
          rw [hw] at h4
          obtain rfl : t = t2 := by simpa using h4
          by_cases hd : 8 < t.dep
          · have e : exprL l = (none, 0, 4) := by unfold exprL; rw [h1]; exact if_pos hd
            have hd' : (t.dep : Int) > 8 := by omega
            refine jc_seq ?_; refine jc_seq ?_; refine jc_region ?_; refine jl_op (ow_move rfl ?_) (nb rfl); refine jl_op (ow_gtr rfl rfl ?_) (nb rfl); refine jl_nil ?_; refine jq_then ?_
            refine jc_condT rfl (decide_eq_true (by omega)) ?_; refine jc_skip ?_; refine jq_then ?_; refine jc_seq ?_; refine jc_block ?_; refine jc_seq ?_; refine jc_region ?_; refine jl_op (ow_move rfl ?_) (nb rfl)
            refine jl_op (ow_move rfl ?_) (nb rfl); refine jl_op (ow_prefixMap rfl rfl hn ?_) (nb rfl); refine jl_op (ow_build rfl rfl rfl rfl rfl ?_) (nb rfl); refine jl_op (ow_box rfl (fun bx => ?_)) (nb rfl)
            refine jl_op (ow_assign rfl ?_) (nb rfl); refine jl_nil ?_; refine jq_then ?_; refine jc_seq ?_; refine jc_region ?_; refine jl_op (ow_move rfl ?_) (nb rfl); refine jl_op (ow_call1 [0] rfl rfl (con _) ?_) (nb rfl)
            refine jl_op (ow_move rfl ?_) (nb rfl); refine jl_op (ow_extract rfl rfl ?_) (nb rfl); refine jl_op (ow_extract rfl rfl ?_) (nb rfl); refine jl_op (ow_alloc rfl rfl (fun bl => ?_)) (nb rfl)
            refine jl_op0 (ow_storeAll 0 rfl rfl rfl rfl rfl rfl ?_); refine jl_op (ow_assign rfl ?_) (nb rfl); refine jl_nil ?_; refine jq_then ?_; refine jc_seq ?_; refine jc_seq ?_; refine jc_region ?_
            refine jl_op (ow_move rfl ?_) (nb rfl); refine jl_op (ow_nilCheck rfl ?_) (nb rfl); refine jl_op (ow_fieldAddr rfl rfl rfl (nb rfl) ?_) (nb rfl); refine jl_op (ow_load 1 rfl rfl rfl rfl ?_) (nb rfl)
            refine jl_op (ow_neq rfl rfl ?_) (nb rfl); refine jl_op (ow_move rfl ?_) (nb rfl); refine jl_guardY rfl rfl (nb rfl) (ow_move rfl ?_); refine jl_guardY rfl rfl (nb rfl) (ow_nilCheck rfl ?_)
            refine jl_guardY rfl rfl (nb rfl) (ow_fieldAddr rfl rfl rfl (nb rfl) ?_); refine jl_guardY rfl rfl (nb rfl) (ow_load 1 rfl rfl rfl rfl ?_); refine jl_guardY rfl rfl (nb rfl) (ow_move rfl ?_)
            refine jl_guardY rfl rfl (nb rfl) (ow_neq rfl rfl ?_); refine jl_op (ow_pickF rfl rfl rfl ?_) (nb rfl); refine jl_nil ?_; refine jq_then ?_; refine jc_condF rfl (decide_eq_false (by omega)) ?_; refine jc_skip ?_
            refine jq_then ?_; refine jc_seq ?_; refine jc_seq ?_; refine jc_region ?_; refine jl_op (ow_move rfl ?_) (nb rfl); refine jl_op (ow_gtr rfl rfl ?_) (nb rfl); refine jl_nil ?_; refine jq_then ?_
            refine jc_condT rfl (decide_eq_true (by assumption)) ?_; refine jc_seq ?_; refine jc_region ?_; refine jl_op (ow_build rfl rfl rfl rfl rfl ?_) (nb rfl); refine jl_op0 (ow_storeAll 2 rfl rfl rfl rfl rfl rfl ?_)
            refine jl_op (ow_assign rfl ?_) (nb rfl); refine jl_op (ow_assign rfl ?_) (nb rfl); refine jl_nil ?_; refine jq_then ?_; refine jc_ret ?_; refine jq_then_ret ?_; refine jq_block_ret ?_; refine jq_then_ret ?_
            refine jq_then_ret ?_; refine jq_block_ret ?_; refine jq_then_ret ?_; refine jq_retRow2 rfl rfl rfl rfl rfl rfl 0 rfl (fun K h => by rw [e] at h; exact h) ?_; exact sub_end
          · have e : exprL l = (some t, (m2 : Int), 0) := by unfold exprL; rw [h1]; exact if_neg hd
            have hd' : ¬ (t.dep : Int) > 8 := by omega
            refine jc_seq ?_; refine jc_seq ?_; refine jc_region ?_; refine jl_op (ow_move rfl ?_) (nb rfl); refine jl_op (ow_gtr rfl rfl ?_) (nb rfl); refine jl_nil ?_; refine jq_then ?_
            refine jc_condT rfl (decide_eq_true (by omega)) ?_; refine jc_skip ?_; refine jq_then ?_; refine jc_seq ?_; refine jc_block ?_; refine jc_seq ?_; refine jc_region ?_; refine jl_op (ow_move rfl ?_) (nb rfl)
            refine jl_op (ow_move rfl ?_) (nb rfl); refine jl_op (ow_prefixMap rfl rfl hn ?_) (nb rfl); refine jl_op (ow_build rfl rfl rfl rfl rfl ?_) (nb rfl); refine jl_op (ow_box rfl (fun bx => ?_)) (nb rfl)
            refine jl_op (ow_assign rfl ?_) (nb rfl); refine jl_nil ?_; refine jq_then ?_; refine jc_seq ?_; refine jc_region ?_; refine jl_op (ow_move rfl ?_) (nb rfl); refine jl_op (ow_call1 [0] rfl rfl (con _) ?_) (nb rfl)
            refine jl_op (ow_move rfl ?_) (nb rfl); refine jl_op (ow_extract rfl rfl ?_) (nb rfl); refine jl_op (ow_extract rfl rfl ?_) (nb rfl); refine jl_op (ow_alloc rfl rfl (fun bl => ?_)) (nb rfl)
            refine jl_op0 (ow_storeAll 0 rfl rfl rfl rfl rfl rfl ?_); refine jl_op (ow_assign rfl ?_) (nb rfl); refine jl_nil ?_; refine jq_then ?_; refine jc_seq ?_; refine jc_seq ?_; refine jc_region ?_
            refine jl_op (ow_move rfl ?_) (nb rfl); refine jl_op (ow_nilCheck rfl ?_) (nb rfl); refine jl_op (ow_fieldAddr rfl rfl rfl (nb rfl) ?_) (nb rfl); refine jl_op (ow_load 1 rfl rfl rfl rfl ?_) (nb rfl)
            refine jl_op (ow_neq rfl rfl ?_) (nb rfl); refine jl_op (ow_move rfl ?_) (nb rfl); refine jl_guardY rfl rfl (nb rfl) (ow_move rfl ?_); refine jl_guardY rfl rfl (nb rfl) (ow_nilCheck rfl ?_)
            refine jl_guardY rfl rfl (nb rfl) (ow_fieldAddr rfl rfl rfl (nb rfl) ?_); refine jl_guardY rfl rfl (nb rfl) (ow_load 1 rfl rfl rfl rfl ?_); refine jl_guardY rfl rfl (nb rfl) (ow_move rfl ?_)
            refine jl_guardY rfl rfl (nb rfl) (ow_neq rfl rfl ?_); refine jl_op (ow_pickF rfl rfl rfl ?_) (nb rfl); refine jl_nil ?_; refine jq_then ?_; refine jc_condF rfl (decide_eq_false (by omega)) ?_; refine jc_skip ?_
            refine jq_then ?_; refine jc_seq ?_; refine jc_seq ?_; refine jc_region ?_; refine jl_op (ow_move rfl ?_) (nb rfl); refine jl_op (ow_gtr rfl rfl ?_) (nb rfl); refine jl_nil ?_; refine jq_then ?_
            refine jc_condF rfl (decide_eq_false (by assumption)) ?_; refine jc_skip ?_; refine jq_then ?_; refine jc_seq ?_; refine jc_region ?_; refine jl_op (ow_loadAll 0 rfl rfl rfl rfl ?_) (nb rfl)
            refine jl_op (ow_move rfl ?_) (nb rfl); refine jl_op0 (ow_storeAll 2 rfl rfl rfl rfl rfl rfl ?_); refine jl_op (ow_assign rfl ?_) (nb rfl); refine jl_op (ow_assign rfl ?_) (nb rfl); refine jl_nil ?_; refine jq_then ?_
            refine jc_ret ?_; refine jq_block_ret ?_; refine jq_then_ret ?_; refine jq_then_ret ?_; refine jq_block_ret ?_; refine jq_then_ret ?_
            refine jq_retRow2 rfl rfl rfl rfl rfl rfl 0 rfl (fun K h => by rw [e] at h; exact h) ?_; exact sub_end
        · have hw : whole l (5 * l.length + 4) n = none := by unfold whole; rw [hs]; exact if_neg hmn
          have hmn' : ¬ (m : Int) = (n : Int) := by omega
          refine jc_seq ?_; refine jc_seq ?_; refine jc_region ?_; refine jl_op (ow_move rfl ?_) (nb rfl); refine jl_op (ow_gtr rfl rfl ?_) (nb rfl); refine jl_nil ?_; refine jq_then ?_
          refine jc_condT rfl (decide_eq_true (by omega)) ?_; refine jc_skip ?_; refine jq_then ?_; refine jc_seq ?_; refine jc_block ?_; refine jc_seq ?_; refine jc_region ?_; refine jl_op (ow_move rfl ?_) (nb rfl)
          refine jl_op (ow_move rfl ?_) (nb rfl); refine jl_op (ow_prefixMap rfl rfl hn ?_) (nb rfl); refine jl_op (ow_build rfl rfl rfl rfl rfl ?_) (nb rfl); refine jl_op (ow_box rfl (fun bx => ?_)) (nb rfl)
          refine jl_op (ow_assign rfl ?_) (nb rfl); refine jl_nil ?_; refine jq_then ?_; refine jc_seq ?_; refine jc_region ?_; refine jl_op (ow_move rfl ?_) (nb rfl); refine jl_op (ow_call1 [0] rfl rfl (con _) ?_) (nb rfl)
          refine jl_op (ow_move rfl ?_) (nb rfl); refine jl_op (ow_extract rfl rfl ?_) (nb rfl); refine jl_op (ow_extract rfl rfl ?_) (nb rfl); refine jl_op (ow_alloc rfl rfl (fun bl => ?_)) (nb rfl)
          refine jl_op0 (ow_storeAll 0 rfl rfl rfl rfl rfl rfl ?_); refine jl_op (ow_assign rfl ?_) (nb rfl); refine jl_nil ?_; refine jq_then ?_; refine jc_seq ?_; refine jc_seq ?_; refine jc_region ?_
          refine jl_op (ow_move rfl ?_) (nb rfl); refine jl_op (ow_nilCheck rfl ?_) (nb rfl); refine jl_op (ow_fieldAddr rfl rfl rfl (nb rfl) ?_) (nb rfl); refine jl_op (ow_load 1 rfl rfl rfl rfl ?_) (nb rfl)
          refine jl_op (ow_neq rfl rfl ?_) (nb rfl); refine jl_op (ow_move rfl ?_) (nb rfl); refine jl_guardY rfl rfl (nb rfl) (ow_move rfl ?_); refine jl_guardY rfl rfl (nb rfl) (ow_nilCheck rfl ?_)
          refine jl_guardY rfl rfl (nb rfl) (ow_fieldAddr rfl rfl rfl (nb rfl) ?_); refine jl_guardY rfl rfl (nb rfl) (ow_load 1 rfl rfl rfl rfl ?_); refine jl_guardY rfl rfl (nb rfl) (ow_move rfl ?_)
          refine jl_guardY rfl rfl (nb rfl) (ow_neq rfl rfl ?_); refine jl_op (ow_pickF rfl rfl rfl ?_) (nb rfl); refine jl_nil ?_; refine jq_then ?_; refine jc_condT rfl (decide_eq_true (by assumption)) ?_; refine jc_exit ?_
          refine jq_then_exit ?_; refine jq_block_exit ?_; refine jq_then ?_; refine jc_region ?_; refine jl_op (ow_move rfl ?_) (nb rfl); refine jl_op (ow_sub64 rfl rfl (by omega) ?_) (nb rfl)
          refine jl_op (ow_assign rfl ?_) (nb rfl); refine jl_nil ?_; refine jq_againS (n - 1) ⟨by omega, fun j h1 h2 => again j h1 h2 hw⟩ (by omega) ?_ ?_
          · refine sub_step 2 rfl ?_; exact sub_end
          · rw [show ((n - 1 : Nat) : Int) = (n : Int) - 1 by omega]
            (repeat (first | exact True.intro | refine ⟨rfl, ?_⟩))
    · obtain rfl : n = 0 := by omega
      have e : exprL l = (none, 0, 1) := by
        unfold exprL
        cases hr : lx l (5 * l.length + 4) 0 0 with
        | none => rfl
        | some tn =>
          obtain ⟨t, m⟩ := tn
          have h1 := lx_bd _ _ _ _ _ hr
          have h2 := hno m h1.2 h1.1
          rw [long_whole hr] at h2
          cases h2
      refine jc_seq ?_; refine jc_seq ?_; refine jc_region ?_; refine jl_op (ow_move rfl ?_) (nb rfl); refine jl_op (ow_gtr rfl rfl ?_) (nb rfl); refine jl_nil ?_; refine jq_then ?_; refine jc_condF rfl rfl ?_; refine jc_exit ?_
      refine jq_then_exit ?_; refine jq_then_exit ?_; refine jq_block_exit ?_; refine jq_then ?_; refine jc_seq ?_; refine jc_region ?_; refine jl_op (ow_build rfl rfl rfl rfl rfl ?_) (nb rfl)
      refine jl_op0 (ow_storeAll 0 rfl rfl rfl rfl rfl rfl ?_); refine jl_op (ow_assign rfl ?_) (nb rfl); refine jl_op (ow_assign rfl ?_) (nb rfl); refine jl_nil ?_; refine jq_then ?_; refine jc_ret ?_
      refine jq_retRow2 rfl rfl rfl rfl rfl rfl 0 rfl (fun K h => by rw [e] at h; exact h) ?_; exact sub_end
end Go.Proofs.YtamajcgdfjeehaaDoor
end

section
namespace Go.Proofs.YtamajcgdfjeehaaDoor
open Go.Vc
attribute [local irreducible] JL JC JQ OpWp Con ConN

/-- Whether a text is a name. -/
def isName (s : ByteArray) : Bool := decide (0 < s.size) && decide (s.size ≤ 12) && decide (nameLen s = s.size)
theorem empty_iff (s : ByteArray) : s = ⟨#[]⟩ ↔ s.size = 0 := by
  constructor
  · rintro rfl; rfl
  · intro h; cases s; rename_i d; have : d = #[] := Array.eq_empty_of_size_eq_zero h; rw [this]
theorem Name_c (s : ByteArray) : Con Tryd.prog 37 [Str s] [] (fun K => K (Bl (isName s)) []) := by
  refine con_intro Tryd.func37 rfl rfl (Nat.le_of_ble_eq_true rfl) (fun c hc => ?_)
  by_cases h0 : s = ⟨#[]⟩
  · have e : isName s = false := by simp [isName, (empty_iff s).1 h0]
    have h0n : ¬ ¬ s = ⟨#[]⟩ := fun h => h h0
    refine jc_seq ?_; refine jc_region ?_; refine jl_op (ow_assign rfl ?_) (nb rfl); refine jl_nil ?_; refine jq_then ?_; refine jc_seq ?_; refine jc_region ?_; refine jl_op (ow_move rfl ?_) (nb rfl)
    refine jl_op (ow_strneq rfl rfl ?_) (nb rfl); refine jl_op (ow_move rfl ?_) (nb rfl); refine jl_guardN rfl (decide_eq_false (by assumption)) (nb rfl) ?_; refine jl_guardN rfl (decide_eq_false (by assumption)) (nb rfl) ?_
    refine jl_guardN rfl (decide_eq_false (by assumption)) (nb rfl) ?_; refine jl_op (ow_pickF rfl (decide_eq_false (by assumption)) rfl ?_) (nb rfl); refine jl_op (ow_move rfl ?_) (nb rfl); refine jl_guardN rfl rfl (nb rfl) ?_
    refine jl_guardN rfl rfl (nb rfl) ?_; refine jl_guardN rfl rfl (nb rfl) ?_; refine jl_guardN rfl rfl (nb rfl) ?_; refine jl_guardN rfl rfl (nb rfl) ?_; refine jl_op (ow_pickF rfl rfl rfl ?_) (nb rfl)
    refine jl_op (ow_assign rfl ?_) (nb rfl); refine jl_nil ?_; refine jq_then ?_; refine jc_ret ?_; refine jq_ret1 rfl rfl [] rfl (fun K h => by rw [e] at h; exact h)
  · have hp : 0 < s.size := by have := mt (empty_iff s).2 h0; omega
    by_cases h12 : (s.size : Int) ≤ 12
    · have e : isName s = decide ((nameLen s : Int) = (s.size : Int)) := by
        unfold isName
        rw [decide_eq_true hp, decide_eq_true (show s.size ≤ 12 by omega)]
        simp only [Bool.true_and, Int.ofNat_inj]
      refine jc_seq ?_; refine jc_region ?_; refine jl_op (ow_assign rfl ?_) (nb rfl); refine jl_nil ?_; refine jq_then ?_; refine jc_seq ?_; refine jc_region ?_; refine jl_op (ow_move rfl ?_) (nb rfl)
      refine jl_op (ow_strneq rfl rfl ?_) (nb rfl); refine jl_op (ow_move rfl ?_) (nb rfl); refine jl_guardY rfl (decide_eq_true (by assumption)) (nb rfl) (ow_move rfl ?_)
      refine jl_guardY rfl (decide_eq_true (by assumption)) (nb rfl) (ow_lenstr rfl rfl ?_); refine jl_guardY rfl (decide_eq_true (by assumption)) (nb rfl) (ow_leq rfl rfl ?_)
      refine jl_op (ow_pickT rfl (decide_eq_true (by assumption)) rfl ?_) (nb rfl); refine jl_op (ow_move rfl ?_) (nb rfl); refine jl_guardY rfl (decide_eq_true (by assumption)) (nb rfl) (ow_move rfl ?_)
      refine jl_guardY rfl (decide_eq_true (by assumption)) (nb rfl) (ow_call0 rfl (name_c s (by omega)) ?_); refine jl_guardY rfl (decide_eq_true (by assumption)) (nb rfl) (ow_move rfl ?_)
      refine jl_guardY rfl (decide_eq_true (by assumption)) (nb rfl) (ow_lenstr rfl rfl ?_); refine jl_guardY rfl (decide_eq_true (by assumption)) (nb rfl) (ow_eql rfl rfl ?_)
      refine jl_op (ow_pickT rfl (decide_eq_true (by assumption)) rfl ?_) (nb rfl); refine jl_op (ow_assign rfl ?_) (nb rfl); refine jl_nil ?_; refine jq_then ?_; refine jc_ret ?_
      refine jq_ret1 rfl rfl [] rfl (fun K h => by rw [e] at h; exact h)
    · have e : isName s = false := by
        unfold isName
        rw [decide_eq_false (show ¬ s.size ≤ 12 by omega)]
        simp
      refine jc_seq ?_; refine jc_region ?_; refine jl_op (ow_assign rfl ?_) (nb rfl); refine jl_nil ?_; refine jq_then ?_; refine jc_seq ?_; refine jc_region ?_; refine jl_op (ow_move rfl ?_) (nb rfl)
      refine jl_op (ow_strneq rfl rfl ?_) (nb rfl); refine jl_op (ow_move rfl ?_) (nb rfl); refine jl_guardY rfl (decide_eq_true (by assumption)) (nb rfl) (ow_move rfl ?_)
      refine jl_guardY rfl (decide_eq_true (by assumption)) (nb rfl) (ow_lenstr rfl rfl ?_); refine jl_guardY rfl (decide_eq_true (by assumption)) (nb rfl) (ow_leq rfl rfl ?_)
      refine jl_op (ow_pickT rfl (decide_eq_true (by assumption)) rfl ?_) (nb rfl); refine jl_op (ow_move rfl ?_) (nb rfl); refine jl_guardN rfl (decide_eq_false (by assumption)) (nb rfl) ?_
      refine jl_guardN rfl (decide_eq_false (by assumption)) (nb rfl) ?_; refine jl_guardN rfl (decide_eq_false (by assumption)) (nb rfl) ?_; refine jl_guardN rfl (decide_eq_false (by assumption)) (nb rfl) ?_
      refine jl_guardN rfl (decide_eq_false (by assumption)) (nb rfl) ?_; refine jl_op (ow_pickF rfl (decide_eq_false (by assumption)) rfl ?_) (nb rfl); refine jl_op (ow_assign rfl ?_) (nb rfl); refine jl_nil ?_; refine jq_then ?_
      refine jc_ret ?_; refine jq_ret1 rfl rfl [] rfl (fun K h => by rw [e] at h; exact h)

/-! The reference -/
theorem rletter_c (n : Int) : Con Tryd.prog 33 [In .u8 n] [] (fun K => K (Bl (isL n)) []) := by
  by_cases h : (97 : Int) ≤ n
  · refine con_intro Tryd.func33 rfl rfl (Nat.le_of_ble_eq_true rfl) (fun c hc => ?_); refine jc_seq ?_; refine jc_region ?_; refine jl_op (ow_assign rfl ?_) (nb rfl); refine jl_nil ?_; refine jq_then ?_; refine jc_seq ?_
    refine jc_region ?_; refine jl_op (ow_move rfl ?_) (nb rfl); refine jl_op (ow_geq rfl rfl ?_) (nb rfl); refine jl_op (ow_move rfl ?_) (nb rfl); refine jl_guardY rfl (decide_eq_true (by assumption)) (nb rfl) (ow_move rfl ?_)
    refine jl_guardY rfl (decide_eq_true (by assumption)) (nb rfl) (ow_leq rfl rfl ?_); refine jl_op (ow_pickT rfl (decide_eq_true (by assumption)) rfl ?_) (nb rfl); refine jl_op (ow_assign rfl ?_) (nb rfl); refine jl_nil ?_
    refine jq_then ?_; refine jc_ret ?_; refine jq_ret1 rfl rfl [] rfl (fun K h' => by rw [show isL n = decide (n ≤ 122) by simp [isL, h]] at h'; exact h')
  · refine con_intro Tryd.func33 rfl rfl (Nat.le_of_ble_eq_true rfl) (fun c hc => ?_); refine jc_seq ?_; refine jc_region ?_; refine jl_op (ow_assign rfl ?_) (nb rfl); refine jl_nil ?_; refine jq_then ?_; refine jc_seq ?_
    refine jc_region ?_; refine jl_op (ow_move rfl ?_) (nb rfl); refine jl_op (ow_geq rfl rfl ?_) (nb rfl); refine jl_op (ow_move rfl ?_) (nb rfl); refine jl_guardN rfl (decide_eq_false (by assumption)) (nb rfl) ?_
    refine jl_guardN rfl (decide_eq_false (by assumption)) (nb rfl) ?_; refine jl_op (ow_pickF rfl (decide_eq_false (by assumption)) rfl ?_) (nb rfl); refine jl_op (ow_assign rfl ?_) (nb rfl); refine jl_nil ?_; refine jq_then ?_
    refine jc_ret ?_; refine jq_ret1 rfl rfl [] rfl (fun K h' => by rw [show isL n = false by simp [isL, h]] at h'; exact h')
theorem rdigit_c (n : Int) : Con Tryd.prog 34 [In .u8 n] [] (fun K => K (Bl (isD n)) []) := by
  by_cases h : (48 : Int) ≤ n
  · refine con_intro Tryd.func34 rfl rfl (Nat.le_of_ble_eq_true rfl) (fun c hc => ?_); refine jc_seq ?_; refine jc_region ?_; refine jl_op (ow_assign rfl ?_) (nb rfl); refine jl_nil ?_; refine jq_then ?_; refine jc_seq ?_
    refine jc_region ?_; refine jl_op (ow_move rfl ?_) (nb rfl); refine jl_op (ow_geq rfl rfl ?_) (nb rfl); refine jl_op (ow_move rfl ?_) (nb rfl); refine jl_guardY rfl (decide_eq_true (by assumption)) (nb rfl) (ow_move rfl ?_)
    refine jl_guardY rfl (decide_eq_true (by assumption)) (nb rfl) (ow_leq rfl rfl ?_); refine jl_op (ow_pickT rfl (decide_eq_true (by assumption)) rfl ?_) (nb rfl); refine jl_op (ow_assign rfl ?_) (nb rfl); refine jl_nil ?_
    refine jq_then ?_; refine jc_ret ?_; refine jq_ret1 rfl rfl [] rfl (fun K h' => by rw [show isD n = decide (n ≤ 57) by simp [isD, h]] at h'; exact h')
  · refine con_intro Tryd.func34 rfl rfl (Nat.le_of_ble_eq_true rfl) (fun c hc => ?_); refine jc_seq ?_; refine jc_region ?_; refine jl_op (ow_assign rfl ?_) (nb rfl); refine jl_nil ?_; refine jq_then ?_; refine jc_seq ?_
    refine jc_region ?_; refine jl_op (ow_move rfl ?_) (nb rfl); refine jl_op (ow_geq rfl rfl ?_) (nb rfl); refine jl_op (ow_move rfl ?_) (nb rfl); refine jl_guardN rfl (decide_eq_false (by assumption)) (nb rfl) ?_
    refine jl_guardN rfl (decide_eq_false (by assumption)) (nb rfl) ?_; refine jl_op (ow_pickF rfl (decide_eq_false (by assumption)) rfl ?_) (nb rfl); refine jl_op (ow_assign rfl ?_) (nb rfl); refine jl_nil ?_; refine jq_then ?_
    refine jc_ret ?_; refine jq_ret1 rfl rfl [] rfl (fun K h' => by rw [show isD n = false by simp [isD, h]] at h'; exact h')
theorem numVal_bigF : ∀ (l : List Int) (n : Int), (∀ c ∈ l, isD c = true) → 2147483648 ≤ n → 2147483648 ≤ l.foldl (fun n c => min (10 * n + (c - 48)) 2147483648) n := by
  intro l
  induction l with
  | nil => intro n _ h; exact h
  | cons c l ih =>
    intro n hd hn
    have h2 : isD c = true := hd c (by simp)
    simp only [isD, Bool.and_eq_true, decide_eq_true_eq] at h2
    rw [List.foldl_cons]
    exact ih _ (fun x hx => hd x (by simp [hx])) (by omega)
theorem numVal_big {l : List Int} (hd : ∀ c ∈ l, isD c = true) (k : Nat) (h : 2147483648 ≤ numVal (l.take (k + 1))) : 2147483648 ≤ numVal l := by
  have e : numVal l = (l.drop (k + 1)).foldl (fun n c => min (10 * n + (c - 48)) 2147483648) (numVal (l.take (k + 1))) := by
    unfold numVal
    rw [← List.foldl_append, List.take_append_drop]
  rw [e]
  exact numVal_bigF _ _ (fun c hc => hd c (List.mem_of_mem_drop hc)) h
theorem value_c (s : ByteArray) (hs : s.size ≤ 1000000) (hd : ∀ c ∈ bytesI s, isD c = true) : Con Tryd.prog 35 [Str s] [] (fun K => K (In .i64 (if 2147483648 ≤ numVal (bytesI s) then -1 else numVal (bytesI s))) []) := by
  refine con_intro Tryd.func35 rfl rfl (Nat.le_of_ble_eq_true rfl) (fun c hc => ?_); refine jc_seq ?_; refine jc_region ?_; refine jl_op (ow_assign rfl ?_) (nb rfl); refine jl_nil ?_; refine jq_then ?_; refine jc_seq ?_
  refine jc_region ?_; refine jl_op (ow_assign rfl ?_) (nb rfl); refine jl_nil ?_; refine jq_then ?_; refine jc_seq ?_; refine jc_seq ?_; refine jc_region ?_; refine jl_op (ow_assign rfl ?_) (nb rfl); refine jl_nil ?_
  refine jq_then ?_; refine jc_block ?_
  refine jc_loopS [] (fun k : Nat => k ≤ s.size ∧ numVal ((bytesI s).take k) < 2147483648) (fun k => [(0, Str s), (3, In .i64 (numVal ((bytesI s).take k))), (4, In .i64 (k : Int))]) (fun _ => []) (fun k => s.size - k) 0 ⟨Nat.zero_le _, by simp [numVal]⟩ ?_ ?_ ?_
  · exact sub_end
  · (repeat (first | exact True.intro | refine ⟨rfl, ?_⟩))
  · rintro k ⟨hk, hv⟩
    refine jc_seq ?_; refine jc_seq ?_; refine jc_region ?_; refine jl_op (ow_move rfl ?_) (nb rfl); refine jl_op (ow_move rfl ?_) (nb rfl); refine jl_op (ow_lenstr rfl rfl ?_) (nb rfl); refine jl_op (ow_lss rfl rfl ?_) (nb rfl)
    refine jl_nil ?_; refine jq_then ?_; refine jc_condd rfl (fun hlt => ?_) (fun hge => ?_)
    · have hlt' : k < (bytesI s).length := by rw [bytesI_len]; omega
      have h1 := hd (bytesI s)[k] (List.getElem_mem hlt')
      have h3 : (bytesI s)[k] = byteAt s k := bytesI_get s k (by omega)
      simp only [isD, Bool.and_eq_true, decide_eq_true_eq] at h1
      have h2 := numVal_bd ((bytesI s).take k) (fun c hc => hd c (List.mem_of_mem_take hc))
      have e : numVal ((bytesI s).take (k + 1)) = min (10 * numVal ((bytesI s).take k) + ((bytesI s)[k] - 48)) 2147483648 := by rw [List.take_succ_eq_append_getElem hlt', numVal_snoc]
      have h4 : byteAt s (k : Int).toNat = byteAt s k := rfl
      rw [h3] at h1 e
      refine jc_skip ?_; refine jq_then ?_; refine jc_seq ?_; refine jc_block ?_; refine jc_seq ?_; refine jc_region ?_; refine jl_op (ow_move rfl ?_) (nb rfl); refine jl_op (ow_mul64 rfl rfl (by omega) ?_) (nb rfl)
      refine jl_op (ow_move rfl ?_) (nb rfl); refine jl_op (ow_move rfl ?_) (nb rfl); refine jl_op (ow_indexStr rfl rfl rfl (by omega) (by omega) ?_) (nb rfl); refine jl_op (ow_subU8 rfl rfl (by omega) ?_) (nb rfl)
      refine jl_op (ow_convI64 rfl rfl rfl (by omega) ?_) (nb rfl); refine jl_op (ow_add64 rfl rfl (by omega) ?_) (nb rfl); refine jl_op (ow_assign rfl ?_) (nb rfl); refine jl_nil ?_; refine jq_then ?_; refine jc_seq ?_
      refine jc_region ?_; refine jl_op (ow_move rfl ?_) (nb rfl); refine jl_op (ow_geq rfl rfl ?_) (nb rfl); refine jl_nil ?_; refine jq_then ?_; refine jc_condd rfl (fun hg => ?_) (fun hg => ?_)
      · have e2 : (2147483648 : Int) ≤ numVal (bytesI s) := numVal_big hd k (by rw [e]; omega)
        refine jc_seq ?_; refine jc_region ?_; refine jl_op (ow_assign rfl ?_) (nb rfl); refine jl_nil ?_; refine jq_then ?_; refine jc_ret ?_; refine jq_block_ret ?_; refine jq_then_ret ?_; refine jq_then_ret ?_
        refine jq_block_ret ?_; refine jq_then_ret ?_; refine jq_ret1 rfl rfl [] rfl (fun K h => by rw [if_pos e2] at h; exact h)
      · refine jc_skip ?_; refine jq_block ?_; refine jq_then ?_; refine jc_region ?_; refine jl_op (ow_move rfl ?_) (nb rfl); refine jl_op (ow_add64 rfl rfl (by omega) ?_) (nb rfl); refine jl_op (ow_assign rfl ?_) (nb rfl)
        refine jl_nil ?_
        have e3 : numVal ((bytesI s).take (k + 1)) = numVal ((bytesI s).take k) * 10 + (byteAt s (k : Int).toNat - 48) := by omega
        refine jq_againS (k + 1) ⟨by omega, by omega⟩ (by omega) ?_ ?_
        · exact sub_end
        · rw [e3]
          (repeat (first | exact True.intro | refine ⟨rfl, ?_⟩))
    · have e2 : (bytesI s).take k = bytesI s := List.take_of_length_le (by rw [bytesI_len]; omega)
      rw [e2] at hv
      refine jc_exit ?_; refine jq_then_exit ?_; refine jq_then_exit ?_; refine jq_block_exit ?_; refine jq_then ?_; refine jc_seq ?_; refine jc_region ?_; refine jl_op (ow_move rfl ?_) (nb rfl)
      refine jl_op (ow_assign rfl ?_) (nb rfl); refine jl_nil ?_; refine jq_then ?_; refine jc_ret ?_; refine jq_ret1 rfl rfl [] rfl (fun K h => by rw [if_neg (by omega)] at h; rw [e2]; exact h)
end Go.Proofs.YtamajcgdfjeehaaDoor
end

section
namespace Go.Proofs.YtamajcgdfjeehaaDoor
open Go.Vc
attribute [local irreducible] JL JC JQ OpWp Con ConN

/-- A text's row. -/
def Trow (s : ByteArray) : List C := [.val (.string s)]
/-- All signs, longer ones first. -/
def SL2 : List ByteArray := [⟨#[60, 60]⟩, ⟨#[62, 62]⟩, ⟨#[60, 61]⟩, ⟨#[61, 61]⟩, ⟨#[33, 61]⟩]
def SL1 : List ByteArray := [⟨#[43]⟩, ⟨#[45]⟩, ⟨#[42]⟩, ⟨#[47]⟩, ⟨#[37]⟩, ⟨#[38]⟩, ⟨#[124]⟩, ⟨#[94]⟩, ⟨#[60]⟩, ⟨#[61]⟩, ⟨#[40]⟩, ⟨#[41]⟩, ⟨#[91]⟩, ⟨#[93]⟩, ⟨#[123]⟩, ⟨#[125]⟩]
theorem Signs_c : Con Tryd.prog 56 [] [] (fun K => K (.cell (.list ((SL2 ++ SL1).map Trow))) []) := by
  refine con_intro Tryd.func56 rfl rfl (Nat.le_of_ble_eq_true rfl) (fun c hc => ?_); refine jc_seq ?_; refine jc_region ?_; refine jl_op (ow_assign rfl ?_) (nb rfl); refine jl_nil ?_; refine jq_then ?_; refine jc_seq ?_
  refine jc_region ?_; refine jl_op (ow_buildSlice rfl rfl (nb rfl) rfl rfl (nb rfl) ?_) (nb rfl); refine jl_op (ow_assign rfl ?_) (nb rfl); refine jl_nil ?_; refine jq_then ?_; refine jc_ret ?_
  refine jq_ret1 rfl rfl [] rfl (fun K h => h)
/-- Whether a text begins with another. -/
def begins (s t : ByteArray) : Bool := decide (t.size ≤ s.size) && decide (s.extract 0 t.size = t)
def rsign (s : ByteArray) : ByteArray := ((SL2 ++ SL1).find? (begins s)).getD ⟨#[]⟩
theorem rsign_c (s : ByteArray) (hs : s.size ≤ 1000000) : Con Tryd.prog 36 [Str s] [] (fun K => K (Str (rsign s)) []) := by
  refine con_intro Tryd.func36 rfl rfl (Nat.le_of_ble_eq_true rfl) (fun c hc => ?_)
  have hS := Signs_c
  have hr : rsign s = ((SL2 ++ SL1).find? (begins s)).getD ⟨#[]⟩ := rfl
  have hlen : (SL2 ++ SL1).length = 21 := rfl
  have hall : ∀ t ∈ SL2 ++ SL1, t.size ≤ 2 := by
    intro t ht
    rcases List.mem_append.1 ht with h | h <;> simp only [SL2, SL1, List.mem_cons, List.not_mem_nil, or_false] at h
    · rcases h with rfl | rfl | rfl | rfl | rfl <;> decide
    · rcases h with rfl | rfl | rfl | rfl | rfl | rfl | rfl | rfl | rfl | rfl | rfl | rfl | rfl | rfl | rfl | rfl <;> decide
  revert hS hr hlen hall
  generalize SL2 ++ SL1 = L
  intro hS hr hlen hall
  have eL : (L.map Trow).length = L.length := List.length_map _
  refine jc_seq ?_; refine jc_region ?_; refine jl_op (ow_assign rfl ?_) (nb rfl); refine jl_nil ?_; refine jq_then ?_; refine jc_seq ?_; refine jc_region ?_; refine jl_op (ow_call0 rfl (hS) ?_) (nb rfl)
  refine jl_op (ow_assign rfl ?_) (nb rfl); refine jl_nil ?_; refine jq_then ?_; refine jc_seq ?_; refine jc_seq ?_; refine jc_region ?_; refine jl_op (ow_assign rfl ?_) (nb rfl); refine jl_nil ?_; refine jq_then ?_
  refine jc_block ?_
  refine jc_loopS [] (fun k : Nat => k ≤ L.length ∧ ∀ j (h : j < L.length), j < k → begins s L[j] = false) (fun k => [(0, Str s), (3, .cell (.list (L.map Trow))), (4, In .i64 (k : Int))]) (fun _ => []) (fun k => L.length - k) 0 ⟨Nat.zero_le _, fun j _ h => by omega⟩ ?_ ?_ ?_
  · exact sub_end
  · (repeat (first | exact True.intro | refine ⟨rfl, ?_⟩))
  · rintro k ⟨hk, hno⟩
    refine jc_reset [(0, Str s), (3, .cell (.list (L.map Trow))), (4, In .i64 (k : Int))] [] ?_ ⟨[], [], rfl⟩ ?_
    · (repeat (first | exact True.intro | refine ⟨rfl, ?_⟩))
    refine jc_seq ?_; refine jc_seq ?_; refine jc_region ?_; refine jl_op (ow_move rfl ?_) (nb rfl); refine jl_op (ow_move rfl ?_) (nb rfl); refine jl_op (ow_len rfl (fun hlen => ?_)) (nb rfl)
    refine jl_op (ow_lss rfl rfl ?_) (nb rfl); refine jl_nil ?_; refine jq_then ?_; refine jc_condd rfl (fun hlt => ?_) (fun hge => ?_)
    · have hlt' : k < L.length := by omega
      have h2 := hall L[k] (List.getElem_mem hlt')
      by_cases hsz : (L[k].size : Int) ≤ (s.size : Int)
      · refine jc_skip ?_; refine jq_then ?_; refine jc_seq ?_; refine jc_block ?_; refine jc_seq ?_; refine jc_any rfl rfl (by kernel_rfl) (by kernel_rfl) ?_; refine any_op (fun c => ow_move rfl ⟨rfl, List.Perm.refl _⟩) ?_
        refine any_op (fun c => ow_lenstr rfl rfl ⟨rfl, List.Perm.refl _⟩) ?_; refine any_op (fun c => ow_move rfl ⟨rfl, List.Perm.refl _⟩) ?_; refine any_op (fun c => ow_move rfl ⟨rfl, List.Perm.refl _⟩) ?_
        refine any_op (fun c => ow_indexAddrMapE rfl rfl (by omega) rfl rfl (nb rfl) ⟨rfl, List.Perm.refl _⟩) ?_; refine any_op (fun c => ow_loadPlace rfl rfl ⟨rfl, List.Perm.refl _⟩) ?_
        refine any_op (fun c => ow_lenstr rfl rfl ⟨rfl, List.Perm.refl _⟩) ?_; refine any_op (fun c => ow_geq rfl rfl ⟨rfl, List.Perm.refl _⟩) ?_; refine any_op (fun c => ow_move rfl ⟨rfl, List.Perm.refl _⟩) ?_
        refine any_guardY rfl (decide_eq_true (by assumption)) (fun c => ow_move rfl ⟨rfl, List.Perm.refl _⟩) ?_; refine any_guardY rfl (decide_eq_true (by assumption)) (fun c => ow_move rfl ⟨rfl, List.Perm.refl _⟩) ?_
        refine any_guardY rfl (decide_eq_true (by assumption)) (fun c => ow_move rfl ⟨rfl, List.Perm.refl _⟩) ?_
        refine any_guardY rfl (decide_eq_true (by assumption)) (fun c => ow_indexAddrMapE rfl rfl (by omega) rfl rfl (nb rfl) ⟨rfl, List.Perm.refl _⟩) ?_
        refine any_guardY rfl (decide_eq_true (by assumption)) (fun c => ow_loadPlace rfl rfl ⟨rfl, List.Perm.refl _⟩) ?_
        refine any_guardY rfl (decide_eq_true (by assumption)) (fun c => ow_lenstr rfl rfl ⟨rfl, List.Perm.refl _⟩) ?_
        refine any_guardY rfl (decide_eq_true (by assumption)) (fun c => ow_substrHi rfl rfl rfl (by omega) (by omega) ⟨rfl, List.Perm.refl _⟩) ?_
        refine any_guardY rfl (decide_eq_true (by assumption)) (fun c => ow_move rfl ⟨rfl, List.Perm.refl _⟩) ?_; refine any_guardY rfl (decide_eq_true (by assumption)) (fun c => ow_move rfl ⟨rfl, List.Perm.refl _⟩) ?_
        refine any_guardY rfl (decide_eq_true (by assumption)) (fun c => ow_indexAddrMapE rfl rfl (by omega) rfl rfl (nb rfl) ⟨rfl, List.Perm.refl _⟩) ?_
        refine any_guardY rfl (decide_eq_true (by assumption)) (fun c => ow_loadPlace rfl rfl ⟨rfl, List.Perm.refl _⟩) ?_
        refine any_guardY rfl (decide_eq_true (by assumption)) (fun c => ow_streql rfl rfl ⟨rfl, List.Perm.refl _⟩) ?_; refine any_op (fun c => ow_pickT rfl (decide_eq_true (by assumption)) rfl ⟨rfl, List.Perm.refl _⟩) ?_
        refine any_nil ?_; refine jq_then ?_; refine jc_condd rfl (fun hb => ?_) (fun hb => ?_)
        · have hb' : begins s L[k] = true := by
            unfold begins
            rw [decide_eq_true (show L[k].size ≤ s.size by omega), decide_eq_true (show s.extract 0 L[k].size = L[k] from hb)]
            rfl
          have e : rsign s = L[k] := by
            rw [hr, (List.find?_eq_some_iff_getElem).2 ⟨hb', k, hlt', rfl, fun j hj => by rw [hno j (by omega) hj]; rfl⟩]
            rfl
          refine jc_seq ?_; refine jc_region ?_; refine jl_op (ow_move rfl ?_) (nb rfl); refine jl_op (ow_move rfl ?_) (nb rfl); refine jl_op (ow_indexAddrMapE rfl rfl (by omega) rfl rfl (nb rfl) ?_) (nb rfl)
          refine jl_op (ow_loadPlace rfl rfl ?_) (nb rfl); refine jl_op (ow_assign rfl ?_) (nb rfl); refine jl_nil ?_; refine jq_then ?_; refine jc_ret ?_; refine jq_block_ret ?_; refine jq_then_ret ?_; refine jq_then_ret ?_
          refine jq_block_ret ?_; refine jq_then_ret ?_; refine jq_ret1 rfl rfl [] rfl (fun K h => by rw [e] at h; exact h)
        · have hf : begins s L[k] = false := by
            unfold begins
            rw [decide_eq_false (show ¬ s.extract 0 L[k].size = L[k] from hb), Bool.and_false]
          refine jc_skip ?_; refine jq_block ?_; refine jq_then ?_; refine jc_region ?_; refine jl_op (ow_move rfl ?_) (nb rfl); refine jl_op (ow_add64 rfl rfl (by omega) ?_) (nb rfl); refine jl_op (ow_assign rfl ?_) (nb rfl)
          refine jl_nil ?_
          refine jq_againS (k + 1) ⟨by omega, fun j hj hjk => by
            by_cases e : j < k
            · exact hno j hj e
            · obtain rfl : j = k := by omega
              exact hf⟩ (by omega) ?_ ?_
          · exact sub_end
          · (repeat (first | exact True.intro | refine ⟨rfl, ?_⟩))
      · have hf : begins s L[k] = false := by
          unfold begins
          rw [decide_eq_false (show ¬ L[k].size ≤ s.size by omega), Bool.false_and]
        refine jc_skip ?_; refine jq_then ?_; refine jc_seq ?_; refine jc_block ?_; refine jc_seq ?_; refine jc_any rfl rfl (by kernel_rfl) (by kernel_rfl) ?_; refine any_op (fun c => ow_move rfl ⟨rfl, List.Perm.refl _⟩) ?_
        refine any_op (fun c => ow_lenstr rfl rfl ⟨rfl, List.Perm.refl _⟩) ?_; refine any_op (fun c => ow_move rfl ⟨rfl, List.Perm.refl _⟩) ?_; refine any_op (fun c => ow_move rfl ⟨rfl, List.Perm.refl _⟩) ?_
        refine any_op (fun c => ow_indexAddrMapE rfl rfl (by omega) rfl rfl (nb rfl) ⟨rfl, List.Perm.refl _⟩) ?_; refine any_op (fun c => ow_loadPlace rfl rfl ⟨rfl, List.Perm.refl _⟩) ?_
        refine any_op (fun c => ow_lenstr rfl rfl ⟨rfl, List.Perm.refl _⟩) ?_; refine any_op (fun c => ow_geq rfl rfl ⟨rfl, List.Perm.refl _⟩) ?_; refine any_op (fun c => ow_move rfl ⟨rfl, List.Perm.refl _⟩) ?_
        refine any_guardN rfl (decide_eq_false (by assumption)) ?_; refine any_guardN rfl (decide_eq_false (by assumption)) ?_; refine any_guardN rfl (decide_eq_false (by assumption)) ?_
        refine any_guardN rfl (decide_eq_false (by assumption)) ?_; refine any_guardN rfl (decide_eq_false (by assumption)) ?_; refine any_guardN rfl (decide_eq_false (by assumption)) ?_
        refine any_guardN rfl (decide_eq_false (by assumption)) ?_; refine any_guardN rfl (decide_eq_false (by assumption)) ?_; refine any_guardN rfl (decide_eq_false (by assumption)) ?_
        refine any_guardN rfl (decide_eq_false (by assumption)) ?_; refine any_guardN rfl (decide_eq_false (by assumption)) ?_; refine any_guardN rfl (decide_eq_false (by assumption)) ?_
        refine any_op (fun c => ow_pickF rfl (decide_eq_false (by assumption)) rfl ⟨rfl, List.Perm.refl _⟩) ?_; refine any_nil ?_; refine jq_then ?_; refine jc_cond rfl (fun h => by cases h) (fun _ => ?_); refine jc_skip ?_
        refine jq_block ?_; refine jq_then ?_; refine jc_region ?_; refine jl_op (ow_move rfl ?_) (nb rfl); refine jl_op (ow_add64 rfl rfl (by omega) ?_) (nb rfl); refine jl_op (ow_assign rfl ?_) (nb rfl); refine jl_nil ?_
        refine jq_againS (k + 1) ⟨by omega, fun j hj hjk => by
          by_cases e : j < k
          · exact hno j hj e
          · obtain rfl : j = k := by omega
            exact hf⟩ (by omega) ?_ ?_
        · exact sub_end
        · (repeat (first | exact True.intro | refine ⟨rfl, ?_⟩))
    · have e : rsign s = ⟨#[]⟩ := by
        rw [hr, List.find?_eq_none.2 (fun x hx => by obtain ⟨j, hj, rfl⟩ := List.mem_iff_getElem.1 hx; rw [hno j hj (by omega)]; simp)]
        rfl
      refine jc_exit ?_; refine jq_then_exit ?_; refine jq_then_exit ?_; refine jq_block_exit ?_; refine jq_then ?_; refine jc_seq ?_; refine jc_region ?_; refine jl_op (ow_assign rfl ?_) (nb rfl); refine jl_nil ?_
      refine jq_then ?_; refine jc_ret ?_; refine jq_ret1 rfl rfl [] rfl (fun K h => by rw [e] at h; exact h)
end Go.Proofs.YtamajcgdfjeehaaDoor
end

section
namespace Go.Proofs.YtamajcgdfjeehaaDoor
open Go.Vc
attribute [local irreducible] JL JC JQ OpWp Con ConN

theorem byteAt_getD (s : ByteArray) (n : Nat) : byteAt s n = (bytesI s).getD n 0 := by
  by_cases h : n < s.size
  · rw [← bytesI_get s n h, List.getD_eq_getElem?_getD, List.getElem?_eq_getElem (by simpa using h)]
    rfl
  · unfold byteAt
    rw [List.getD_eq_getElem?_getD, List.getD_eq_getElem?_getD, List.getElem?_eq_none (by simpa using h), List.getElem?_eq_none (by simpa using h)]
    rfl
theorem byteAt_extract (s : ByteArray) (a j : Nat) : byteAt (s.extract a s.size) j = byteAt s (a + j) := by
  rw [byteAt_getD, byteAt_getD, extract_bytes, List.take_of_length_le (by simp), List.getD_eq_getElem?_getD, List.getD_eq_getElem?_getD, List.getElem?_drop]
theorem extract_extract (s : ByteArray) (a n : Nat) (h : a + n ≤ s.size) : (s.extract a s.size).extract 0 n = s.extract a (a + n) := by
  apply bytesI_inj
  rw [extract_bytes, extract_bytes, extract_bytes, List.drop_zero, List.take_take]
  congr 1
  omega
theorem begins_iff {s t : ByteArray} : begins s t = true ↔ t.size ≤ s.size ∧ s.extract 0 t.size = t := by simp [begins]
theorem SL2_size : ∀ t ∈ SL2, t.size = 2 := by decide
theorem SL1_size : ∀ t ∈ SL1, t.size = 1 := by decide
theorem SG_iff1 : ∀ t ∈ SG, (hasS SL2 t || hasS SL1 t) = true := by decide
theorem SG_iff2 : ∀ t ∈ SL2, hasS SG t = true := by decide
theorem SG_iff3 : ∀ t ∈ SL1, hasS SG t = true := by decide
theorem SG_iff (t : ByteArray) : t ∈ SG ↔ t ∈ SL2 ∨ t ∈ SL1 := by
  constructor
  · intro h
    rcases Bool.or_eq_true_iff.1 (SG_iff1 t h) with h | h
    · exact .inl (hasS_iff.1 h)
    · exact .inr (hasS_iff.1 h)
  · rintro (h | h)
    · exact hasS_iff.1 (SG_iff2 t h)
    · exact hasS_iff.1 (SG_iff3 t h)
theorem rsign_eq (s : ByteArray) : rsign s = s.extract 0 (signLen s) := by
  unfold rsign signLen
  rw [List.find?_append]
  cases h2 : SL2.find? (begins s) with
  | some t =>
    have ht := List.mem_of_find?_eq_some h2
    have hb := begins_iff.1 (List.find?_some h2)
    rw [SL2_size t ht] at hb
    rw [if_pos ⟨hb.1, hasS_iff.2 ((SG_iff _).2 (.inl (by rw [hb.2]; exact ht)))⟩]
    exact hb.2.symm
  | none =>
    have hn2 : ¬ (2 ≤ s.size ∧ hasS SG (s.extract 0 2) = true) := by
      rintro ⟨a, b⟩
      rcases (SG_iff _).1 (hasS_iff.1 b) with h | h
      · have := List.find?_eq_none.1 h2 _ h
        exact this (begins_iff.2 ⟨by rw [SL2_size _ h]; exact a, by rw [SL2_size _ h]⟩)
      · have := SL1_size _ h
        rw [extract_size _ _ _ a] at this
        omega
    rw [if_neg hn2]
    cases h1 : SL1.find? (begins s) with
    | some t =>
      have ht := List.mem_of_find?_eq_some h1
      have hb := begins_iff.1 (List.find?_some h1)
      rw [SL1_size t ht] at hb
      rw [if_pos ⟨hb.1, hasS_iff.2 ((SG_iff _).2 (.inr (by rw [hb.2]; exact ht)))⟩]
      exact hb.2.symm
    | none =>
      have hn1 : ¬ (1 ≤ s.size ∧ hasS SG (s.extract 0 1) = true) := by
        rintro ⟨a, b⟩
        rcases (SG_iff _).1 (hasS_iff.1 b) with h | h
        · have := SL2_size _ h
          rw [extract_size _ _ _ a] at this
          omega
        · have := List.find?_eq_none.1 h1 _ h
          exact this (begins_iff.2 ⟨by rw [SL1_size _ h]; exact a, by rw [SL1_size _ h]⟩)
      rw [if_neg hn1]
      show (⟨#[]⟩ : ByteArray) = s.extract 0 0
      exact ((empty_iff _).2 (by rw [extract_size _ _ _ (Nat.zero_le _)])).symm
end Go.Proofs.YtamajcgdfjeehaaDoor
end

section
namespace Go.Proofs.YtamajcgdfjeehaaDoor
open Go.Vc
attribute [local irreducible] JL JC JQ OpWp Con ConN
attribute [local irreducible] nextT scan byteAt rsign runLen nameLen signLen numVal

theorem rScan_c (s : ByteArray) : Con Tryd.prog 18 [Str s] [] (fun K => K (.tup [.cell (.list ((scan s).1.map Tok.row)), In .i64 (scan s).2.1, In .i64 (scan s).2.2]) []) := by
  refine con_intro Tryd.func18 rfl rfl (Nat.le_of_ble_eq_true rfl) (fun c hc => ?_); refine jc_seq ?_; refine jc_region ?_; refine jl_op (ow_assign rfl ?_) (nb rfl); refine jl_op (ow_assign rfl ?_) (nb rfl)
  refine jl_op (ow_assign rfl ?_) (nb rfl); refine jl_nil ?_; refine jq_then ?_; refine jc_seq ?_; refine jc_seq ?_; refine jc_region ?_; refine jl_op (ow_move rfl ?_) (nb rfl); refine jl_op (ow_lenstr rfl rfl ?_) (nb rfl)
  refine jl_op (ow_gtr rfl rfl ?_) (nb rfl); refine jl_nil ?_; refine jq_then ?_; refine jc_condd rfl (fun hn => ?_) (fun hn => ?_)
  · refine jc_seq ?_; refine jc_region ?_; refine jl_op (ow_assign rfl ?_) (nb rfl); refine jl_op (ow_assign rfl ?_) (nb rfl); refine jl_op (ow_assign rfl ?_) (nb rfl); refine jl_nil ?_; refine jq_then ?_; refine jc_ret ?_
    refine jq_then_ret ?_
    have e : scan s = ([], 0, 4) := by unfold scan; rw [if_pos (by omega)]
    refine jq_ownNil 76 4 (by omega) ?_; refine jq_freeze 2 0 rfl rfl (by rw [hc]; simp [hb]) ?_; refine jq_ret3 rfl rfl rfl rfl (fun K h => by rw [e] at h; exact h) ?_; exact sub_end
  · have hsz : s.size ≤ 8192 := by omega
    refine jc_skip ?_; refine jq_then ?_; refine jc_seq ?_; refine jc_region ?_; refine jl_op (ow_assign rfl ?_) (nb rfl); refine jl_nil ?_; refine jq_then ?_; refine jc_seq ?_; refine jc_region ?_
    refine jl_op (ow_assign rfl ?_) (nb rfl); refine jl_nil ?_; refine jq_then ?_; refine jc_seq ?_; refine jc_seq ?_; refine jc_region ?_; refine jl_op (ow_assign rfl ?_) (nb rfl); refine jl_nil ?_; refine jq_then ?_
    refine jc_block ?_; refine jc_ownNil 76 4 (by omega) ?_
    refine jc_loopS (ι := Nat × Int × Value × List Tok) [] (fun i => scanGo s i.1 i.2.1 i.2.2.2 = scan s ∧ i.1 ≤ s.size ∧ 1 ≤ i.2.1 ∧ i.2.1 ≤ 1 + i.1 ∧ i.2.2.2.length ≤ i.1) (fun i => [(0, Str s), (2, S.cell (C.val (.slice none 0 0))), (5, .cell (.val i.2.2.1)), (6, In .i64 i.2.1), (7, In .i64 (i.1 : Int))]) (fun i => [.own i.2.2.1 76 4 (i.2.2.2.map Tok.row)]) (fun i => s.size - i.1) (0, 1, .slice none 0 0, []) ⟨by unfold scan; rw [if_neg (by omega)], by omega, by dsimp only; omega, by dsimp only; omega, by simp⟩ ?_ ?_ ?_
    · refine sub_step 0 rfl ?_; exact sub_end
    · (repeat (first | exact True.intro | refine ⟨rfl, ?_⟩))
    · rintro ⟨k, line, v, out⟩ ⟨hsc, hk, hl1, hl2, hlen⟩
      dsimp only at hsc hk hl1 hl2 hlen ⊢
      refine jc_reset [(0, Str s), (2, S.cell (C.val (.slice none 0 0))), (5, .cell (.val v)), (6, In .i64 line), (7, In .i64 (k : Int))] [.own v 76 4 (out.map Tok.row)] ?_ ⟨[0], [], rfl⟩ ?_
      · (repeat (first | exact True.intro | refine ⟨rfl, ?_⟩))
      refine jc_seq ?_; refine jc_seq ?_; refine jc_region ?_; refine jl_op (ow_move rfl ?_) (nb rfl); refine jl_op (ow_move rfl ?_) (nb rfl); refine jl_op (ow_lenstr rfl rfl ?_) (nb rfl); refine jl_op (ow_lss rfl rfl ?_) (nb rfl)
      refine jl_nil ?_; refine jq_then ?_; refine jc_condd rfl (fun hlt => ?_) (fun hge => ?_)
      · have hlt' : k < s.size := by omega
        rw [scanGo, dif_pos hlt'] at hsc
        have hx : (s.extract k s.size).size = s.size - k := by rw [extract_size _ _ _ (Nat.le_refl _)]
        have hnl := nextT_le (s.extract k s.size)
        refine jc_skip ?_; refine jq_then ?_; refine jc_block ?_; refine jc_seq ?_; refine jc_region ?_; refine jl_op (ow_move rfl ?_) (nb rfl); refine jl_op (ow_move rfl ?_) (nb rfl)
        refine jl_op (ow_indexStr rfl rfl rfl (by omega) (by omega) ?_) (nb rfl); refine jl_op (ow_assign rfl ?_) (nb rfl); refine jl_nil ?_; refine jq_then ?_; refine jc_seq ?_; refine jc_region ?_
        refine jl_op (ow_move rfl ?_) (nb rfl); refine jl_op (ow_assign rfl ?_) (nb rfl); refine jl_nil ?_; refine jq_then ?_; refine jc_seq ?_; refine jc_block ?_; refine jc_seq ?_; refine jc_region ?_
        refine jl_op (ow_move rfl ?_) (nb rfl); refine jl_op (ow_eql rfl rfl ?_) (nb rfl); refine jl_op (ow_assign rfl ?_) (nb rfl); refine jl_nil ?_; refine jq_then ?_; refine jc_condd rfl (fun h10 => ?_) (fun h10 => ?_)
        · rw [if_pos (show byteAt s k = 10 from h10)] at hsc
          refine jc_seq ?_; refine jc_region ?_; refine jl_op (ow_move rfl ?_) (nb rfl); refine jl_op (ow_add64 rfl rfl (by omega) ?_) (nb rfl); refine jl_op (ow_assign rfl ?_) (nb rfl); refine jl_nil ?_; refine jq_then ?_
          refine jc_seq ?_; refine jc_region ?_; refine jl_op (ow_move rfl ?_) (nb rfl); refine jl_op (ow_add64 rfl rfl (by omega) ?_) (nb rfl); refine jl_op (ow_assign rfl ?_) (nb rfl); refine jl_nil ?_; refine jq_then ?_
          refine jc_exit ?_; refine jq_block_other rfl ?_; refine jq_then_exit ?_; refine jq_block_exit ?_
          refine jq_againS (i := (k, line, v, out)) (k + 1, line + 1, v, out) ⟨hsc, by dsimp only; omega, by dsimp only; omega, by dsimp only; omega, by dsimp only; omega⟩ (by dsimp only; omega) ?_ ?_
          · refine sub_step 0 rfl ?_; exact sub_end
          · (repeat (first | exact True.intro | refine ⟨rfl, ?_⟩))
        · rw [if_neg (show ¬ byteAt s k = 10 from h10)] at hsc
          by_cases hw : byteAt s k = 32 ∨ byteAt s k = 9
          · rw [if_pos hw] at hsc
            have hw' : (decide (byteAt s (k : Int).toNat = 32) || decide (byteAt s (k : Int).toNat = 9)) = true := by simpa using hw
            by_cases h32 : byteAt s (k : Int).toNat = 32
            · refine jc_seq ?_; refine jc_region ?_; refine jl_op (ow_move rfl ?_) (nb rfl); refine jl_op (ow_eql rfl rfl ?_) (nb rfl); refine jl_op (ow_move rfl ?_) (nb rfl)
              refine jl_guardN rfl (decide_eq_true (by assumption)) (nb rfl) ?_; refine jl_guardN rfl (decide_eq_true (by assumption)) (nb rfl) ?_; refine jl_op (ow_pickT rfl (decide_eq_true (by assumption)) rfl ?_) (nb rfl)
              refine jl_op (ow_assign rfl ?_) (nb rfl); refine jl_nil ?_; refine jq_then ?_; refine jc_cond rfl (fun _ => ?_) (fun h => by cases h); refine jc_seq ?_; refine jc_region ?_; refine jl_op (ow_move rfl ?_) (nb rfl)
              refine jl_op (ow_add64 rfl rfl (by omega) ?_) (nb rfl); refine jl_op (ow_assign rfl ?_) (nb rfl); refine jl_nil ?_; refine jq_then ?_; refine jc_exit ?_; refine jq_block_other rfl ?_; refine jq_then_exit ?_
              refine jq_block_exit ?_; refine jq_againS (i := (k, line, v, out)) (k + 1, line, v, out) ⟨hsc, by dsimp only; omega, by dsimp only; omega, by dsimp only; omega, by dsimp only; omega⟩ (by dsimp only; omega) ?_ ?_
              · refine sub_step 0 rfl ?_; exact sub_end
              · (repeat (first | exact True.intro | refine ⟨rfl, ?_⟩))
            · have h9 : byteAt s (k : Int).toNat = 9 := hw.resolve_left h32
              refine jc_seq ?_; refine jc_region ?_; refine jl_op (ow_move rfl ?_) (nb rfl); refine jl_op (ow_eql rfl rfl ?_) (nb rfl); refine jl_op (ow_move rfl ?_) (nb rfl)
              refine jl_guardY rfl (decide_eq_false (by assumption)) (nb rfl) (ow_move rfl ?_); refine jl_guardY rfl (decide_eq_false (by assumption)) (nb rfl) (ow_eql rfl rfl ?_)
              refine jl_op (ow_pickF rfl (decide_eq_false (by assumption)) rfl ?_) (nb rfl); refine jl_op (ow_assign rfl ?_) (nb rfl); refine jl_nil ?_; refine jq_then ?_; refine jc_condd rfl (fun _ => ?_) (fun h => absurd h9 h)
              refine jc_seq ?_; refine jc_region ?_; refine jl_op (ow_move rfl ?_) (nb rfl); refine jl_op (ow_add64 rfl rfl (by omega) ?_) (nb rfl); refine jl_op (ow_assign rfl ?_) (nb rfl); refine jl_nil ?_; refine jq_then ?_
              refine jc_exit ?_; refine jq_block_other rfl ?_; refine jq_then_exit ?_; refine jq_block_exit ?_
              refine jq_againS (i := (k, line, v, out)) (k + 1, line, v, out) ⟨hsc, by dsimp only; omega, by dsimp only; omega, by dsimp only; omega, by dsimp only; omega⟩ (by dsimp only; omega) ?_ ?_
              · refine sub_step 0 rfl ?_; exact sub_end
              · (repeat (first | exact True.intro | refine ⟨rfl, ?_⟩))
          · rw [if_neg hw] at hsc
            have h32 : ¬ byteAt s (k : Int).toNat = 32 := fun h => hw (.inl h)
            have h9 : ¬ byteAt s (k : Int).toNat = 9 := fun h => hw (.inr h)
            refine jc_seq ?_; refine jc_region ?_; refine jl_op (ow_move rfl ?_) (nb rfl); refine jl_op (ow_eql rfl rfl ?_) (nb rfl); refine jl_op (ow_move rfl ?_) (nb rfl)
            refine jl_guardY rfl (decide_eq_false (by assumption)) (nb rfl) (ow_move rfl ?_); refine jl_guardY rfl (decide_eq_false (by assumption)) (nb rfl) (ow_eql rfl rfl ?_)
            refine jl_op (ow_pickF rfl (decide_eq_false (by assumption)) rfl ?_) (nb rfl); refine jl_op (ow_assign rfl ?_) (nb rfl); refine jl_nil ?_; refine jq_then ?_; refine jc_condd rfl (fun h => absurd h h9) (fun _ => ?_)
            refine jc_reset [(0, Str s), (2, S.cell (C.val (.slice none 0 0))), (5, .cell (.val v)), (6, In .i64 line), (7, In .i64 (k : Int)), (8, In .u8 (byteAt s k)), (9, In .i64 (k : Int))] [.own v 76 4 (out.map Tok.row)] ?_ ⟨[0], [], rfl⟩ ?_
            · (repeat (first | exact True.intro | refine ⟨rfl, ?_⟩))
            refine jc_seq ?_; refine jc_region ?_; refine jl_op (ow_move rfl ?_) (nb rfl); refine jl_op (ow_call0 rfl (rletter_c _) ?_) (nb rfl); refine jl_op (ow_assign rfl ?_) (nb rfl); refine jl_nil ?_; refine jq_then ?_
            refine jc_cond rfl (fun hL => ?_) (fun hL => ?_)
            · refine jc_seq ?_; refine jc_block ?_
              refine jc_loopS [] (fun j : Nat => k + j ≤ s.size ∧ ∀ i, i < j → isLD (byteAt s (k + i)) = true) (fun j => [(0, Str s), (2, S.cell (C.val (.slice none 0 0))), (5, .cell (.val v)), (6, In .i64 line), (7, In .i64 (k : Int)), (9, In .i64 ((k + j : Nat) : Int))]) (fun _ => [.own v 76 4 (out.map Tok.row)]) (fun j => s.size - (k + j)) 0 ⟨by omega, fun j h => by omega⟩ ?_ ?_ ?_
              · refine sub_step 0 rfl ?_; exact sub_end
              · (repeat (first | exact True.intro | refine ⟨rfl, ?_⟩))
              · rintro j ⟨hkj, hall⟩
                refine jc_reset [(0, Str s), (2, S.cell (C.val (.slice none 0 0))), (5, .cell (.val v)), (6, In .i64 line), (7, In .i64 (k : Int)), (9, In .i64 ((k + j : Nat) : Int))] [.own v 76 4 (out.map Tok.row)] ?_ ⟨[0], [], rfl⟩ ?_
                · (repeat (first | exact True.intro | refine ⟨rfl, ?_⟩))
                by_cases hlt2 : ((k + j : Nat) : Int) < (s.size : Int)
                · cases hl0 : isL (byteAt s ((k + j : Nat) : Int).toNat) with
                  | true =>
                    refine jc_seq ?_; refine jc_seq ?_; refine jc_region ?_; refine jl_op (ow_move rfl ?_) (nb rfl); refine jl_op (ow_move rfl ?_) (nb rfl); refine jl_op (ow_lenstr rfl rfl ?_) (nb rfl)
                    refine jl_op (ow_lss rfl rfl ?_) (nb rfl); refine jl_op (ow_move rfl ?_) (nb rfl); refine jl_guardY rfl (decide_eq_true (by assumption)) (nb rfl) (ow_move rfl ?_)
                    refine jl_guardY rfl (decide_eq_true (by assumption)) (nb rfl) (ow_move rfl ?_); refine jl_guardY rfl (decide_eq_true (by assumption)) (nb rfl) (ow_indexStr rfl rfl rfl (by omega) (by omega) ?_)
                    refine jl_guardY rfl (decide_eq_true (by assumption)) (nb rfl) (ow_call0 rfl (rletter_c _) ?_); refine jl_guardY rfl (decide_eq_true (by assumption)) (nb rfl) (ow_move rfl ?_)
                    refine jl_guardN rfl (by assumption) (nb rfl) ?_; refine jl_guardN rfl (by assumption) (nb rfl) ?_; refine jl_guardN rfl (by assumption) (nb rfl) ?_; refine jl_guardN rfl (by assumption) (nb rfl) ?_
                    refine jl_guardY rfl (decide_eq_true (by assumption)) (nb rfl) (ow_pickT rfl (by assumption) rfl ?_); refine jl_op (ow_pickT rfl (decide_eq_true (by assumption)) rfl ?_) (nb rfl); refine jl_nil ?_
                    refine jq_then ?_; refine jc_cond rfl (fun _ => ?_) (fun h => by cases h); refine jc_skip ?_; refine jq_then ?_; refine jc_block ?_; refine jc_region ?_; refine jl_op (ow_move rfl ?_) (nb rfl)
                    refine jl_op (ow_add64 rfl rfl (by omega) ?_) (nb rfl); refine jl_op (ow_assign rfl ?_) (nb rfl); refine jl_nil ?_; refine jq_block ?_; refine jq_againS (j + 1) ⟨by omega, fun i hi => ?_⟩ (by omega) ?_ ?_
                    · by_cases hij : i < j
                      · exact hall i hij
                      · obtain rfl : i = j := by omega
                        unfold isLD
                        rw [show isL (byteAt s (k + i)) = true from hl0]; rfl
                    · refine sub_step 0 rfl ?_; exact sub_end
                    · (repeat (first | exact True.intro | refine ⟨rfl, ?_⟩))
                  | false =>
                    refine jc_seq ?_; refine jc_seq ?_; refine jc_region ?_; refine jl_op (ow_move rfl ?_) (nb rfl); refine jl_op (ow_move rfl ?_) (nb rfl); refine jl_op (ow_lenstr rfl rfl ?_) (nb rfl)
                    refine jl_op (ow_lss rfl rfl ?_) (nb rfl); refine jl_op (ow_move rfl ?_) (nb rfl); refine jl_guardY rfl (decide_eq_true (by assumption)) (nb rfl) (ow_move rfl ?_)
                    refine jl_guardY rfl (decide_eq_true (by assumption)) (nb rfl) (ow_move rfl ?_); refine jl_guardY rfl (decide_eq_true (by assumption)) (nb rfl) (ow_indexStr rfl rfl rfl (by omega) (by omega) ?_)
                    refine jl_guardY rfl (decide_eq_true (by assumption)) (nb rfl) (ow_call0 rfl (rletter_c _) ?_); refine jl_guardY rfl (decide_eq_true (by assumption)) (nb rfl) (ow_move rfl ?_)
                    refine jl_guardY rfl (by assumption) (nb rfl) (ow_move rfl ?_); refine jl_guardY rfl (by assumption) (nb rfl) (ow_move rfl ?_)
                    refine jl_guardY rfl (by assumption) (nb rfl) (ow_indexStr rfl rfl rfl (by omega) (by omega) ?_); refine jl_guardY rfl (by assumption) (nb rfl) (ow_call0 rfl (rdigit_c _) ?_)
                    refine jl_guardY rfl (decide_eq_true (by assumption)) (nb rfl) (ow_pickF rfl (by assumption) rfl ?_); refine jl_op (ow_pickT rfl (decide_eq_true (by assumption)) rfl ?_) (nb rfl); refine jl_nil ?_
                    refine jq_then ?_; refine jc_cond rfl (fun hb => ?_) (fun hb => ?_)
                    · refine jc_skip ?_; refine jq_then ?_; refine jc_block ?_; refine jc_region ?_; refine jl_op (ow_move rfl ?_) (nb rfl); refine jl_op (ow_add64 rfl rfl (by omega) ?_) (nb rfl)
                      refine jl_op (ow_assign rfl ?_) (nb rfl); refine jl_nil ?_; refine jq_block ?_; refine jq_againS (j + 1) ⟨by omega, fun i hi => ?_⟩ (by omega) ?_ ?_
                      · by_cases hij : i < j
                        · exact hall i hij
                        · obtain rfl : i = j := by omega
                          unfold isLD
                          rw [show isD (byteAt s (k + i)) = true from hb, Bool.or_true]
                      · refine sub_step 0 rfl ?_; exact sub_end
                      · (repeat (first | exact True.intro | refine ⟨rfl, ?_⟩))
                    · have hf : isLD (byteAt s (k + j)) = false := by
                        unfold isLD
                        rw [show isL (byteAt s (k + j)) = false from hl0, show isD (byteAt s (k + j)) = false from hb]
                        rfl
                      have hjp : 0 < j := by
                        rcases Nat.eq_zero_or_pos j with h | h
                        · subst h
                          exact absurd (show isL (byteAt s k) = true from hL) (by rw [show isL (byteAt s k) = false from hl0]; simp)
                        · exact h
                      have hj : runLen isLD (s.extract k s.size) = j := runLen_eq (fun i hi => by rw [byteAt_extract]; exact hall i hi) (by omega) (fun _ => by rw [byteAt_extract]; exact hf)
                      have hnl0 : nameLen (s.extract k s.size) = j := by
                        unfold nameLen
                        rw [if_pos ⟨by omega, by rw [byteAt_extract, Nat.add_zero]; exact hL⟩]
                        exact hj
                      have hnx : nextT (s.extract k s.size) = if 12 < j then ((0, 0, ⟨#[]⟩), 0) else ((1, 0, s.extract k (k + j)), j) := by
                        unfold nextT
                        rw [hnl0, if_pos (by omega), extract_extract s k j (by omega)]
                      have hsub : ((k + j : Nat) : Int) - (k : Int) = (j : Int) := by omega
                      refine jc_exit ?_; refine jq_then_exit ?_; refine jq_then_exit ?_; refine jq_block_exit ?_; refine jq_then ?_; refine jc_seq ?_; refine jc_seq ?_; refine jc_region ?_; refine jl_op (ow_move rfl ?_) (nb rfl)
                      refine jl_op (ow_move rfl ?_) (nb rfl); refine jl_op (ow_sub64 rfl rfl (by omega) ?_) (nb rfl); refine jl_op (ow_gtr rfl rfl ?_) (nb rfl); refine jl_nil ?_; refine jq_then ?_
                      refine jc_condd rfl (fun h12 => ?_) (fun h12 => ?_)
                      · rw [if_pos (by omega)] at hnx
                        rw [hnx] at hsc
                        refine jc_seq ?_; refine jc_region ?_; refine jl_op (ow_move rfl ?_) (nb rfl); refine jl_op (ow_assign rfl ?_) (nb rfl); refine jl_op (ow_assign rfl ?_) (nb rfl); refine jl_op (ow_assign rfl ?_) (nb rfl)
                        refine jl_nil ?_; refine jq_then ?_; refine jc_ret ?_; refine jq_then_ret ?_; refine jq_block_ret ?_; refine jq_then_ret ?_; refine jq_block_ret ?_; refine jq_then_ret ?_; refine jq_block_ret ?_
                        refine jq_then_ret ?_
                        have e : scan s = ([], line, 1) := by rw [← hsc, dif_pos rfl]
                        refine jq_ownNil 76 4 (by omega) ?_; refine jq_freeze 2 0 rfl rfl (by rw [hc]; simp [Go.Vc.hb]) ?_; refine jq_ret3 rfl rfl rfl rfl (fun K h => by rw [e] at h; exact h) ?_; exact sub_end
                      · rw [if_neg (by omega)] at hnx
                        rw [hnx] at hsc
                        dsimp only at hsc
                        rw [dif_neg (by omega)] at hsc
                        refine jc_skip ?_; refine jq_then ?_; refine jc_region ?_; refine jl_op (ow_move rfl ?_) (nb rfl); refine jl_op (ow_move rfl ?_) (nb rfl); refine jl_op (ow_move rfl ?_) (nb rfl)
                        refine jl_op (ow_move rfl ?_) (nb rfl); refine jl_op (ow_move rfl ?_) (nb rfl); refine jl_op (ow_substr rfl rfl rfl rfl (by omega) (by omega) (by omega) ?_) (nb rfl)
                        refine jl_op (ow_build rfl rfl rfl rfl rfl ?_) (nb rfl); refine jl_op (ow_buildSlice rfl rfl (nb rfl) rfl rfl (nb rfl) ?_) (nb rfl)
                        refine jl_op (ow_append1 0 ((⟨1, 0, line, s.extract k (k + j)⟩ : Tok)) rfl rfl rfl rfl rfl rfl rfl (fun _ => rfl) (by show (_ + _) * 40 ≤ _; first | omega | (simp only [List.length_append]; omega)) (by first | omega | (simp only [List.length_append]; omega)) (fun v1 hv1 => ?_)) (nb rfl)
                        refine jl_op (ow_assign rfl ?_) (nb rfl); refine jl_nil ?_; refine jq_block ?_; refine jq_then ?_; refine jc_region ?_; refine jl_op (ow_move rfl ?_) (nb rfl); refine jl_op (ow_assign rfl ?_) (nb rfl)
                        refine jl_nil ?_; refine jq_block ?_
                        refine jq_againS (i := (k, line, v, out)) (k + j, line, v1, out ++ [(⟨1, 0, line, s.extract k (k + j)⟩ : Tok)]) ⟨hsc, by dsimp only; omega, hl1, by dsimp only; omega, by dsimp only; rw [List.length_append, List.length_singleton]; omega⟩ (by dsimp only; omega) ?_ ?_
                        · refine sub_step 0 rfl ?_; exact sub_end
                        · (repeat (first | exact True.intro | refine ⟨rfl, ?_⟩))
                · refine jc_seq ?_; refine jc_seq ?_; refine jc_region ?_; refine jl_op (ow_move rfl ?_) (nb rfl); refine jl_op (ow_move rfl ?_) (nb rfl); refine jl_op (ow_lenstr rfl rfl ?_) (nb rfl)
                  refine jl_op (ow_lss rfl rfl ?_) (nb rfl); refine jl_op (ow_move rfl ?_) (nb rfl); refine jl_guardN rfl (decide_eq_false (by assumption)) (nb rfl) ?_
                  refine jl_guardN rfl (decide_eq_false (by assumption)) (nb rfl) ?_; refine jl_guardN rfl (decide_eq_false (by assumption)) (nb rfl) ?_; refine jl_guardN rfl (decide_eq_false (by assumption)) (nb rfl) ?_
                  refine jl_guardN rfl (decide_eq_false (by assumption)) (nb rfl) ?_; refine jl_guardU rfl (nb rfl) ?_; refine jl_guardU rfl (nb rfl) ?_; refine jl_guardU rfl (nb rfl) ?_; refine jl_guardU rfl (nb rfl) ?_
                  refine jl_guardN rfl (decide_eq_false (by assumption)) (nb rfl) ?_; refine jl_op (ow_pickF rfl (decide_eq_false (by assumption)) rfl ?_) (nb rfl); refine jl_nil ?_; refine jq_then ?_
                  refine jc_cond rfl (fun h => by cases h) (fun _ => ?_)
                  have hjp : 0 < j := by omega
                  have hj : runLen isLD (s.extract k s.size) = j := runLen_eq (fun i hi => by rw [byteAt_extract]; exact hall i hi) (by omega) (fun h => by omega)
                  have hnl0 : nameLen (s.extract k s.size) = j := by
                    unfold nameLen
                    rw [if_pos ⟨by omega, by rw [byteAt_extract, Nat.add_zero]; exact hL⟩]
                    exact hj
                  have hnx : nextT (s.extract k s.size) = if 12 < j then ((0, 0, ⟨#[]⟩), 0) else ((1, 0, s.extract k (k + j)), j) := by
                    unfold nextT
                    rw [hnl0, if_pos (by omega), extract_extract s k j (by omega)]
                  have hsub : ((k + j : Nat) : Int) - (k : Int) = (j : Int) := by omega
                  refine jc_exit ?_; refine jq_then_exit ?_; refine jq_then_exit ?_; refine jq_block_exit ?_; refine jq_then ?_; refine jc_seq ?_; refine jc_seq ?_; refine jc_region ?_; refine jl_op (ow_move rfl ?_) (nb rfl)
                  refine jl_op (ow_move rfl ?_) (nb rfl); refine jl_op (ow_sub64 rfl rfl (by omega) ?_) (nb rfl); refine jl_op (ow_gtr rfl rfl ?_) (nb rfl); refine jl_nil ?_; refine jq_then ?_
                  refine jc_condd rfl (fun h12 => ?_) (fun h12 => ?_)
                  · rw [if_pos (by omega)] at hnx
                    rw [hnx] at hsc
                    refine jc_seq ?_; refine jc_region ?_; refine jl_op (ow_move rfl ?_) (nb rfl); refine jl_op (ow_assign rfl ?_) (nb rfl); refine jl_op (ow_assign rfl ?_) (nb rfl); refine jl_op (ow_assign rfl ?_) (nb rfl)
                    refine jl_nil ?_; refine jq_then ?_; refine jc_ret ?_; refine jq_then_ret ?_; refine jq_block_ret ?_; refine jq_then_ret ?_; refine jq_block_ret ?_; refine jq_then_ret ?_; refine jq_block_ret ?_
                    refine jq_then_ret ?_
                    have e : scan s = ([], line, 1) := by rw [← hsc, dif_pos rfl]
                    refine jq_ownNil 76 4 (by omega) ?_; refine jq_freeze 2 0 rfl rfl (by rw [hc]; simp [Go.Vc.hb]) ?_; refine jq_ret3 rfl rfl rfl rfl (fun K h => by rw [e] at h; exact h) ?_; exact sub_end
                  · rw [if_neg (by omega)] at hnx
                    rw [hnx] at hsc
                    dsimp only at hsc
                    rw [dif_neg (by omega)] at hsc
                    refine jc_skip ?_; refine jq_then ?_; refine jc_region ?_; refine jl_op (ow_move rfl ?_) (nb rfl); refine jl_op (ow_move rfl ?_) (nb rfl); refine jl_op (ow_move rfl ?_) (nb rfl)
                    refine jl_op (ow_move rfl ?_) (nb rfl); refine jl_op (ow_move rfl ?_) (nb rfl); refine jl_op (ow_substr rfl rfl rfl rfl (by omega) (by omega) (by omega) ?_) (nb rfl)
                    refine jl_op (ow_build rfl rfl rfl rfl rfl ?_) (nb rfl); refine jl_op (ow_buildSlice rfl rfl (nb rfl) rfl rfl (nb rfl) ?_) (nb rfl)
                    refine jl_op (ow_append1 0 ((⟨1, 0, line, s.extract k (k + j)⟩ : Tok)) rfl rfl rfl rfl rfl rfl rfl (fun _ => rfl) (by show (_ + _) * 40 ≤ _; first | omega | (simp only [List.length_append]; omega)) (by first | omega | (simp only [List.length_append]; omega)) (fun v1 hv1 => ?_)) (nb rfl)
                    refine jl_op (ow_assign rfl ?_) (nb rfl); refine jl_nil ?_; refine jq_block ?_; refine jq_then ?_; refine jc_region ?_; refine jl_op (ow_move rfl ?_) (nb rfl); refine jl_op (ow_assign rfl ?_) (nb rfl)
                    refine jl_nil ?_; refine jq_block ?_
                    refine jq_againS (i := (k, line, v, out)) (k + j, line, v1, out ++ [(⟨1, 0, line, s.extract k (k + j)⟩ : Tok)]) ⟨hsc, by dsimp only; omega, hl1, by dsimp only; omega, by dsimp only; rw [List.length_append, List.length_singleton]; omega⟩ (by dsimp only; omega) ?_ ?_
                    · refine sub_step 0 rfl ?_; exact sub_end
                    · (repeat (first | exact True.intro | refine ⟨rfl, ?_⟩))
            · refine jc_seq ?_; refine jc_region ?_; refine jl_op (ow_move rfl ?_) (nb rfl); refine jl_op (ow_call0 rfl (rdigit_c _) ?_) (nb rfl); refine jl_op (ow_assign rfl ?_) (nb rfl); refine jl_nil ?_; refine jq_then ?_
              refine jc_cond rfl (fun hD => ?_) (fun hD => ?_)
              · have hn0 : nameLen (s.extract k s.size) = 0 := by
                  unfold nameLen
                  rw [if_neg]
                  rintro ⟨_, h⟩
                  rw [byteAt_extract, Nat.add_zero, hL] at h
                  cases h
                refine jc_seq ?_; refine jc_block ?_
                refine jc_loopS [] (fun j : Nat => k + j ≤ s.size ∧ ∀ i, i < j → isD (byteAt s (k + i)) = true) (fun j => [(0, Str s), (2, S.cell (C.val (.slice none 0 0))), (5, .cell (.val v)), (6, In .i64 line), (7, In .i64 (k : Int)), (9, In .i64 ((k + j : Nat) : Int))]) (fun _ => [.own v 76 4 (out.map Tok.row)]) (fun j => s.size - (k + j)) 0 ⟨by omega, fun j h => by omega⟩ ?_ ?_ ?_
                · refine sub_step 0 rfl ?_; exact sub_end
                · (repeat (first | exact True.intro | refine ⟨rfl, ?_⟩))
                · rintro j ⟨hkj, hall⟩
                  refine jc_reset [(0, Str s), (2, S.cell (C.val (.slice none 0 0))), (5, .cell (.val v)), (6, In .i64 line), (7, In .i64 (k : Int)), (9, In .i64 ((k + j : Nat) : Int))] [.own v 76 4 (out.map Tok.row)] ?_ ⟨[0], [], rfl⟩ ?_
                  · (repeat (first | exact True.intro | refine ⟨rfl, ?_⟩))
                  by_cases hlt2 : ((k + j : Nat) : Int) < (s.size : Int)
                  · refine jc_seq ?_; refine jc_seq ?_; refine jc_region ?_; refine jl_op (ow_move rfl ?_) (nb rfl); refine jl_op (ow_move rfl ?_) (nb rfl); refine jl_op (ow_lenstr rfl rfl ?_) (nb rfl)
                    refine jl_op (ow_lss rfl rfl ?_) (nb rfl); refine jl_op (ow_move rfl ?_) (nb rfl); refine jl_guardY rfl (decide_eq_true (by assumption)) (nb rfl) (ow_move rfl ?_)
                    refine jl_guardY rfl (decide_eq_true (by assumption)) (nb rfl) (ow_move rfl ?_); refine jl_guardY rfl (decide_eq_true (by assumption)) (nb rfl) (ow_indexStr rfl rfl rfl (by omega) (by omega) ?_)
                    refine jl_guardY rfl (decide_eq_true (by assumption)) (nb rfl) (ow_call0 rfl (rdigit_c _) ?_); refine jl_op (ow_pickT rfl (decide_eq_true (by assumption)) rfl ?_) (nb rfl); refine jl_nil ?_; refine jq_then ?_
                    refine jc_cond rfl (fun hb => ?_) (fun hb => ?_)
                    · refine jc_skip ?_; refine jq_then ?_; refine jc_block ?_; refine jc_region ?_; refine jl_op (ow_move rfl ?_) (nb rfl); refine jl_op (ow_add64 rfl rfl (by omega) ?_) (nb rfl)
                      refine jl_op (ow_assign rfl ?_) (nb rfl); refine jl_nil ?_; refine jq_block ?_; refine jq_againS (j + 1) ⟨by omega, fun i hi => ?_⟩ (by omega) ?_ ?_
                      · by_cases hij : i < j
                        · exact hall i hij
                        · obtain rfl : i = j := by omega
                          exact hb
                      · refine sub_step 0 rfl ?_; exact sub_end
                      · (repeat (first | exact True.intro | refine ⟨rfl, ?_⟩))
                    · have hjp : 0 < j := by
                        rcases Nat.eq_zero_or_pos j with h | h
                        · subst h
                          exact absurd (show isD (byteAt s k) = true from hD) (by rw [show isD (byteAt s k) = false from hb]; simp)
                        · exact h
                      have hj : runLen isD (s.extract k s.size) = j := runLen_eq (fun i hi => by rw [byteAt_extract]; exact hall i hi) (by omega) (fun _ => by rw [byteAt_extract]; exact hb)
                      have hdig := run_dig (s.extract k s.size)
                      rw [hj, extract_extract s k j (by omega)] at hdig
                      have hzz : (s.extract k (k + j)).size ≤ 1000000 := by rw [extract_size _ _ _ (by omega)]; omega
                      have hv := value_c (s.extract k (k + j)) hzz hdig
                      have hvb := numVal_bd _ hdig
                      have hnx : nextT (s.extract k s.size) = if 2147483647 < numVal (bytesI (s.extract k (k + j))) then ((0, 0, ⟨#[]⟩), 0) else ((2, numVal (bytesI (s.extract k (k + j))), ⟨#[]⟩), j) := by
                        unfold nextT
                        rw [if_neg (by omega), if_pos (by omega), hj, extract_extract s k j (by omega)]
                      by_cases hbig : 2147483648 ≤ numVal (bytesI (s.extract k (k + j)))
                      · rw [if_pos hbig] at hv
                        rw [if_pos (by omega)] at hnx
                        rw [hnx] at hsc
                        refine jc_exit ?_; refine jq_then_exit ?_; refine jq_then_exit ?_; refine jq_block_exit ?_; refine jq_then ?_; refine jc_seq ?_; refine jc_region ?_; refine jl_op (ow_move rfl ?_) (nb rfl)
                        refine jl_op (ow_move rfl ?_) (nb rfl); refine jl_op (ow_move rfl ?_) (nb rfl); refine jl_op (ow_substr rfl rfl rfl rfl (by omega) (by omega) (by omega) ?_) (nb rfl)
                        refine jl_op (ow_call0 rfl (hv) ?_) (nb rfl); refine jl_op (ow_assign rfl ?_) (nb rfl); refine jl_nil ?_; refine jq_then ?_; refine jc_seq ?_; refine jc_seq ?_; refine jc_region ?_
                        refine jl_op (ow_move rfl ?_) (nb rfl); refine jl_op (ow_lss rfl rfl ?_) (nb rfl); refine jl_nil ?_; refine jq_then ?_; refine jc_condd rfl (fun _ => ?_) (fun h => absurd (by decide) h); refine jc_seq ?_
                        refine jc_region ?_; refine jl_op (ow_move rfl ?_) (nb rfl); refine jl_op (ow_assign rfl ?_) (nb rfl); refine jl_op (ow_assign rfl ?_) (nb rfl); refine jl_op (ow_assign rfl ?_) (nb rfl); refine jl_nil ?_
                        refine jq_then ?_; refine jc_ret ?_; refine jq_then_ret ?_; refine jq_block_ret ?_; refine jq_then_ret ?_; refine jq_block_ret ?_; refine jq_then_ret ?_; refine jq_block_ret ?_; refine jq_then_ret ?_
                        have e : scan s = ([], line, 1) := by rw [← hsc, dif_pos rfl]
                        refine jq_ownNil 76 4 (by omega) ?_; refine jq_freeze 2 0 rfl rfl (by rw [hc]; simp [Go.Vc.hb]) ?_; refine jq_ret3 rfl rfl rfl rfl (fun K h => by rw [e] at h; exact h) ?_; exact sub_end
                      · rw [if_neg hbig] at hv
                        rw [if_neg (by omega)] at hnx
                        rw [hnx] at hsc
                        dsimp only at hsc
                        rw [dif_neg (by omega)] at hsc
                        refine jc_exit ?_; refine jq_then_exit ?_; refine jq_then_exit ?_; refine jq_block_exit ?_; refine jq_then ?_; refine jc_seq ?_; refine jc_region ?_; refine jl_op (ow_move rfl ?_) (nb rfl)
                        refine jl_op (ow_move rfl ?_) (nb rfl); refine jl_op (ow_move rfl ?_) (nb rfl); refine jl_op (ow_substr rfl rfl rfl rfl (by omega) (by omega) (by omega) ?_) (nb rfl)
                        refine jl_op (ow_call0 rfl (hv) ?_) (nb rfl); refine jl_op (ow_assign rfl ?_) (nb rfl); refine jl_nil ?_; refine jq_then ?_; refine jc_seq ?_; refine jc_seq ?_; refine jc_region ?_
                        refine jl_op (ow_move rfl ?_) (nb rfl); refine jl_op (ow_lss rfl rfl ?_) (nb rfl); refine jl_nil ?_; refine jq_then ?_; refine jc_condd rfl (fun h => absurd h (by omega)) (fun _ => ?_); refine jc_skip ?_
                        refine jq_then ?_; refine jc_region ?_; refine jl_op (ow_move rfl ?_) (nb rfl); refine jl_op (ow_move rfl ?_) (nb rfl); refine jl_op (ow_move rfl ?_) (nb rfl)
                        refine jl_op (ow_build rfl rfl rfl rfl rfl ?_) (nb rfl); refine jl_op (ow_buildSlice rfl rfl (nb rfl) rfl rfl (nb rfl) ?_) (nb rfl)
                        refine jl_op (ow_append1 0 ((⟨2, numVal (bytesI (s.extract k (k + j))), line, ⟨#[]⟩⟩ : Tok)) rfl rfl rfl rfl rfl rfl rfl (fun _ => rfl) (by show (_ + _) * 40 ≤ _; first | omega | (simp only [List.length_append]; omega)) (by first | omega | (simp only [List.length_append]; omega)) (fun v1 hv1 => ?_)) (nb rfl)
                        refine jl_op (ow_assign rfl ?_) (nb rfl); refine jl_nil ?_; refine jq_block ?_; refine jq_then ?_; refine jc_region ?_; refine jl_op (ow_move rfl ?_) (nb rfl); refine jl_op (ow_assign rfl ?_) (nb rfl)
                        refine jl_nil ?_; refine jq_block ?_
                        refine jq_againS (i := (k, line, v, out)) (k + j, line, v1, out ++ [(⟨2, numVal (bytesI (s.extract k (k + j))), line, ⟨#[]⟩⟩ : Tok)]) ⟨hsc, by dsimp only; omega, hl1, by dsimp only; omega, by dsimp only; rw [List.length_append, List.length_singleton]; omega⟩ (by dsimp only; omega) ?_ ?_
                        · refine sub_step 0 rfl ?_; exact sub_end
                        · (repeat (first | exact True.intro | refine ⟨rfl, ?_⟩))
                  · refine jc_seq ?_; refine jc_seq ?_; refine jc_region ?_; refine jl_op (ow_move rfl ?_) (nb rfl); refine jl_op (ow_move rfl ?_) (nb rfl); refine jl_op (ow_lenstr rfl rfl ?_) (nb rfl)
                    refine jl_op (ow_lss rfl rfl ?_) (nb rfl); refine jl_op (ow_move rfl ?_) (nb rfl); refine jl_guardN rfl (decide_eq_false (by assumption)) (nb rfl) ?_
                    refine jl_guardN rfl (decide_eq_false (by assumption)) (nb rfl) ?_; refine jl_guardN rfl (decide_eq_false (by assumption)) (nb rfl) ?_; refine jl_guardN rfl (decide_eq_false (by assumption)) (nb rfl) ?_
                    refine jl_op (ow_pickF rfl (decide_eq_false (by assumption)) rfl ?_) (nb rfl); refine jl_nil ?_; refine jq_then ?_; refine jc_cond rfl (fun h => by cases h) (fun _ => ?_)
                    have hjp : 0 < j := by omega
                    have hj : runLen isD (s.extract k s.size) = j := runLen_eq (fun i hi => by rw [byteAt_extract]; exact hall i hi) (by omega) (fun h => by omega)
                    have hdig := run_dig (s.extract k s.size)
                    rw [hj, extract_extract s k j (by omega)] at hdig
                    have hzz : (s.extract k (k + j)).size ≤ 1000000 := by rw [extract_size _ _ _ (by omega)]; omega
                    have hv := value_c (s.extract k (k + j)) hzz hdig
                    have hvb := numVal_bd _ hdig
                    have hnx : nextT (s.extract k s.size) = if 2147483647 < numVal (bytesI (s.extract k (k + j))) then ((0, 0, ⟨#[]⟩), 0) else ((2, numVal (bytesI (s.extract k (k + j))), ⟨#[]⟩), j) := by
                      unfold nextT
                      rw [if_neg (by omega), if_pos (by omega), hj, extract_extract s k j (by omega)]
                    by_cases hbig : 2147483648 ≤ numVal (bytesI (s.extract k (k + j)))
                    · rw [if_pos hbig] at hv
                      rw [if_pos (by omega)] at hnx
                      rw [hnx] at hsc
                      refine jc_exit ?_; refine jq_then_exit ?_; refine jq_then_exit ?_; refine jq_block_exit ?_; refine jq_then ?_; refine jc_seq ?_; refine jc_region ?_; refine jl_op (ow_move rfl ?_) (nb rfl)
                      refine jl_op (ow_move rfl ?_) (nb rfl); refine jl_op (ow_move rfl ?_) (nb rfl); refine jl_op (ow_substr rfl rfl rfl rfl (by omega) (by omega) (by omega) ?_) (nb rfl)
                      refine jl_op (ow_call0 rfl (hv) ?_) (nb rfl); refine jl_op (ow_assign rfl ?_) (nb rfl); refine jl_nil ?_; refine jq_then ?_; refine jc_seq ?_; refine jc_seq ?_; refine jc_region ?_
                      refine jl_op (ow_move rfl ?_) (nb rfl); refine jl_op (ow_lss rfl rfl ?_) (nb rfl); refine jl_nil ?_; refine jq_then ?_; refine jc_condd rfl (fun _ => ?_) (fun h => absurd (by decide) h); refine jc_seq ?_
                      refine jc_region ?_; refine jl_op (ow_move rfl ?_) (nb rfl); refine jl_op (ow_assign rfl ?_) (nb rfl); refine jl_op (ow_assign rfl ?_) (nb rfl); refine jl_op (ow_assign rfl ?_) (nb rfl); refine jl_nil ?_
                      refine jq_then ?_; refine jc_ret ?_; refine jq_then_ret ?_; refine jq_block_ret ?_; refine jq_then_ret ?_; refine jq_block_ret ?_; refine jq_then_ret ?_; refine jq_block_ret ?_; refine jq_then_ret ?_
                      have e : scan s = ([], line, 1) := by rw [← hsc, dif_pos rfl]
                      refine jq_ownNil 76 4 (by omega) ?_; refine jq_freeze 2 0 rfl rfl (by rw [hc]; simp [Go.Vc.hb]) ?_; refine jq_ret3 rfl rfl rfl rfl (fun K h => by rw [e] at h; exact h) ?_; exact sub_end
                    · rw [if_neg hbig] at hv
                      rw [if_neg (by omega)] at hnx
                      rw [hnx] at hsc
                      dsimp only at hsc
                      rw [dif_neg (by omega)] at hsc
                      refine jc_exit ?_; refine jq_then_exit ?_; refine jq_then_exit ?_; refine jq_block_exit ?_; refine jq_then ?_; refine jc_seq ?_; refine jc_region ?_; refine jl_op (ow_move rfl ?_) (nb rfl)
                      refine jl_op (ow_move rfl ?_) (nb rfl); refine jl_op (ow_move rfl ?_) (nb rfl); refine jl_op (ow_substr rfl rfl rfl rfl (by omega) (by omega) (by omega) ?_) (nb rfl)
                      refine jl_op (ow_call0 rfl (hv) ?_) (nb rfl); refine jl_op (ow_assign rfl ?_) (nb rfl); refine jl_nil ?_; refine jq_then ?_; refine jc_seq ?_; refine jc_seq ?_; refine jc_region ?_
                      refine jl_op (ow_move rfl ?_) (nb rfl); refine jl_op (ow_lss rfl rfl ?_) (nb rfl); refine jl_nil ?_; refine jq_then ?_; refine jc_condd rfl (fun h => absurd h (by omega)) (fun _ => ?_); refine jc_skip ?_
                      refine jq_then ?_; refine jc_region ?_; refine jl_op (ow_move rfl ?_) (nb rfl); refine jl_op (ow_move rfl ?_) (nb rfl); refine jl_op (ow_move rfl ?_) (nb rfl)
                      refine jl_op (ow_build rfl rfl rfl rfl rfl ?_) (nb rfl); refine jl_op (ow_buildSlice rfl rfl (nb rfl) rfl rfl (nb rfl) ?_) (nb rfl)
                      refine jl_op (ow_append1 0 ((⟨2, numVal (bytesI (s.extract k (k + j))), line, ⟨#[]⟩⟩ : Tok)) rfl rfl rfl rfl rfl rfl rfl (fun _ => rfl) (by show (_ + _) * 40 ≤ _; first | omega | (simp only [List.length_append]; omega)) (by first | omega | (simp only [List.length_append]; omega)) (fun v1 hv1 => ?_)) (nb rfl)
                      refine jl_op (ow_assign rfl ?_) (nb rfl); refine jl_nil ?_; refine jq_block ?_; refine jq_then ?_; refine jc_region ?_; refine jl_op (ow_move rfl ?_) (nb rfl); refine jl_op (ow_assign rfl ?_) (nb rfl)
                      refine jl_nil ?_; refine jq_block ?_
                      refine jq_againS (i := (k, line, v, out)) (k + j, line, v1, out ++ [(⟨2, numVal (bytesI (s.extract k (k + j))), line, ⟨#[]⟩⟩ : Tok)]) ⟨hsc, by dsimp only; omega, hl1, by dsimp only; omega, by dsimp only; rw [List.length_append, List.length_singleton]; omega⟩ (by dsimp only; omega) ?_ ?_
                      · refine sub_step 0 rfl ?_; exact sub_end
                      · (repeat (first | exact True.intro | refine ⟨rfl, ?_⟩))
              · have hn0 : nameLen (s.extract k s.size) = 0 := by
                  unfold nameLen
                  rw [if_neg]
                  rintro ⟨_, h⟩
                  rw [byteAt_extract, Nat.add_zero, hL] at h
                  cases h
                have hr0 : runLen isD (s.extract k s.size) = 0 := runLen_eq (fun j hj => by omega) (Nat.zero_le _) (fun _ => by rw [byteAt_extract, Nat.add_zero]; exact hD)
                have hnx : nextT (s.extract k s.size) = ((3, 0, (s.extract k s.size).extract 0 (signLen (s.extract k s.size))), signLen (s.extract k s.size)) := by
                  unfold nextT
                  rw [if_neg (by omega), if_neg (by omega)]
                have hxs : (s.extract k s.size).size ≤ 1000000 := by omega
                refine jc_seq ?_; refine jc_region ?_; refine jl_op (ow_move rfl ?_) (nb rfl); refine jl_op (ow_move rfl ?_) (nb rfl); refine jl_op (ow_substrLo rfl rfl rfl (by omega) (by omega) ?_) (nb rfl)
                refine jl_op (ow_call0 rfl (rsign_c _ hxs) ?_) (nb rfl); refine jl_op (ow_assign rfl ?_) (nb rfl); refine jl_nil ?_; refine jq_then ?_; refine jc_seq ?_; refine jc_seq ?_; refine jc_region ?_
                refine jl_op (ow_move rfl ?_) (nb rfl); refine jl_op (ow_streql rfl rfl ?_) (nb rfl); refine jl_nil ?_; refine jq_then ?_
                have hsl := signLen_le (s.extract k s.size)
                have hrs := rsign_eq (s.extract k s.size)
                have hrz : (rsign (s.extract k s.size)).size = signLen (s.extract k s.size) := by rw [hrs, extract_size _ _ _ hsl]; omega
                have e1 : rsign (s.extract (k : Int).toNat s.size) = rsign (s.extract k s.size) := rfl
                rw [hnx] at hsc
                dsimp only at hsc
                rw [e1]
                refine jc_condd rfl (fun h0 => ?_) (fun h0 => ?_)
                · refine jc_seq ?_; refine jc_region ?_; refine jl_op (ow_move rfl ?_) (nb rfl); refine jl_op (ow_assign rfl ?_) (nb rfl); refine jl_op (ow_assign rfl ?_) (nb rfl); refine jl_op (ow_assign rfl ?_) (nb rfl)
                  refine jl_nil ?_; refine jq_then ?_; refine jc_ret ?_; refine jq_then_ret ?_; refine jq_block_ret ?_; refine jq_then_ret ?_; refine jq_block_ret ?_; refine jq_then_ret ?_; refine jq_block_ret ?_
                  refine jq_then_ret ?_
                  have e : scan s = ([], line, 1) := by rw [← hsc, dif_pos (by rw [← hrz]; exact (empty_iff _).1 h0)]
                  refine jq_ownNil 76 4 (by omega) ?_; refine jq_freeze 2 0 rfl rfl (by rw [hc]; simp [hb]) ?_; refine jq_ret3 rfl rfl rfl rfl (fun K h => by rw [e] at h; exact h) ?_; exact sub_end
                · have hz : ¬ signLen (s.extract k s.size) = 0 := by rw [← hrz]; exact fun h => h0 ((empty_iff _).2 h)
                  rw [dif_neg hz] at hsc
                  refine jc_skip ?_; refine jq_then ?_; refine jc_seq ?_; refine jc_region ?_; refine jl_op (ow_move rfl ?_) (nb rfl); refine jl_op (ow_move rfl ?_) (nb rfl); refine jl_op (ow_lenstr rfl rfl ?_) (nb rfl)
                  refine jl_op (ow_add64 rfl rfl (by omega) ?_) (nb rfl); refine jl_op (ow_assign rfl ?_) (nb rfl); refine jl_nil ?_; refine jq_then ?_; refine jc_region ?_; refine jl_op (ow_move rfl ?_) (nb rfl)
                  refine jl_op (ow_move rfl ?_) (nb rfl); refine jl_op (ow_move rfl ?_) (nb rfl); refine jl_op (ow_build rfl rfl rfl rfl rfl ?_) (nb rfl); refine jl_op (ow_buildSlice rfl rfl (nb rfl) rfl rfl (nb rfl) ?_) (nb rfl)
                  refine jl_op (ow_append1 0 ((⟨3, 0, line, rsign (s.extract k s.size)⟩ : Tok)) rfl rfl rfl rfl rfl rfl rfl (fun _ => rfl) (by show (_ + _) * 40 ≤ _; first | omega | (simp only [List.length_append]; omega)) (by first | omega | (simp only [List.length_append]; omega)) (fun v1 hv1 => ?_)) (nb rfl)
                  refine jl_op (ow_assign rfl ?_) (nb rfl); refine jl_nil ?_; refine jq_block ?_; refine jq_then ?_; refine jc_region ?_; refine jl_op (ow_move rfl ?_) (nb rfl); refine jl_op (ow_assign rfl ?_) (nb rfl)
                  refine jl_nil ?_; refine jq_block ?_
                  rw [← hrs] at hsc
                  refine jq_againS (i := (k, line, v, out)) (k + signLen (s.extract k s.size), line, v1, out ++ [(⟨3, 0, line, rsign (s.extract k s.size)⟩ : Tok)]) ⟨hsc, by dsimp only; omega, hl1, by dsimp only; omega, by dsimp only; rw [List.length_append, List.length_singleton]; omega⟩ (by dsimp only; omega) ?_ ?_
                  · refine sub_step 0 rfl ?_; exact sub_end
                  · rw [show ((k + signLen (s.extract k s.size) : Nat) : Int) = (k : Int) + ((rsign (s.extract k s.size)).size : Int) by omega]
                    (repeat (first | exact True.intro | refine ⟨rfl, ?_⟩))
      · refine jc_exit ?_; refine jq_then_exit ?_; refine jq_then_exit ?_; refine jq_block_exit ?_; refine jq_then ?_; refine jc_seq ?_; refine jc_region ?_; refine jl_op (ow_move rfl ?_) (nb rfl)
        refine jl_op (ow_assign rfl ?_) (nb rfl); refine jl_op (ow_assign rfl ?_) (nb rfl); refine jl_op (ow_assign rfl ?_) (nb rfl); refine jl_nil ?_; refine jq_then ?_; refine jc_ret ?_
        have e : scan s = (out, 0, 0) := by rw [← hsc, scanGo, dif_neg (by omega)]
        refine jq_freeze 2 0 rfl rfl (by rw [hc]; simp [hb]) ?_; refine jq_ret3 rfl rfl rfl rfl (fun K h => by rw [e] at h; exact h) ?_; exact sub_end
end Go.Proofs.YtamajcgdfjeehaaDoor
end

section
namespace Go.Proofs.YtamajcgdfjeehaaDoor
open Go.Vc
attribute [local irreducible] JL JC JQ OpWp Con ConN Pan ConE OpPan HP HT HOk hasW idxW isA isNum isNm numAt txtAt lineAt opAt lx lpx sx sxp
set_option maxHeartbeats 4000000

/-! Tokens out of bytes -/
abbrev Brow (n : Int) : List C := [.val (.int .u8 n)]
def sgW : List ByteArray := [⟨#[43]⟩, ⟨#[45]⟩, ⟨#[42]⟩, ⟨#[47]⟩, ⟨#[37]⟩, ⟨#[38]⟩, ⟨#[124]⟩, ⟨#[94]⟩, ⟨#[60, 60]⟩, ⟨#[62, 62]⟩, ⟨#[60]⟩, ⟨#[60, 61]⟩, ⟨#[61, 61]⟩, ⟨#[33, 61]⟩, ⟨#[40]⟩, ⟨#[41]⟩, ⟨#[91]⟩, ⟨#[93]⟩]
def sgN : List ByteArray := [⟨#[97]⟩, ⟨#[98]⟩, ⟨#[101, 110, 100]⟩]
theorem sgW_len : sgW.length = 18 := rfl
theorem sgN_len : sgN.length = 3 := rfl
abbrev m40 (n : Int) : Int := n % 40
abbrev m3 (n : Int) : Int := n % 40 % 3
def sgTok (n : Int) : Tok := if n % 40 < 18 then ⟨3, 0, 0, sgW.getD (n % 40).toNat ⟨#[]⟩⟩ else if n % 40 < 28 then ⟨2, n % 40, 0, ⟨#[]⟩⟩ else ⟨1, 0, 0, sgN.getD (n % 40 % 3).toNat ⟨#[]⟩⟩
def signsT (l : List Int) : List Tok := (l.take 60).map sgTok
theorem signs_len (l : List Int) : (signsT l).length ≤ 60 := by simp [signsT]; omega
theorem signsL_c (l : List Int) (hl : ∀ n ∈ l, 0 ≤ n ∧ n ≤ 255) : Con Tryd.prog 11 [.cell (.list (l.map Brow))] [] (fun K => K (.cell (.list ((signsT l).map Tok.row))) []) := by
  have eL : (l.map Brow).length = l.length := List.length_map _
  refine con_intro Tryd.func11 rfl rfl (Nat.le_of_ble_eq_true rfl) (fun c hc => ?_); refine jc_seq ?_; refine jc_region ?_; refine jl_op (ow_assign rfl ?_) (nb rfl); refine jl_nil ?_; refine jq_then ?_; refine jc_seq ?_
  refine jc_region ?_; refine jl_op (ow_buildSlice rfl rfl (nb rfl) rfl rfl (nb rfl) ?_) (nb rfl); refine jl_op (ow_assign rfl ?_) (nb rfl); refine jl_nil ?_; refine jq_then ?_; refine jc_seq ?_; refine jc_region ?_
  refine jl_op (ow_assign rfl ?_) (nb rfl); refine jl_nil ?_; refine jq_then ?_; refine jc_seq ?_; refine jc_seq ?_; refine jc_region ?_; refine jl_op (ow_assign rfl ?_) (nb rfl); refine jl_nil ?_; refine jq_then ?_
  refine jc_block ?_; refine jc_ownNil 76 4 (by omega) ?_
  refine jc_loopS (ι := Nat × Value) [] (fun i => i.1 ≤ l.length ∧ i.1 ≤ 60) (fun i => [(0, .cell (.list (l.map Brow))), (3, .cell (.list (sgW.map Wrow))), (4, .cell (.val i.2)), (5, In .i64 (i.1 : Int))]) (fun i => [.own i.2 76 4 (((l.take i.1).map sgTok).map Tok.row)]) (fun i => l.length - i.1) (0, .slice none 0 0) ⟨Nat.zero_le _, Nat.zero_le _⟩ ?_ ?_ ?_
  · refine sub_step 0 rfl ?_; exact sub_end
  · (repeat (first | exact True.intro | refine ⟨rfl, ?_⟩))
  · rintro ⟨k, v⟩ ⟨hk, hk60⟩
    dsimp only at hk hk60 ⊢
    refine jc_reset [(0, .cell (.list (l.map Brow))), (3, .cell (.list (sgW.map Wrow))), (4, .cell (.val v)), (5, In .i64 (k : Int))] [.own v 76 4 (((l.take k).map sgTok).map Tok.row)] ?_ ⟨[0], [], rfl⟩ ?_
    · (repeat (first | exact True.intro | refine ⟨rfl, ?_⟩))
    have eT : (((l.take k).map sgTok).map Tok.row).length = k := by simp; omega
    have eT2 : ((l.take k).map sgTok).length = k := by simp; omega
    by_cases hlt : k < l.length ∧ k < 60
    · obtain ⟨h1, h2⟩ := hlt
      have hn := hl _ (List.getElem_mem h1)
      have eW : (sgW.map Wrow).length = 18 := rfl
      have eW2 := sgW_len
      have h3 : (k : Int) < 60 := by omega
      have e : (l.take (k + 1)).map sgTok = (l.take k).map sgTok ++ [sgTok l[k]] := by rw [List.take_succ_eq_append_getElem h1, List.map_append]; rfl
      have e2 : ∀ x, sgTok l[k] = x → (((l.take (k + 1)).map sgTok).map Tok.row) = (((l.take k).map sgTok) ++ [x]).map Tok.row := fun x hx => by rw [e, hx]
      by_cases hc : l[k] % 40 < 18
      · have hi : (m40 l[k]).toNat < sgW.length := by rw [sgW_len]; show (l[k] % 40).toNat < 18; omega
        have et : sgTok l[k] = ⟨3, 0, 0, sgW[(m40 l[k]).toNat]⟩ := by
          unfold sgTok
          rw [if_pos hc, List.getD_eq_getElem?_getD, List.getElem?_eq_getElem hi]
          rfl
        refine jc_seq ?_; refine jc_seq ?_; refine jc_region ?_; refine jl_op (ow_move rfl ?_) (nb rfl); refine jl_op (ow_move rfl ?_) (nb rfl); refine jl_op (ow_len rfl (fun hlen => ?_)) (nb rfl)
        refine jl_op (ow_lss rfl rfl ?_) (nb rfl); refine jl_op (ow_move rfl ?_) (nb rfl); refine jl_guardY rfl (decide_eq_true (by omega)) (nb rfl) (ow_move rfl ?_)
        refine jl_guardY rfl (decide_eq_true (by omega)) (nb rfl) (ow_lss rfl rfl ?_); refine jl_op (ow_pickT rfl (decide_eq_true (by omega)) rfl ?_) (nb rfl); refine jl_nil ?_; refine jq_then ?_
        refine jc_condT rfl (decide_eq_true (by assumption)) ?_; refine jc_skip ?_; refine jq_then ?_; refine jc_seq ?_; refine jc_block ?_; refine jc_seq ?_; refine jc_region ?_; refine jl_op (ow_move rfl ?_) (nb rfl)
        refine jl_op (ow_move rfl ?_) (nb rfl); refine jl_op (ow_indexAddrMapE rfl rfl (by omega) rfl rfl (nb rfl) ?_) (nb rfl); refine jl_op (ow_loadPlace rfl rfl ?_) (nb rfl)
        refine jl_op (ow_convI64 rfl rfl rfl (by omega) ?_) (nb rfl); refine jl_op (ow_rem64 rfl rfl (by omega) (by omega) ?_) (nb rfl); refine jl_op (ow_assign rfl ?_) (nb rfl); refine jl_nil ?_; refine jq_then ?_
        refine jc_block ?_; refine jc_seq ?_; refine jc_region ?_; refine jl_op (ow_move rfl ?_) (nb rfl); refine jl_op (ow_move rfl ?_) (nb rfl); refine jl_op (ow_len rfl (fun hlen => ?_)) (nb rfl)
        refine jl_op (ow_lss rfl rfl ?_) (nb rfl); refine jl_op (ow_assign rfl ?_) (nb rfl); refine jl_nil ?_; refine jq_then ?_; refine jc_condT rfl (decide_eq_true (by assumption)) ?_; refine jc_region ?_
        refine jl_op (ow_move rfl ?_) (nb rfl); refine jl_op (ow_move rfl ?_) (nb rfl); refine jl_op (ow_move rfl ?_) (nb rfl); refine jl_op (ow_indexAddrMapI rfl rfl (by omega) (by omega) rfl rfl (nb rfl) ?_) (nb rfl)
        refine jl_op (ow_loadPlace rfl rfl ?_) (nb rfl); refine jl_op (ow_build rfl rfl rfl rfl rfl ?_) (nb rfl); refine jl_op (ow_buildSlice rfl rfl (nb rfl) rfl rfl (nb rfl) ?_) (nb rfl)
        refine jl_op (ow_append1 0 ((⟨3, 0, 0, sgW[(m40 l[k]).toNat]⟩ : Tok)) rfl rfl rfl rfl rfl rfl rfl (fun _ => rfl) (by show (_ + _) * 40 ≤ _; first | omega | (simp only [List.length_append]; omega)) (by first | omega | (simp only [List.length_append]; omega)) (fun v1 hv1 => ?_)) (nb rfl)
        refine jl_op (ow_assign rfl ?_) (nb rfl); refine jl_nil ?_; refine jq_block ?_; refine jq_block ?_; refine jq_then ?_; refine jc_region ?_; refine jl_op (ow_move rfl ?_) (nb rfl)
        refine jl_op (ow_add64 rfl rfl (by omega) ?_) (nb rfl); refine jl_op (ow_assign rfl ?_) (nb rfl); refine jl_nil ?_; refine jq_againS (i := (k, v)) ((k + 1, v1) : Nat × Value) ⟨h1, h2⟩ (by dsimp only; omega) ?_ ?_
        · dsimp only
          rw [e2 _ et]
          refine sub_step 0 rfl ?_; exact sub_end
        · (repeat (first | exact True.intro | refine ⟨rfl, ?_⟩))
      · by_cases hc2 : l[k] % 40 < 28
        · have et : sgTok l[k] = ⟨2, m40 l[k], 0, ⟨#[]⟩⟩ := by
            unfold sgTok
            rw [if_neg hc, if_pos hc2]
          refine jc_seq ?_; refine jc_seq ?_; refine jc_region ?_; refine jl_op (ow_move rfl ?_) (nb rfl); refine jl_op (ow_move rfl ?_) (nb rfl); refine jl_op (ow_len rfl (fun hlen => ?_)) (nb rfl)
          refine jl_op (ow_lss rfl rfl ?_) (nb rfl); refine jl_op (ow_move rfl ?_) (nb rfl); refine jl_guardY rfl (decide_eq_true (by omega)) (nb rfl) (ow_move rfl ?_)
          refine jl_guardY rfl (decide_eq_true (by omega)) (nb rfl) (ow_lss rfl rfl ?_); refine jl_op (ow_pickT rfl (decide_eq_true (by omega)) rfl ?_) (nb rfl); refine jl_nil ?_; refine jq_then ?_
          refine jc_condT rfl (decide_eq_true (by assumption)) ?_; refine jc_skip ?_; refine jq_then ?_; refine jc_seq ?_; refine jc_block ?_; refine jc_seq ?_; refine jc_region ?_; refine jl_op (ow_move rfl ?_) (nb rfl)
          refine jl_op (ow_move rfl ?_) (nb rfl); refine jl_op (ow_indexAddrMapE rfl rfl (by omega) rfl rfl (nb rfl) ?_) (nb rfl); refine jl_op (ow_loadPlace rfl rfl ?_) (nb rfl)
          refine jl_op (ow_convI64 rfl rfl rfl (by omega) ?_) (nb rfl); refine jl_op (ow_rem64 rfl rfl (by omega) (by omega) ?_) (nb rfl); refine jl_op (ow_assign rfl ?_) (nb rfl); refine jl_nil ?_; refine jq_then ?_
          refine jc_block ?_; refine jc_seq ?_; refine jc_region ?_; refine jl_op (ow_move rfl ?_) (nb rfl); refine jl_op (ow_move rfl ?_) (nb rfl); refine jl_op (ow_len rfl (fun hlen => ?_)) (nb rfl)
          refine jl_op (ow_lss rfl rfl ?_) (nb rfl); refine jl_op (ow_assign rfl ?_) (nb rfl); refine jl_nil ?_; refine jq_then ?_; refine jc_condF rfl (decide_eq_false (by assumption)) ?_; refine jc_seq ?_; refine jc_region ?_
          refine jl_op (ow_move rfl ?_) (nb rfl); refine jl_op (ow_lss rfl rfl ?_) (nb rfl); refine jl_op (ow_assign rfl ?_) (nb rfl); refine jl_nil ?_; refine jq_then ?_; refine jc_condT rfl (decide_eq_true (by assumption)) ?_
          refine jc_region ?_; refine jl_op (ow_move rfl ?_) (nb rfl); refine jl_op (ow_move rfl ?_) (nb rfl); refine jl_op (ow_build rfl rfl rfl rfl rfl ?_) (nb rfl)
          refine jl_op (ow_buildSlice rfl rfl (nb rfl) rfl rfl (nb rfl) ?_) (nb rfl)
          refine jl_op (ow_append1 0 ((⟨2, m40 l[k], 0, ⟨#[]⟩⟩ : Tok)) rfl rfl rfl rfl rfl rfl rfl (fun _ => rfl) (by show (_ + _) * 40 ≤ _; first | omega | (simp only [List.length_append]; omega)) (by first | omega | (simp only [List.length_append]; omega)) (fun v1 hv1 => ?_)) (nb rfl)
          refine jl_op (ow_assign rfl ?_) (nb rfl); refine jl_nil ?_; refine jq_block ?_; refine jq_block ?_; refine jq_then ?_; refine jc_region ?_; refine jl_op (ow_move rfl ?_) (nb rfl)
          refine jl_op (ow_add64 rfl rfl (by omega) ?_) (nb rfl); refine jl_op (ow_assign rfl ?_) (nb rfl); refine jl_nil ?_; refine jq_againS (i := (k, v)) ((k + 1, v1) : Nat × Value) ⟨h1, h2⟩ (by dsimp only; omega) ?_ ?_
          · dsimp only
            rw [e2 _ et]
            refine sub_step 0 rfl ?_; exact sub_end
          · (repeat (first | exact True.intro | refine ⟨rfl, ?_⟩))
        · have eN : (sgN.map Wrow).length = 3 := rfl
          have eN2 := sgN_len
          have hi : (m3 l[k]).toNat < sgN.length := by rw [sgN_len]; show (l[k] % 40 % 3).toNat < 3; omega
          have et : sgTok l[k] = ⟨1, 0, 0, sgN[(m3 l[k]).toNat]⟩ := by
            unfold sgTok
            rw [if_neg hc, if_neg hc2, List.getD_eq_getElem?_getD, List.getElem?_eq_getElem hi]
            rfl
          refine jc_seq ?_; refine jc_seq ?_; refine jc_region ?_; refine jl_op (ow_move rfl ?_) (nb rfl); refine jl_op (ow_move rfl ?_) (nb rfl); refine jl_op (ow_len rfl (fun hlen => ?_)) (nb rfl)
          refine jl_op (ow_lss rfl rfl ?_) (nb rfl); refine jl_op (ow_move rfl ?_) (nb rfl); refine jl_guardY rfl (decide_eq_true (by omega)) (nb rfl) (ow_move rfl ?_)
          refine jl_guardY rfl (decide_eq_true (by omega)) (nb rfl) (ow_lss rfl rfl ?_); refine jl_op (ow_pickT rfl (decide_eq_true (by omega)) rfl ?_) (nb rfl); refine jl_nil ?_; refine jq_then ?_
          refine jc_condT rfl (decide_eq_true (by assumption)) ?_; refine jc_skip ?_; refine jq_then ?_; refine jc_seq ?_; refine jc_block ?_; refine jc_seq ?_; refine jc_region ?_; refine jl_op (ow_move rfl ?_) (nb rfl)
          refine jl_op (ow_move rfl ?_) (nb rfl); refine jl_op (ow_indexAddrMapE rfl rfl (by omega) rfl rfl (nb rfl) ?_) (nb rfl); refine jl_op (ow_loadPlace rfl rfl ?_) (nb rfl)
          refine jl_op (ow_convI64 rfl rfl rfl (by omega) ?_) (nb rfl); refine jl_op (ow_rem64 rfl rfl (by omega) (by omega) ?_) (nb rfl); refine jl_op (ow_assign rfl ?_) (nb rfl); refine jl_nil ?_; refine jq_then ?_
          refine jc_block ?_; refine jc_seq ?_; refine jc_region ?_; refine jl_op (ow_move rfl ?_) (nb rfl); refine jl_op (ow_move rfl ?_) (nb rfl); refine jl_op (ow_len rfl (fun hlen => ?_)) (nb rfl)
          refine jl_op (ow_lss rfl rfl ?_) (nb rfl); refine jl_op (ow_assign rfl ?_) (nb rfl); refine jl_nil ?_; refine jq_then ?_; refine jc_condF rfl (decide_eq_false (by assumption)) ?_; refine jc_seq ?_; refine jc_region ?_
          refine jl_op (ow_move rfl ?_) (nb rfl); refine jl_op (ow_lss rfl rfl ?_) (nb rfl); refine jl_op (ow_assign rfl ?_) (nb rfl); refine jl_nil ?_; refine jq_then ?_; refine jc_condF rfl (decide_eq_false (by assumption)) ?_
          refine jc_region ?_; refine jl_op (ow_move rfl ?_) (nb rfl); refine jl_op (ow_buildSlice rfl rfl (nb rfl) rfl rfl (nb rfl) ?_) (nb rfl); refine jl_op (ow_move rfl ?_) (nb rfl)
          refine jl_op (ow_rem64 rfl rfl (by omega) (by omega) ?_) (nb rfl); refine jl_op (ow_indexAddrMapI (f := Wrow) (l := sgN) rfl rfl (by omega) hi rfl rfl (nb rfl) ?_) (nb rfl)
          refine jl_op (ow_loadPlace rfl rfl ?_) (nb rfl); refine jl_op (ow_build rfl rfl rfl rfl rfl ?_) (nb rfl); refine jl_op (ow_buildSlice rfl rfl (nb rfl) rfl rfl (nb rfl) ?_) (nb rfl)
          refine jl_op (ow_append1 0 ((⟨1, 0, 0, sgN[(m3 l[k]).toNat]⟩ : Tok)) rfl rfl rfl rfl rfl rfl rfl (fun _ => rfl) (by show (_ + _) * 40 ≤ _; first | omega | (simp only [List.length_append]; omega)) (by first | omega | (simp only [List.length_append]; omega)) (fun v1 hv1 => ?_)) (nb rfl)
          refine jl_op (ow_assign rfl ?_) (nb rfl); refine jl_nil ?_; refine jq_block ?_; refine jq_block ?_; refine jq_then ?_; refine jc_region ?_; refine jl_op (ow_move rfl ?_) (nb rfl)
          refine jl_op (ow_add64 rfl rfl (by omega) ?_) (nb rfl); refine jl_op (ow_assign rfl ?_) (nb rfl); refine jl_nil ?_; refine jq_againS (i := (k, v)) ((k + 1, v1) : Nat × Value) ⟨h1, h2⟩ (by dsimp only; omega) ?_ ?_
          · dsimp only
            rw [e2 _ et]
            refine sub_step 0 rfl ?_; exact sub_end
          · (repeat (first | exact True.intro | refine ⟨rfl, ?_⟩))
    · have e : (l.take k).map sgTok = signsT l := by
        unfold signsT
        by_cases h : k < l.length
        · rw [show k = 60 by omega]
        · rw [List.take_of_length_le (by omega), List.take_of_length_le (by omega)]
      have hstop : ¬ ((k : Int) < l.length ∧ (k : Int) < 60) := by omega
      by_cases h : k < l.length
      · refine jc_seq ?_; refine jc_seq ?_; refine jc_region ?_; refine jl_op (ow_move rfl ?_) (nb rfl); refine jl_op (ow_move rfl ?_) (nb rfl); refine jl_op (ow_len rfl (fun hlen => ?_)) (nb rfl)
        refine jl_op (ow_lss rfl rfl ?_) (nb rfl); refine jl_op (ow_move rfl ?_) (nb rfl); refine jl_guardY rfl (decide_eq_true (by omega)) (nb rfl) (ow_move rfl ?_)
        refine jl_guardY rfl (decide_eq_true (by omega)) (nb rfl) (ow_lss rfl rfl ?_); refine jl_op (ow_pickT rfl (decide_eq_true (by omega)) rfl ?_) (nb rfl); refine jl_nil ?_; refine jq_then ?_
        refine jc_condF rfl (decide_eq_false (by omega)) ?_; refine jc_exit ?_; refine jq_then_exit ?_; refine jq_then_exit ?_; refine jq_block_exit ?_; refine jq_then ?_; refine jc_seq ?_; refine jc_region ?_
        refine jl_op (ow_move rfl ?_) (nb rfl); refine jl_op (ow_assign rfl ?_) (nb rfl); refine jl_nil ?_; refine jq_then ?_; refine jc_ret ?_; refine jq_freeze 2 0 rfl rfl (by rw [hc]; simp [hb]) ?_
        rw [e]
        refine jq_ret1 rfl rfl [] rfl (fun K h => h)
      · refine jc_seq ?_; refine jc_seq ?_; refine jc_region ?_; refine jl_op (ow_move rfl ?_) (nb rfl); refine jl_op (ow_move rfl ?_) (nb rfl); refine jl_op (ow_len rfl (fun hlen => ?_)) (nb rfl)
        refine jl_op (ow_lss rfl rfl ?_) (nb rfl); refine jl_op (ow_move rfl ?_) (nb rfl); refine jl_guardN rfl (decide_eq_false (by omega)) (nb rfl) ?_; refine jl_guardN rfl (decide_eq_false (by omega)) (nb rfl) ?_
        refine jl_op (ow_pickF rfl (decide_eq_false (by omega)) rfl ?_) (nb rfl); refine jl_nil ?_; refine jq_then ?_; refine jc_condF rfl rfl ?_; refine jc_exit ?_; refine jq_then_exit ?_; refine jq_then_exit ?_
        refine jq_block_exit ?_; refine jq_then ?_; refine jc_seq ?_; refine jc_region ?_; refine jl_op (ow_move rfl ?_) (nb rfl); refine jl_op (ow_assign rfl ?_) (nb rfl); refine jl_nil ?_; refine jq_then ?_; refine jc_ret ?_
        refine jq_freeze 2 0 rfl rfl (by rw [hc]; simp [hb]) ?_
        rw [e]
        refine jq_ret1 rfl rfl [] rfl (fun K h => h)
/-! Expressions compared -/
theorem SameAll_c (A : List T) (hS : ∀ (i : Nat) (h : i < A.length), Con Tryd.prog 13 [.row A[i].row', .row A[i].row'] [] (fun K => K (Bl true) [])) : Con Tryd.prog 30 [.cell (.list (A.map T.row)), .cell (.list (A.map T.row))] [] (fun K => K (Bl true) []) := by
  have eL : (A.map T.row).length = A.length := List.length_map _
  refine con_intro Tryd.func30 rfl rfl (Nat.le_of_ble_eq_true rfl) (fun c hc => ?_)
  have hne : ¬ ¬ ((A.map T.row).length : Int) = ((A.map T.row).length : Int) := fun h => h rfl
  refine jc_seq ?_; refine jc_region ?_; refine jl_op (ow_assign rfl ?_) (nb rfl); refine jl_nil ?_; refine jq_then ?_; refine jc_seq ?_; refine jc_seq ?_; refine jc_region ?_; refine jl_op (ow_move rfl ?_) (nb rfl)
  refine jl_op (ow_len rfl (fun hlen => ?_)) (nb rfl); refine jl_op (ow_move rfl ?_) (nb rfl); refine jl_op (ow_len rfl (fun hlen => ?_)) (nb rfl); refine jl_op (ow_neq rfl rfl ?_) (nb rfl); refine jl_nil ?_; refine jq_then ?_
  refine jc_condF rfl (decide_eq_false (by assumption)) ?_; refine jc_skip ?_; refine jq_then ?_; refine jc_seq ?_; refine jc_seq ?_; refine jc_region ?_; refine jl_op (ow_assign rfl ?_) (nb rfl); refine jl_nil ?_
  refine jq_then ?_; refine jc_block ?_
  refine jc_loopS [] (fun k : Nat => k ≤ A.length) (fun k => [(0, .cell (.list (A.map T.row))), (1, .cell (.list (A.map T.row))), (5, In .i64 (k : Int))]) (fun _ => []) (fun k => A.length - k) 0 (Nat.zero_le _) ?_ ?_ ?_
  · exact sub_end
  · (repeat (first | exact True.intro | refine ⟨rfl, ?_⟩))
  · intro k hk
    refine jc_reset [(0, .cell (.list (A.map T.row))), (1, .cell (.list (A.map T.row))), (5, In .i64 (k : Int))] [] ?_ ⟨[], [], rfl⟩ ?_
    · (repeat (first | exact True.intro | refine ⟨rfl, ?_⟩))
    by_cases hlt : k < A.length
    · have hC := hS k hlt
      refine jc_seq ?_; refine jc_seq ?_; refine jc_region ?_; refine jl_op (ow_move rfl ?_) (nb rfl); refine jl_op (ow_move rfl ?_) (nb rfl); refine jl_op (ow_len rfl (fun hlen => ?_)) (nb rfl)
      refine jl_op (ow_lss rfl rfl ?_) (nb rfl); refine jl_nil ?_; refine jq_then ?_; refine jc_condT rfl (decide_eq_true (by omega)) ?_; refine jc_skip ?_; refine jq_then ?_; refine jc_seq ?_; refine jc_block ?_; refine jc_seq ?_
      refine jc_any rfl rfl (by kernel_rfl) (by kernel_rfl) ?_; refine any_op (fun c => ow_move rfl ⟨rfl, List.Perm.refl _⟩) ?_; refine any_op (fun c => ow_move rfl ⟨rfl, List.Perm.refl _⟩) ?_
      refine any_op (fun c => ow_indexAddrMapE rfl rfl (by omega) (T.row_eq _) rfl (nb rfl) ⟨rfl, List.Perm.refl _⟩) ?_; refine any_op (fun c => ow_loadPlaceN rfl rfl rfl ⟨rfl, List.Perm.refl _⟩) ?_
      refine any_op (fun c => ow_move rfl ⟨rfl, List.Perm.refl _⟩) ?_; refine any_op (fun c => ow_move rfl ⟨rfl, List.Perm.refl _⟩) ?_
      refine any_op (fun c => ow_indexAddrMapE rfl rfl (by omega) (T.row_eq _) rfl (nb rfl) ⟨rfl, List.Perm.refl _⟩) ?_; refine any_op (fun c => ow_loadPlaceN rfl rfl rfl ⟨rfl, List.Perm.refl _⟩) ?_
      refine any_op (fun c => ow_call0 rfl (hC) ⟨rfl, List.Perm.refl _⟩) ?_; refine any_op (fun c => ow_not rfl ⟨rfl, List.Perm.refl _⟩) ?_; refine any_nil ?_; refine jq_then ?_; refine jc_condF rfl rfl ?_; refine jc_skip ?_
      refine jq_block ?_; refine jq_then ?_; refine jc_region ?_; refine jl_op (ow_move rfl ?_) (nb rfl); refine jl_op (ow_add64 rfl rfl (by omega) ?_) (nb rfl); refine jl_op (ow_assign rfl ?_) (nb rfl); refine jl_nil ?_
      refine jq_againS (k + 1) (by omega) (by omega) ?_ ?_
      · exact sub_end
      · (repeat (first | exact True.intro | refine ⟨rfl, ?_⟩))
    · refine jc_seq ?_; refine jc_seq ?_; refine jc_region ?_; refine jl_op (ow_move rfl ?_) (nb rfl); refine jl_op (ow_move rfl ?_) (nb rfl); refine jl_op (ow_len rfl (fun hlen => ?_)) (nb rfl)
      refine jl_op (ow_lss rfl rfl ?_) (nb rfl); refine jl_nil ?_; refine jq_then ?_; refine jc_condF rfl (decide_eq_false (by omega)) ?_; refine jc_exit ?_; refine jq_then_exit ?_; refine jq_then_exit ?_; refine jq_block_exit ?_
      refine jq_then ?_; refine jc_seq ?_; refine jc_region ?_; refine jl_op (ow_assign rfl ?_) (nb rfl); refine jl_nil ?_; refine jq_then ?_; refine jc_ret ?_; refine jq_ret1 rfl rfl [] rfl (fun K h => h)
theorem SameG_c (k n o : Int) (s : ByteArray) (A : List T) (hA : Con Tryd.prog 30 [.cell (.list (A.map T.row)), .cell (.list (A.map T.row))] [] (fun K => K (Bl true) [])) :
    Con Tryd.prog 13 [.row [.val (.int .i64 k), .val (.int .i64 n), .val (.string s), .val (.int .i64 o), .list (A.map T.row)], .row [.val (.int .i64 k), .val (.int .i64 n), .val (.string s), .val (.int .i64 o), .list (A.map T.row)]] [] (fun K => K (Bl true) []) := by
  have h1 : ¬ ¬ k = k := fun h => h rfl
  have h2 : ¬ ¬ n = n := fun h => h rfl
  have h3 : ¬ ¬ s = s := fun h => h rfl
  have h4 : ¬ ¬ o = o := fun h => h rfl
  refine con_intro Tryd.func13 rfl rfl (Nat.le_of_ble_eq_true rfl) (fun c hc => ?_); refine jc_seq ?_; refine jc_region ?_; refine jl_op (ow_box rfl (fun bx => ?_)) (nb rfl); refine jl_op (ow_box rfl (fun bx => ?_)) (nb rfl)
  refine jl_op (ow_assign rfl ?_) (nb rfl); refine jl_nil ?_; refine jq_then ?_; refine jc_seq ?_; refine jc_seq ?_; refine jc_region ?_; refine jl_op (ow_fieldAddr rfl rfl rfl (nb rfl) ?_) (nb rfl)
  refine jl_op (ow_load 1 rfl rfl rfl rfl ?_) (nb rfl); refine jl_op (ow_fieldAddr rfl rfl rfl (nb rfl) ?_) (nb rfl); refine jl_op (ow_load 0 rfl rfl rfl rfl ?_) (nb rfl); refine jl_op (ow_neq rfl rfl ?_) (nb rfl)
  refine jl_op (ow_move rfl ?_) (nb rfl); refine jl_guardY rfl (decide_eq_false (by assumption)) (nb rfl) (ow_fieldAddr rfl rfl rfl (nb rfl) ?_)
  refine jl_guardY rfl (decide_eq_false (by assumption)) (nb rfl) (ow_load 1 rfl rfl rfl rfl ?_); refine jl_guardY rfl (decide_eq_false (by assumption)) (nb rfl) (ow_fieldAddr rfl rfl rfl (nb rfl) ?_)
  refine jl_guardY rfl (decide_eq_false (by assumption)) (nb rfl) (ow_load 0 rfl rfl rfl rfl ?_); refine jl_guardY rfl (decide_eq_false (by assumption)) (nb rfl) (ow_neq rfl rfl ?_)
  refine jl_op (ow_pickF rfl (decide_eq_false (by assumption)) rfl ?_) (nb rfl); refine jl_op (ow_move rfl ?_) (nb rfl); refine jl_guardY rfl (decide_eq_false (by assumption)) (nb rfl) (ow_fieldAddr rfl rfl rfl (nb rfl) ?_)
  refine jl_guardY rfl (decide_eq_false (by assumption)) (nb rfl) (ow_load 1 rfl rfl rfl rfl ?_); refine jl_guardY rfl (decide_eq_false (by assumption)) (nb rfl) (ow_fieldAddr rfl rfl rfl (nb rfl) ?_)
  refine jl_guardY rfl (decide_eq_false (by assumption)) (nb rfl) (ow_load 0 rfl rfl rfl rfl ?_); refine jl_guardY rfl (decide_eq_false (by assumption)) (nb rfl) (ow_strneq rfl rfl ?_)
  refine jl_op (ow_pickF rfl (decide_eq_false (by assumption)) rfl ?_) (nb rfl); refine jl_op (ow_move rfl ?_) (nb rfl); refine jl_guardY rfl (decide_eq_false (by assumption)) (nb rfl) (ow_fieldAddr rfl rfl rfl (nb rfl) ?_)
  refine jl_guardY rfl (decide_eq_false (by assumption)) (nb rfl) (ow_load 1 rfl rfl rfl rfl ?_); refine jl_guardY rfl (decide_eq_false (by assumption)) (nb rfl) (ow_fieldAddr rfl rfl rfl (nb rfl) ?_)
  refine jl_guardY rfl (decide_eq_false (by assumption)) (nb rfl) (ow_load 0 rfl rfl rfl rfl ?_); refine jl_guardY rfl (decide_eq_false (by assumption)) (nb rfl) (ow_neq rfl rfl ?_)
  refine jl_op (ow_pickF rfl (decide_eq_false (by assumption)) rfl ?_) (nb rfl); refine jl_nil ?_; refine jq_then ?_; refine jc_condF rfl (decide_eq_false (by assumption)) ?_; refine jc_skip ?_; refine jq_then ?_; refine jc_seq ?_
  refine jc_region ?_; refine jl_op (ow_fieldAddr rfl rfl rfl (nb rfl) ?_) (nb rfl); refine jl_op (ow_load 1 rfl rfl rfl rfl ?_) (nb rfl); refine jl_op (ow_fieldAddr rfl rfl rfl (nb rfl) ?_) (nb rfl)
  refine jl_op (ow_load 0 rfl rfl rfl rfl ?_) (nb rfl); refine jl_op (ow_call0 rfl (hA) ?_) (nb rfl); refine jl_op (ow_assign rfl ?_) (nb rfl); refine jl_nil ?_; refine jq_then ?_; refine jc_ret ?_
  refine jq_ret1 rfl rfl [] rfl (fun K h => h)
theorem SameT_c : ∀ t : T, Con Tryd.prog 13 [.row t.row', .row t.row'] [] (fun K => K (Bl true) [])
  | .nu n => SameG_c 1 n 0 ⟨#[]⟩ [] (SameAll_c [] (fun i h => absurd h (by simp)))
  | .nm s => SameG_c 2 0 0 s [] (SameAll_c [] (fun i h => absurd h (by simp)))
  | .ix s t => SameG_c 3 0 0 s [t] (SameAll_c [t] (fun i h => by
      obtain rfl : i = 0 := by simpa using h
      exact SameT_c t))
  | .bn o a b => SameG_c 4 0 o ⟨#[]⟩ [a, b] (SameAll_c [a, b] (fun i h => by
      rcases (show i = 0 ∨ i = 1 by simp at h; omega) with rfl | rfl
      · exact SameT_c a
      · exact SameT_c b))
theorem SameE_c (r : Option T) : Con Tryd.prog 13 [.row (ERow r), .row (ERow r)] [] (fun K => K (Bl true) []) := by
  cases r with
  | some t => exact SameT_c t
  | none =>
    have hz : ∀ w A v, SOk w A (.row Z5) v → SOk w A (.row [.val (.int .i64 0), .val (.int .i64 0), .val (.string ⟨#[]⟩), .val (.int .i64 0), .list (([] : List T).map T.row)]) v := by
      refine SLe.row ?_
      (repeat (first | exact RowLe.nil | refine RowLe.cons (CLe.refl _) ?_ | refine RowLe.cons CLe.nil ?_))
    refine con_le (fun w A vs h => ?_) (SameG_c 0 0 0 ⟨#[]⟩ [] (SameAll_c [] (fun i h => absurd h (by simp))))
    obtain ⟨v, r, rfl, h1, v2, r2, rfl, h2, h3⟩ := h
    exact ⟨v, _, rfl, hz _ _ _ h1, v2, _, rfl, hz _ _ _ h2, h3⟩
end Go.Proofs.YtamajcgdfjeehaaDoor
end

section
namespace Go.Proofs.YtamajcgdfjeehaaDoor
open Go.Vc
set_option maxHeartbeats 4000000

/-! The sanity check -/
theorem scanGo_tok {s : ByteArray} {k : Nat} {line : Int} {out : List Tok} {t : Int × Int × ByteArray} {n : Nat} (hk : k < s.size) (h1 : ¬ byteAt s k = 10) (h2 : ¬ (byteAt s k = 32 ∨ byteAt s k = 9)) (hn : nextT (s.extract k s.size) = (t, n)) (h0 : ¬ n = 0) :
    scanGo s k line out = scanGo s (k + n) line (out ++ [⟨t.1, t.2.1, line, t.2.2⟩]) := by
  rw [scanGo, dif_pos hk, if_neg h1, if_neg h2, hn]; exact dif_neg h0
theorem scanGo_sp {s : ByteArray} {k : Nat} {line : Int} {out : List Tok} (hk : k < s.size) (h1 : ¬ byteAt s k = 10) (h2 : byteAt s k = 32 ∨ byteAt s k = 9) : scanGo s k line out = scanGo s (k + 1) line out := by
  rw [scanGo, dif_pos hk, if_neg h1, if_pos h2]
theorem scanGo_end {s : ByteArray} {k : Nat} {line : Int} {out : List Tok} (hk : ¬ k < s.size) : scanGo s k line out = (out, 0, 0) := by rw [scanGo, dif_neg hk]
def exT : ByteArray := ⟨#[97, 32, 45, 32, 98, 32, 45, 32, 99]⟩
def exL : List Tok := [⟨1, 0, 1, ⟨#[97]⟩⟩, ⟨3, 0, 1, ⟨#[45]⟩⟩, ⟨1, 0, 1, ⟨#[98]⟩⟩, ⟨3, 0, 1, ⟨#[45]⟩⟩, ⟨1, 0, 1, ⟨#[99]⟩⟩]
theorem ex1 : nextT (exT.extract 0 exT.size) = ((1, 0, ⟨#[97]⟩), 1) := by decide +kernel
theorem ex2 : nextT (exT.extract 2 exT.size) = ((3, 0, ⟨#[45]⟩), 1) := by decide +kernel
theorem ex3 : nextT (exT.extract 4 exT.size) = ((1, 0, ⟨#[98]⟩), 1) := by decide +kernel
theorem ex4 : nextT (exT.extract 6 exT.size) = ((3, 0, ⟨#[45]⟩), 1) := by decide +kernel
theorem ex5 : nextT (exT.extract 8 exT.size) = ((1, 0, ⟨#[99]⟩), 1) := by decide +kernel
theorem ex_scan : scan exT = (exL, 0, 0) := by
  unfold scan
  rw [if_neg (by decide +kernel), scanGo_tok (by decide) (by decide) (by decide) ex1 (by decide), scanGo_sp (by decide) (by decide) (by decide), scanGo_tok (by decide) (by decide) (by decide) ex2 (by decide), scanGo_sp (by decide) (by decide) (by decide), scanGo_tok (by decide) (by decide) (by decide) ex3 (by decide), scanGo_sp (by decide) (by decide) (by decide), scanGo_tok (by decide) (by decide) (by decide) ex4 (by decide), scanGo_sp (by decide) (by decide) (by decide), scanGo_tok (by decide) (by decide) (by decide) ex5 (by decide), scanGo_end (by decide)]
  rfl
theorem ex_expr : exprL exL = (some (.bn 2 (.bn 2 (.nm ⟨#[97]⟩) (.nm ⟨#[98]⟩)) (.nm ⟨#[99]⟩)), 5, 0) := by kernel_rfl
attribute [local irreducible] JL JC JQ OpWp Con ConN Pan ConE OpPan HP HT HOk hasW idxW isA isNum isNm numAt txtAt lineAt opAt lx lpx sx sxp scan exprL
theorem awake_c : Con Tryd.prog 9 [] [] (fun K => K (Bl true) []) := by
  have hS := rScan_c exT
  rw [ex_scan] at hS
  have hE := Expr_c exL (by decide)
  rw [ex_expr] at hE
  refine con_intro Tryd.func9 rfl rfl (Nat.le_of_ble_eq_true rfl) (fun c hc => ?_); refine jc_seq ?_; refine jc_region ?_; refine jl_op (ow_assign rfl ?_) (nb rfl); refine jl_nil ?_; refine jq_then ?_; refine jc_seq ?_
  refine jc_region ?_; refine jl_op (ow_call0 rfl (hS) ?_) (nb rfl); refine jl_op (ow_move rfl ?_) (nb rfl); refine jl_op (ow_extract rfl rfl ?_) (nb rfl); refine jl_op (ow_extract rfl rfl ?_) (nb rfl)
  refine jl_op (ow_extract rfl rfl ?_) (nb rfl); refine jl_op (ow_assign rfl ?_) (nb rfl); refine jl_op (ow_assign rfl ?_) (nb rfl); refine jl_op (ow_assign rfl ?_) (nb rfl); refine jl_nil ?_; refine jq_then ?_; refine jc_seq ?_
  refine jc_region ?_; refine jl_op (ow_move rfl ?_) (nb rfl); refine jl_op (ow_call0 rfl (hE) ?_) (nb rfl); refine jl_op (ow_move rfl ?_) (nb rfl); refine jl_op (ow_extract rfl rfl ?_) (nb rfl)
  refine jl_op (ow_extract rfl rfl ?_) (nb rfl); refine jl_op (ow_extract rfl rfl ?_) (nb rfl); refine jl_op (ow_alloc rfl rfl (fun bl => ?_)) (nb rfl); refine jl_op0 (ow_storeAll 0 rfl rfl rfl rfl rfl rfl ?_)
  refine jl_op (ow_assign rfl ?_) (nb rfl); refine jl_op (ow_assign rfl ?_) (nb rfl); refine jl_nil ?_; refine jq_then ?_; refine jc_seq ?_; refine jc_region ?_; refine jl_op (ow_move rfl ?_) (nb rfl)
  refine jl_op (ow_eql rfl rfl ?_) (nb rfl); refine jl_op (ow_move rfl ?_) (nb rfl); refine jl_guardY rfl (decide_eq_true rfl) (nb rfl) (ow_move rfl ?_); refine jl_guardY rfl (decide_eq_true rfl) (nb rfl) (ow_eql rfl rfl ?_)
  refine jl_op (ow_pickT rfl (decide_eq_true rfl) rfl ?_) (nb rfl); refine jl_op (ow_move rfl ?_) (nb rfl); refine jl_guardY rfl (decide_eq_true rfl) (nb rfl) (ow_move rfl ?_)
  refine jl_guardY rfl (decide_eq_true rfl) (nb rfl) (ow_eql rfl rfl ?_); refine jl_op (ow_pickT rfl (decide_eq_true rfl) rfl ?_) (nb rfl); refine jl_op (ow_move rfl ?_) (nb rfl)
  refine jl_guardY rfl (decide_eq_true rfl) (nb rfl) (ow_fieldAddr rfl rfl rfl (nb rfl) ?_); refine jl_guardY rfl (decide_eq_true rfl) (nb rfl) (ow_load 0 rfl rfl rfl rfl ?_)
  refine jl_guardY rfl (decide_eq_true rfl) (nb rfl) (ow_eql rfl rfl ?_); refine jl_op (ow_pickT rfl (decide_eq_true rfl) rfl ?_) (nb rfl); refine jl_op (ow_move rfl ?_) (nb rfl)
  refine jl_guardY rfl (decide_eq_true rfl) (nb rfl) (ow_fieldAddr rfl rfl rfl (nb rfl) ?_); refine jl_guardY rfl (decide_eq_true rfl) (nb rfl) (ow_load 0 rfl rfl rfl rfl ?_)
  refine jl_guardY rfl (decide_eq_true rfl) (nb rfl) (ow_len rfl (fun hlen => ?_)); refine jl_guardY rfl (decide_eq_true rfl) (nb rfl) (ow_eql rfl rfl ?_); refine jl_op (ow_pickT rfl (decide_eq_true rfl) rfl ?_) (nb rfl)
  refine jl_op (ow_move rfl ?_) (nb rfl); refine jl_guardY rfl (decide_eq_true rfl) (nb rfl) (ow_fieldAddr rfl rfl rfl (nb rfl) ?_); refine jl_guardY rfl (decide_eq_true rfl) (nb rfl) (ow_load 0 rfl rfl rfl rfl ?_)
  refine jl_guardY rfl (decide_eq_true rfl) (nb rfl) (ow_indexAddr rfl rfl (by omega) rfl rfl (nb rfl) ?_); refine jl_guardY rfl (decide_eq_true rfl) (nb rfl) (ow_fieldAddrPlace rfl rfl rfl (nb rfl) rfl (nb rfl) ?_)
  refine jl_guardY rfl (decide_eq_true rfl) (nb rfl) (ow_loadPlace rfl rfl ?_); refine jl_guardY rfl (decide_eq_true rfl) (nb rfl) (ow_eql rfl rfl ?_); refine jl_op (ow_pickT rfl (decide_eq_true rfl) rfl ?_) (nb rfl)
  refine jl_op (ow_move rfl ?_) (nb rfl); refine jl_guardY rfl (decide_eq_true rfl) (nb rfl) (ow_fieldAddr rfl rfl rfl (nb rfl) ?_); refine jl_guardY rfl (decide_eq_true rfl) (nb rfl) (ow_load 0 rfl rfl rfl rfl ?_)
  refine jl_guardY rfl (decide_eq_true rfl) (nb rfl) (ow_indexAddr rfl rfl (by omega) rfl rfl (nb rfl) ?_); refine jl_guardY rfl (decide_eq_true rfl) (nb rfl) (ow_fieldAddrPlace rfl rfl rfl (nb rfl) rfl (nb rfl) ?_)
  refine jl_guardY rfl (decide_eq_true rfl) (nb rfl) (ow_loadPlace rfl rfl ?_); refine jl_guardY rfl (decide_eq_true rfl) (nb rfl) (ow_streql rfl rfl ?_); refine jl_op (ow_pickT rfl (decide_eq_true rfl) rfl ?_) (nb rfl)
  refine jl_op (ow_assign rfl ?_) (nb rfl); refine jl_nil ?_; refine jq_then ?_; refine jc_ret ?_; refine jq_ret1 rfl rfl [] rfl (fun K h => by simpa using h)
theorem ParseExprs_c (l : List Int) (hl : ∀ n ∈ l, 0 ≤ n ∧ n ≤ 255) (raw : List Tok) : Con Tryd.prog 3 [.cell (.list (l.map Brow)), .cell (.list (raw.map Tok.row))] [] (fun K => K (Bl true) []) := by
  have eR : (raw.map Tok.row).length = raw.length := List.length_map _
  have h60 := signs_len l
  have hs := Expr_c (signsT l) (by omega)
  have hr := RXpr_c (signsT l) (by omega)
  refine con_intro Tryd.func3 rfl rfl (Nat.le_of_ble_eq_true rfl) (fun c hc => ?_)
  by_cases hn : raw.length > 60
  · have hn' : (raw.length : Int) > 60 := by omega
    refine jc_seq ?_; refine jc_region ?_; refine jl_op (ow_assign rfl ?_) (nb rfl); refine jl_nil ?_; refine jq_then ?_; refine jc_seq ?_; refine jc_seq ?_; refine jc_region ?_; refine jl_op (ow_move rfl ?_) (nb rfl)
    refine jl_op (ow_len rfl (fun hlen => ?_)) (nb rfl); refine jl_op (ow_gtr rfl rfl ?_) (nb rfl); refine jl_nil ?_; refine jq_then ?_; refine jc_condT rfl (decide_eq_true (by omega)) ?_; refine jc_seq ?_; refine jc_region ?_
    refine jl_op (ow_call0 rfl (awake_c) ?_) (nb rfl); refine jl_op (ow_assign rfl ?_) (nb rfl); refine jl_nil ?_; refine jq_then ?_; refine jc_ret ?_; refine jq_then_ret ?_; refine jq_ret1 rfl rfl [] rfl (fun K h => h)
  · have hn' : ¬ (raw.length : Int) > 60 := by omega
    have gs := Expr_c raw (by omega)
    have gr := RXpr_c raw (by omega)
    have e1 := SameE_c (exprL (signsT l)).1
    have e2 := SameE_c (exprL raw).1
    generalize exprL (signsT l) = p at hs hr e1
    generalize exprL raw = q at gs gr e2
    obtain ⟨p1, p2, p3⟩ := p
    obtain ⟨q1, q2, q3⟩ := q
    have i1 : p3 = p3 := rfl
    have i2 : p2 = p2 := rfl
    have i3 : q3 = q3 := rfl
    have i4 : q2 = q2 := rfl
    cases p1 with
    | none =>
      cases q1 with
      | none =>
        refine jc_seq ?_; refine jc_region ?_; refine jl_op (ow_assign rfl ?_) (nb rfl); refine jl_nil ?_; refine jq_then ?_; refine jc_seq ?_; refine jc_seq ?_; refine jc_region ?_; refine jl_op (ow_move rfl ?_) (nb rfl)
        refine jl_op (ow_len rfl (fun hlen => ?_)) (nb rfl); refine jl_op (ow_gtr rfl rfl ?_) (nb rfl); refine jl_nil ?_; refine jq_then ?_; refine jc_condF rfl (decide_eq_false (by omega)) ?_; refine jc_skip ?_; refine jq_then ?_
        refine jc_seq ?_; refine jc_region ?_; refine jl_op (ow_move rfl ?_) (nb rfl); refine jl_op (ow_call0 rfl (signsL_c l hl) ?_) (nb rfl); refine jl_op (ow_call0 rfl (hs) ?_) (nb rfl); refine jl_op (ow_move rfl ?_) (nb rfl)
        refine jl_op (ow_extract rfl rfl ?_) (nb rfl); refine jl_op (ow_extract rfl rfl ?_) (nb rfl); refine jl_op (ow_extract rfl rfl ?_) (nb rfl); refine jl_op (ow_alloc rfl rfl (fun bl => ?_)) (nb rfl)
        refine jl_op0 (ow_storeAll 0 rfl rfl rfl rfl rfl rfl ?_); refine jl_op (ow_assign rfl ?_) (nb rfl); refine jl_op (ow_assign rfl ?_) (nb rfl); refine jl_nil ?_; refine jq_then ?_; refine jc_seq ?_; refine jc_region ?_
        refine jl_op (ow_move rfl ?_) (nb rfl); refine jl_op (ow_call0 rfl (signsL_c l hl) ?_) (nb rfl); refine jl_op (ow_call0 rfl (hr) ?_) (nb rfl); refine jl_op (ow_move rfl ?_) (nb rfl)
        refine jl_op (ow_extract rfl rfl ?_) (nb rfl); refine jl_op (ow_extract rfl rfl ?_) (nb rfl); refine jl_op (ow_extract rfl rfl ?_) (nb rfl); refine jl_op (ow_alloc rfl rfl (fun bl => ?_)) (nb rfl)
        refine jl_op0 (ow_storeAll 0 rfl rfl rfl rfl rfl rfl ?_); refine jl_op (ow_assign rfl ?_) (nb rfl); refine jl_op (ow_assign rfl ?_) (nb rfl); refine jl_nil ?_; refine jq_then ?_; refine jc_seq ?_; refine jc_region ?_
        refine jl_op (ow_move rfl ?_) (nb rfl); refine jl_op (ow_call0 rfl (gs) ?_) (nb rfl); refine jl_op (ow_move rfl ?_) (nb rfl); refine jl_op (ow_extract rfl rfl ?_) (nb rfl); refine jl_op (ow_extract rfl rfl ?_) (nb rfl)
        refine jl_op (ow_extract rfl rfl ?_) (nb rfl); refine jl_op (ow_alloc rfl rfl (fun bl => ?_)) (nb rfl); refine jl_op0 (ow_storeAll 0 rfl rfl rfl rfl rfl rfl ?_); refine jl_op (ow_assign rfl ?_) (nb rfl)
        refine jl_op (ow_assign rfl ?_) (nb rfl); refine jl_nil ?_; refine jq_then ?_; refine jc_seq ?_; refine jc_region ?_; refine jl_op (ow_move rfl ?_) (nb rfl); refine jl_op (ow_call0 rfl (gr) ?_) (nb rfl)
        refine jl_op (ow_move rfl ?_) (nb rfl); refine jl_op (ow_extract rfl rfl ?_) (nb rfl); refine jl_op (ow_extract rfl rfl ?_) (nb rfl); refine jl_op (ow_extract rfl rfl ?_) (nb rfl)
        refine jl_op (ow_alloc rfl rfl (fun bl => ?_)) (nb rfl); refine jl_op0 (ow_storeAll 0 rfl rfl rfl rfl rfl rfl ?_); refine jl_op (ow_assign rfl ?_) (nb rfl); refine jl_op (ow_assign rfl ?_) (nb rfl); refine jl_nil ?_
        refine jq_then ?_; refine jc_seq ?_; refine jc_region ?_; refine jl_op (ow_move rfl ?_) (nb rfl); refine jl_op (ow_move rfl ?_) (nb rfl); refine jl_op (ow_eql rfl rfl ?_) (nb rfl); refine jl_op (ow_move rfl ?_) (nb rfl)
        refine jl_guardY rfl (decide_eq_true rfl) (nb rfl) (ow_move rfl ?_); refine jl_guardY rfl (decide_eq_true rfl) (nb rfl) (ow_move rfl ?_); refine jl_guardY rfl (decide_eq_true rfl) (nb rfl) (ow_eql rfl rfl ?_)
        refine jl_op (ow_pickT rfl (decide_eq_true rfl) rfl ?_) (nb rfl); refine jl_op (ow_move rfl ?_) (nb rfl); refine jl_guardY rfl (decide_eq_true rfl) (nb rfl) (ow_move rfl ?_)
        refine jl_guardY rfl (decide_eq_true rfl) (nb rfl) (ow_move rfl ?_); refine jl_guardY rfl (decide_eq_true rfl) (nb rfl) (ow_eql rfl rfl ?_); refine jl_op (ow_pickT rfl (decide_eq_true rfl) rfl ?_) (nb rfl)
        refine jl_op (ow_move rfl ?_) (nb rfl); refine jl_guardY rfl (decide_eq_true rfl) (nb rfl) (ow_move rfl ?_); refine jl_guardY rfl (decide_eq_true rfl) (nb rfl) (ow_move rfl ?_)
        refine jl_guardY rfl (decide_eq_true rfl) (nb rfl) (ow_eql rfl rfl ?_); refine jl_op (ow_pickT rfl (decide_eq_true rfl) rfl ?_) (nb rfl); refine jl_op (ow_move rfl ?_) (nb rfl)
        refine jl_guardY rfl (decide_eq_true rfl) (nb rfl) (ow_loadAll 3 rfl rfl rfl rfl ?_); refine jl_guardY rfl (decide_eq_true rfl) (nb rfl) (ow_loadAll 2 rfl rfl rfl rfl ?_)
        refine jl_guardY rfl (decide_eq_true rfl) (nb rfl) (ow_call0 rfl (e1) ?_); refine jl_op (ow_pickT rfl (decide_eq_true rfl) rfl ?_) (nb rfl); refine jl_op (ow_move rfl ?_) (nb rfl)
        refine jl_guardY rfl rfl (nb rfl) (ow_loadAll 1 rfl rfl rfl rfl ?_); refine jl_guardY rfl rfl (nb rfl) (ow_loadAll 0 rfl rfl rfl rfl ?_); refine jl_guardY rfl rfl (nb rfl) (ow_call0 rfl (e1) ?_)
        refine jl_op (ow_pickT rfl rfl rfl ?_) (nb rfl); refine jl_op (ow_move rfl ?_) (nb rfl); refine jl_guardY rfl rfl (nb rfl) (ow_call0 rfl (awake_c) ?_); refine jl_op (ow_pickT rfl rfl rfl ?_) (nb rfl)
        refine jl_op (ow_assign rfl ?_) (nb rfl); refine jl_nil ?_; refine jq_then ?_; refine jc_ret ?_; refine jq_ret1 rfl rfl [] rfl (fun K h => h)
      | some u =>
        refine jc_seq ?_; refine jc_region ?_; refine jl_op (ow_assign rfl ?_) (nb rfl); refine jl_nil ?_; refine jq_then ?_; refine jc_seq ?_; refine jc_seq ?_; refine jc_region ?_; refine jl_op (ow_move rfl ?_) (nb rfl)
        refine jl_op (ow_len rfl (fun hlen => ?_)) (nb rfl); refine jl_op (ow_gtr rfl rfl ?_) (nb rfl); refine jl_nil ?_; refine jq_then ?_; refine jc_condF rfl (decide_eq_false (by omega)) ?_; refine jc_skip ?_; refine jq_then ?_
        refine jc_seq ?_; refine jc_region ?_; refine jl_op (ow_move rfl ?_) (nb rfl); refine jl_op (ow_call0 rfl (signsL_c l hl) ?_) (nb rfl); refine jl_op (ow_call0 rfl (hs) ?_) (nb rfl); refine jl_op (ow_move rfl ?_) (nb rfl)
        refine jl_op (ow_extract rfl rfl ?_) (nb rfl); refine jl_op (ow_extract rfl rfl ?_) (nb rfl); refine jl_op (ow_extract rfl rfl ?_) (nb rfl); refine jl_op (ow_alloc rfl rfl (fun bl => ?_)) (nb rfl)
        refine jl_op0 (ow_storeAll 0 rfl rfl rfl rfl rfl rfl ?_); refine jl_op (ow_assign rfl ?_) (nb rfl); refine jl_op (ow_assign rfl ?_) (nb rfl); refine jl_nil ?_; refine jq_then ?_; refine jc_seq ?_; refine jc_region ?_
        refine jl_op (ow_move rfl ?_) (nb rfl); refine jl_op (ow_call0 rfl (signsL_c l hl) ?_) (nb rfl); refine jl_op (ow_call0 rfl (hr) ?_) (nb rfl); refine jl_op (ow_move rfl ?_) (nb rfl)
        refine jl_op (ow_extract rfl rfl ?_) (nb rfl); refine jl_op (ow_extract rfl rfl ?_) (nb rfl); refine jl_op (ow_extract rfl rfl ?_) (nb rfl); refine jl_op (ow_alloc rfl rfl (fun bl => ?_)) (nb rfl)
        refine jl_op0 (ow_storeAll 0 rfl rfl rfl rfl rfl rfl ?_); refine jl_op (ow_assign rfl ?_) (nb rfl); refine jl_op (ow_assign rfl ?_) (nb rfl); refine jl_nil ?_; refine jq_then ?_; refine jc_seq ?_; refine jc_region ?_
        refine jl_op (ow_move rfl ?_) (nb rfl); refine jl_op (ow_call0 rfl (gs) ?_) (nb rfl); refine jl_op (ow_move rfl ?_) (nb rfl); refine jl_op (ow_extract rfl rfl ?_) (nb rfl); refine jl_op (ow_extract rfl rfl ?_) (nb rfl)
        refine jl_op (ow_extract rfl rfl ?_) (nb rfl); refine jl_op (ow_alloc rfl rfl (fun bl => ?_)) (nb rfl); refine jl_op0 (ow_storeAll 0 rfl rfl rfl rfl rfl rfl ?_); refine jl_op (ow_assign rfl ?_) (nb rfl)
        refine jl_op (ow_assign rfl ?_) (nb rfl); refine jl_nil ?_; refine jq_then ?_; refine jc_seq ?_; refine jc_region ?_; refine jl_op (ow_move rfl ?_) (nb rfl); refine jl_op (ow_call0 rfl (gr) ?_) (nb rfl)
        refine jl_op (ow_move rfl ?_) (nb rfl); refine jl_op (ow_extract rfl rfl ?_) (nb rfl); refine jl_op (ow_extract rfl rfl ?_) (nb rfl); refine jl_op (ow_extract rfl rfl ?_) (nb rfl)
        refine jl_op (ow_alloc rfl rfl (fun bl => ?_)) (nb rfl); refine jl_op0 (ow_storeAll 0 rfl rfl rfl rfl rfl rfl ?_); refine jl_op (ow_assign rfl ?_) (nb rfl); refine jl_op (ow_assign rfl ?_) (nb rfl); refine jl_nil ?_
        refine jq_then ?_; refine jc_seq ?_; refine jc_region ?_; refine jl_op (ow_move rfl ?_) (nb rfl); refine jl_op (ow_move rfl ?_) (nb rfl); refine jl_op (ow_eql rfl rfl ?_) (nb rfl); refine jl_op (ow_move rfl ?_) (nb rfl)
        refine jl_guardY rfl (decide_eq_true rfl) (nb rfl) (ow_move rfl ?_); refine jl_guardY rfl (decide_eq_true rfl) (nb rfl) (ow_move rfl ?_); refine jl_guardY rfl (decide_eq_true rfl) (nb rfl) (ow_eql rfl rfl ?_)
        refine jl_op (ow_pickT rfl (decide_eq_true rfl) rfl ?_) (nb rfl); refine jl_op (ow_move rfl ?_) (nb rfl); refine jl_guardY rfl (decide_eq_true rfl) (nb rfl) (ow_move rfl ?_)
        refine jl_guardY rfl (decide_eq_true rfl) (nb rfl) (ow_move rfl ?_); refine jl_guardY rfl (decide_eq_true rfl) (nb rfl) (ow_eql rfl rfl ?_); refine jl_op (ow_pickT rfl (decide_eq_true rfl) rfl ?_) (nb rfl)
        refine jl_op (ow_move rfl ?_) (nb rfl); refine jl_guardY rfl (decide_eq_true rfl) (nb rfl) (ow_move rfl ?_); refine jl_guardY rfl (decide_eq_true rfl) (nb rfl) (ow_move rfl ?_)
        refine jl_guardY rfl (decide_eq_true rfl) (nb rfl) (ow_eql rfl rfl ?_); refine jl_op (ow_pickT rfl (decide_eq_true rfl) rfl ?_) (nb rfl); refine jl_op (ow_move rfl ?_) (nb rfl)
        refine jl_guardY rfl (decide_eq_true rfl) (nb rfl) (ow_loadAll 3 rfl rfl rfl rfl ?_); refine jl_guardY rfl (decide_eq_true rfl) (nb rfl) (ow_loadAll 2 rfl rfl rfl rfl ?_)
        refine jl_guardY rfl (decide_eq_true rfl) (nb rfl) (ow_call0 rfl (e1) ?_); refine jl_op (ow_pickT rfl (decide_eq_true rfl) rfl ?_) (nb rfl); refine jl_op (ow_move rfl ?_) (nb rfl)
        refine jl_guardY rfl rfl (nb rfl) (ow_loadAll 1 rfl rfl rfl rfl ?_); refine jl_guardY rfl rfl (nb rfl) (ow_loadAll 0 rfl rfl rfl rfl ?_); refine jl_guardY rfl rfl (nb rfl) (ow_call0 rfl (e2) ?_)
        refine jl_op (ow_pickT rfl rfl rfl ?_) (nb rfl); refine jl_op (ow_move rfl ?_) (nb rfl); refine jl_guardY rfl rfl (nb rfl) (ow_call0 rfl (awake_c) ?_); refine jl_op (ow_pickT rfl rfl rfl ?_) (nb rfl)
        refine jl_op (ow_assign rfl ?_) (nb rfl); refine jl_nil ?_; refine jq_then ?_; refine jc_ret ?_; refine jq_ret1 rfl rfl [] rfl (fun K h => h)
    | some t =>
      cases q1 with
      | none =>
        refine jc_seq ?_; refine jc_region ?_; refine jl_op (ow_assign rfl ?_) (nb rfl); refine jl_nil ?_; refine jq_then ?_; refine jc_seq ?_; refine jc_seq ?_; refine jc_region ?_; refine jl_op (ow_move rfl ?_) (nb rfl)
        refine jl_op (ow_len rfl (fun hlen => ?_)) (nb rfl); refine jl_op (ow_gtr rfl rfl ?_) (nb rfl); refine jl_nil ?_; refine jq_then ?_; refine jc_condF rfl (decide_eq_false (by omega)) ?_; refine jc_skip ?_; refine jq_then ?_
        refine jc_seq ?_; refine jc_region ?_; refine jl_op (ow_move rfl ?_) (nb rfl); refine jl_op (ow_call0 rfl (signsL_c l hl) ?_) (nb rfl); refine jl_op (ow_call0 rfl (hs) ?_) (nb rfl); refine jl_op (ow_move rfl ?_) (nb rfl)
        refine jl_op (ow_extract rfl rfl ?_) (nb rfl); refine jl_op (ow_extract rfl rfl ?_) (nb rfl); refine jl_op (ow_extract rfl rfl ?_) (nb rfl); refine jl_op (ow_alloc rfl rfl (fun bl => ?_)) (nb rfl)
        refine jl_op0 (ow_storeAll 0 rfl rfl rfl rfl rfl rfl ?_); refine jl_op (ow_assign rfl ?_) (nb rfl); refine jl_op (ow_assign rfl ?_) (nb rfl); refine jl_nil ?_; refine jq_then ?_; refine jc_seq ?_; refine jc_region ?_
        refine jl_op (ow_move rfl ?_) (nb rfl); refine jl_op (ow_call0 rfl (signsL_c l hl) ?_) (nb rfl); refine jl_op (ow_call0 rfl (hr) ?_) (nb rfl); refine jl_op (ow_move rfl ?_) (nb rfl)
        refine jl_op (ow_extract rfl rfl ?_) (nb rfl); refine jl_op (ow_extract rfl rfl ?_) (nb rfl); refine jl_op (ow_extract rfl rfl ?_) (nb rfl); refine jl_op (ow_alloc rfl rfl (fun bl => ?_)) (nb rfl)
        refine jl_op0 (ow_storeAll 0 rfl rfl rfl rfl rfl rfl ?_); refine jl_op (ow_assign rfl ?_) (nb rfl); refine jl_op (ow_assign rfl ?_) (nb rfl); refine jl_nil ?_; refine jq_then ?_; refine jc_seq ?_; refine jc_region ?_
        refine jl_op (ow_move rfl ?_) (nb rfl); refine jl_op (ow_call0 rfl (gs) ?_) (nb rfl); refine jl_op (ow_move rfl ?_) (nb rfl); refine jl_op (ow_extract rfl rfl ?_) (nb rfl); refine jl_op (ow_extract rfl rfl ?_) (nb rfl)
        refine jl_op (ow_extract rfl rfl ?_) (nb rfl); refine jl_op (ow_alloc rfl rfl (fun bl => ?_)) (nb rfl); refine jl_op0 (ow_storeAll 0 rfl rfl rfl rfl rfl rfl ?_); refine jl_op (ow_assign rfl ?_) (nb rfl)
        refine jl_op (ow_assign rfl ?_) (nb rfl); refine jl_nil ?_; refine jq_then ?_; refine jc_seq ?_; refine jc_region ?_; refine jl_op (ow_move rfl ?_) (nb rfl); refine jl_op (ow_call0 rfl (gr) ?_) (nb rfl)
        refine jl_op (ow_move rfl ?_) (nb rfl); refine jl_op (ow_extract rfl rfl ?_) (nb rfl); refine jl_op (ow_extract rfl rfl ?_) (nb rfl); refine jl_op (ow_extract rfl rfl ?_) (nb rfl)
        refine jl_op (ow_alloc rfl rfl (fun bl => ?_)) (nb rfl); refine jl_op0 (ow_storeAll 0 rfl rfl rfl rfl rfl rfl ?_); refine jl_op (ow_assign rfl ?_) (nb rfl); refine jl_op (ow_assign rfl ?_) (nb rfl); refine jl_nil ?_
        refine jq_then ?_; refine jc_seq ?_; refine jc_region ?_; refine jl_op (ow_move rfl ?_) (nb rfl); refine jl_op (ow_move rfl ?_) (nb rfl); refine jl_op (ow_eql rfl rfl ?_) (nb rfl); refine jl_op (ow_move rfl ?_) (nb rfl)
        refine jl_guardY rfl (decide_eq_true rfl) (nb rfl) (ow_move rfl ?_); refine jl_guardY rfl (decide_eq_true rfl) (nb rfl) (ow_move rfl ?_); refine jl_guardY rfl (decide_eq_true rfl) (nb rfl) (ow_eql rfl rfl ?_)
        refine jl_op (ow_pickT rfl (decide_eq_true rfl) rfl ?_) (nb rfl); refine jl_op (ow_move rfl ?_) (nb rfl); refine jl_guardY rfl (decide_eq_true rfl) (nb rfl) (ow_move rfl ?_)
        refine jl_guardY rfl (decide_eq_true rfl) (nb rfl) (ow_move rfl ?_); refine jl_guardY rfl (decide_eq_true rfl) (nb rfl) (ow_eql rfl rfl ?_); refine jl_op (ow_pickT rfl (decide_eq_true rfl) rfl ?_) (nb rfl)
        refine jl_op (ow_move rfl ?_) (nb rfl); refine jl_guardY rfl (decide_eq_true rfl) (nb rfl) (ow_move rfl ?_); refine jl_guardY rfl (decide_eq_true rfl) (nb rfl) (ow_move rfl ?_)
        refine jl_guardY rfl (decide_eq_true rfl) (nb rfl) (ow_eql rfl rfl ?_); refine jl_op (ow_pickT rfl (decide_eq_true rfl) rfl ?_) (nb rfl); refine jl_op (ow_move rfl ?_) (nb rfl)
        refine jl_guardY rfl (decide_eq_true rfl) (nb rfl) (ow_loadAll 3 rfl rfl rfl rfl ?_); refine jl_guardY rfl (decide_eq_true rfl) (nb rfl) (ow_loadAll 2 rfl rfl rfl rfl ?_)
        refine jl_guardY rfl (decide_eq_true rfl) (nb rfl) (ow_call0 rfl (e1) ?_); refine jl_op (ow_pickT rfl (decide_eq_true rfl) rfl ?_) (nb rfl); refine jl_op (ow_move rfl ?_) (nb rfl)
        refine jl_guardY rfl rfl (nb rfl) (ow_loadAll 1 rfl rfl rfl rfl ?_); refine jl_guardY rfl rfl (nb rfl) (ow_loadAll 0 rfl rfl rfl rfl ?_); refine jl_guardY rfl rfl (nb rfl) (ow_call0 rfl (e2) ?_)
        refine jl_op (ow_pickT rfl rfl rfl ?_) (nb rfl); refine jl_op (ow_move rfl ?_) (nb rfl); refine jl_guardY rfl rfl (nb rfl) (ow_call0 rfl (awake_c) ?_); refine jl_op (ow_pickT rfl rfl rfl ?_) (nb rfl)
        refine jl_op (ow_assign rfl ?_) (nb rfl); refine jl_nil ?_; refine jq_then ?_; refine jc_ret ?_; refine jq_ret1 rfl rfl [] rfl (fun K h => h)
      | some u =>
        refine jc_seq ?_; refine jc_region ?_; refine jl_op (ow_assign rfl ?_) (nb rfl); refine jl_nil ?_; refine jq_then ?_; refine jc_seq ?_; refine jc_seq ?_; refine jc_region ?_; refine jl_op (ow_move rfl ?_) (nb rfl)
        refine jl_op (ow_len rfl (fun hlen => ?_)) (nb rfl); refine jl_op (ow_gtr rfl rfl ?_) (nb rfl); refine jl_nil ?_; refine jq_then ?_; refine jc_condF rfl (decide_eq_false (by omega)) ?_; refine jc_skip ?_; refine jq_then ?_
        refine jc_seq ?_; refine jc_region ?_; refine jl_op (ow_move rfl ?_) (nb rfl); refine jl_op (ow_call0 rfl (signsL_c l hl) ?_) (nb rfl); refine jl_op (ow_call0 rfl (hs) ?_) (nb rfl); refine jl_op (ow_move rfl ?_) (nb rfl)
        refine jl_op (ow_extract rfl rfl ?_) (nb rfl); refine jl_op (ow_extract rfl rfl ?_) (nb rfl); refine jl_op (ow_extract rfl rfl ?_) (nb rfl); refine jl_op (ow_alloc rfl rfl (fun bl => ?_)) (nb rfl)
        refine jl_op0 (ow_storeAll 0 rfl rfl rfl rfl rfl rfl ?_); refine jl_op (ow_assign rfl ?_) (nb rfl); refine jl_op (ow_assign rfl ?_) (nb rfl); refine jl_nil ?_; refine jq_then ?_; refine jc_seq ?_; refine jc_region ?_
        refine jl_op (ow_move rfl ?_) (nb rfl); refine jl_op (ow_call0 rfl (signsL_c l hl) ?_) (nb rfl); refine jl_op (ow_call0 rfl (hr) ?_) (nb rfl); refine jl_op (ow_move rfl ?_) (nb rfl)
        refine jl_op (ow_extract rfl rfl ?_) (nb rfl); refine jl_op (ow_extract rfl rfl ?_) (nb rfl); refine jl_op (ow_extract rfl rfl ?_) (nb rfl); refine jl_op (ow_alloc rfl rfl (fun bl => ?_)) (nb rfl)
        refine jl_op0 (ow_storeAll 0 rfl rfl rfl rfl rfl rfl ?_); refine jl_op (ow_assign rfl ?_) (nb rfl); refine jl_op (ow_assign rfl ?_) (nb rfl); refine jl_nil ?_; refine jq_then ?_; refine jc_seq ?_; refine jc_region ?_
        refine jl_op (ow_move rfl ?_) (nb rfl); refine jl_op (ow_call0 rfl (gs) ?_) (nb rfl); refine jl_op (ow_move rfl ?_) (nb rfl); refine jl_op (ow_extract rfl rfl ?_) (nb rfl); refine jl_op (ow_extract rfl rfl ?_) (nb rfl)
        refine jl_op (ow_extract rfl rfl ?_) (nb rfl); refine jl_op (ow_alloc rfl rfl (fun bl => ?_)) (nb rfl); refine jl_op0 (ow_storeAll 0 rfl rfl rfl rfl rfl rfl ?_); refine jl_op (ow_assign rfl ?_) (nb rfl)
        refine jl_op (ow_assign rfl ?_) (nb rfl); refine jl_nil ?_; refine jq_then ?_; refine jc_seq ?_; refine jc_region ?_; refine jl_op (ow_move rfl ?_) (nb rfl); refine jl_op (ow_call0 rfl (gr) ?_) (nb rfl)
        refine jl_op (ow_move rfl ?_) (nb rfl); refine jl_op (ow_extract rfl rfl ?_) (nb rfl); refine jl_op (ow_extract rfl rfl ?_) (nb rfl); refine jl_op (ow_extract rfl rfl ?_) (nb rfl)
        refine jl_op (ow_alloc rfl rfl (fun bl => ?_)) (nb rfl); refine jl_op0 (ow_storeAll 0 rfl rfl rfl rfl rfl rfl ?_); refine jl_op (ow_assign rfl ?_) (nb rfl); refine jl_op (ow_assign rfl ?_) (nb rfl); refine jl_nil ?_
        refine jq_then ?_; refine jc_seq ?_; refine jc_region ?_; refine jl_op (ow_move rfl ?_) (nb rfl); refine jl_op (ow_move rfl ?_) (nb rfl); refine jl_op (ow_eql rfl rfl ?_) (nb rfl); refine jl_op (ow_move rfl ?_) (nb rfl)
        refine jl_guardY rfl (decide_eq_true rfl) (nb rfl) (ow_move rfl ?_); refine jl_guardY rfl (decide_eq_true rfl) (nb rfl) (ow_move rfl ?_); refine jl_guardY rfl (decide_eq_true rfl) (nb rfl) (ow_eql rfl rfl ?_)
        refine jl_op (ow_pickT rfl (decide_eq_true rfl) rfl ?_) (nb rfl); refine jl_op (ow_move rfl ?_) (nb rfl); refine jl_guardY rfl (decide_eq_true rfl) (nb rfl) (ow_move rfl ?_)
        refine jl_guardY rfl (decide_eq_true rfl) (nb rfl) (ow_move rfl ?_); refine jl_guardY rfl (decide_eq_true rfl) (nb rfl) (ow_eql rfl rfl ?_); refine jl_op (ow_pickT rfl (decide_eq_true rfl) rfl ?_) (nb rfl)
        refine jl_op (ow_move rfl ?_) (nb rfl); refine jl_guardY rfl (decide_eq_true rfl) (nb rfl) (ow_move rfl ?_); refine jl_guardY rfl (decide_eq_true rfl) (nb rfl) (ow_move rfl ?_)
        refine jl_guardY rfl (decide_eq_true rfl) (nb rfl) (ow_eql rfl rfl ?_); refine jl_op (ow_pickT rfl (decide_eq_true rfl) rfl ?_) (nb rfl); refine jl_op (ow_move rfl ?_) (nb rfl)
        refine jl_guardY rfl (decide_eq_true rfl) (nb rfl) (ow_loadAll 3 rfl rfl rfl rfl ?_); refine jl_guardY rfl (decide_eq_true rfl) (nb rfl) (ow_loadAll 2 rfl rfl rfl rfl ?_)
        refine jl_guardY rfl (decide_eq_true rfl) (nb rfl) (ow_call0 rfl (e1) ?_); refine jl_op (ow_pickT rfl (decide_eq_true rfl) rfl ?_) (nb rfl); refine jl_op (ow_move rfl ?_) (nb rfl)
        refine jl_guardY rfl rfl (nb rfl) (ow_loadAll 1 rfl rfl rfl rfl ?_); refine jl_guardY rfl rfl (nb rfl) (ow_loadAll 0 rfl rfl rfl rfl ?_); refine jl_guardY rfl rfl (nb rfl) (ow_call0 rfl (e2) ?_)
        refine jl_op (ow_pickT rfl rfl rfl ?_) (nb rfl); refine jl_op (ow_move rfl ?_) (nb rfl); refine jl_guardY rfl rfl (nb rfl) (ow_call0 rfl (awake_c) ?_); refine jl_op (ow_pickT rfl rfl rfl ?_) (nb rfl)
        refine jl_op (ow_assign rfl ?_) (nb rfl); refine jl_nil ?_; refine jq_then ?_; refine jc_ret ?_; refine jq_ret1 rfl rfl [] rfl (fun K h => h)
end Go.Proofs.YtamajcgdfjeehaaDoor
end

section
namespace Go.Vc
open Go.ChangeShapes Go.WideShapes Go.ChangeAt Go.RowKit Go.Joins Go.Deep

theorem strs_inj {H : Type} : ∀ {a b : List ByteArray}, (strs a : List (DataW H)) = strs b → a = b
  | [], [], _ => rfl
  | [], _ :: _, h => by simp [strs] at h
  | _ :: _, [], h => by simp [strs] at h
  | x :: a, y :: b, h => by
    simp only [strs, List.map_cons, List.cons.injEq, DataW.lit.injEq, Lit.string.injEq] at h
    have e : x = y := by
      cases x; cases y
      simp only at h
      congr 1
      exact Array.ext' h.1
    subst e
    rw [strs_inj (H := H) (a := a) (b := b) h.2]

section
variable {H : Type} {enc : TypeId × Value → H} {P : Program}
/-- A slice of strings that reads so. -/
theorem rd_strings {W : World} {t e : TypeId} (ht : P.underlying t = some (.slice e)) (he : P.underlying e = some .string) (hc : P.cellsOf e = 1) {cs : List Value} {L : List ByteArray} {ps : List MemPlace} {base : Nat} {sp : Nat → Bool} {held : Bool} {fuel : Nat} (h0 : 0 < L.length)
    (h : DataW.trod enc P W base sp held fuel t cs = some ((.slice (strs L) [] : DataW H), ps)) : ∃ v, cs = [v] ∧ Rd1 W (fun _ => False) (.list (L.map fun s => [.val (.string s)])) v := by
  rcases open_strings ht he hc h with ⟨_, hx⟩ | ⟨a, len, cap, ss, rfl, _, hle, hcap, hz, hx, hcell, _⟩
  · cases hx
  · simp only [Prod.mk.injEq, DataW.slice.injEq] at hx
    have hL : L = ss.take len := strs_inj hx.1.1
    have hlen : L.length = len := by
      rw [hL, List.length_take]
      have : len ≤ ss.length := by rw [hz]; split <;> omega
      omega
    refine ⟨_, rfl, some a, cap, by rw [List.length_map, hlen], by rw [List.length_map, hlen]; exact hle, hcap, ?_⟩
    have hss : len ≤ ss.length := by rw [hz]; split <;> omega
    have h1 := hcell 0 (by omega)
    have hsp : a.spot = none := by simpa [Addr.add] using World.cell?_spot h1
    obtain ⟨b, off, sp⟩ := a
    simp only at hsp
    subst hsp
    refine .inr ⟨b, off, L.map Value.string, 1, rfl, id, ?_, Nat.one_pos, ?_⟩
    · intro j u hj
      rw [List.getElem?_map, Option.map_eq_some_iff] at hj
      obtain ⟨z, hz1, rfl⟩ := hj
      have hjl : j < L.length := (List.getElem?_eq_some_iff.1 hz1).1
      have := hcell j (by omega)
      rw [add_at] at this
      rw [this]
      congr 2
      rw [List.getD_eq_getElem?_getD]
      rw [hL, List.getElem?_take] at hz1
      split at hz1
      · rw [hz1]; rfl
      · cases hz1
    · clear hL hlen h0 h hx
      induction L with
      | nil => rfl
      | cons s L ih => exact ⟨[.string s], _, rfl, rfl, ⟨.string s, [], rfl, ⟨rfl, rfl⟩, rfl⟩, ih⟩
/-- An array of strings that reads so. -/
theorem cells_of_strs {w : World} {base : Nat} {sp : Nat → Bool} {held : Bool} {fuel : Nat} {t e : TypeId} {n : Nat} {cs : List Value} {L : List ByteArray} {p : List MemPlace}
    (ht : P.underlying t = some (.array n e)) (he : P.underlying e = some .string) (hce : P.cellsOf e = 1) (hct : P.cellsOf t = n)
    (h : DataW.trod enc P w base sp held fuel t cs = some ((.agg (strs L) : DataW H), p)) : cs = L.map Value.string := by
  cases fuel with
  | zero => simp [DataW.trod] at h
  | succ fuel =>
    simp only [DataW.trod, ht, hce, hct, Nat.mul_one] at h
    split at h
    · rename_i hl
      obtain ⟨xs, hm, hx⟩ := Option.map_eq_some_iff.1 h
      have hxs : xs.map (·.1) = (strs L : List (DataW H)) := by
        have := congrArg Prod.fst hx
        simpa using this
      have hxl : xs.length = n := by simpa using Lib.mapM_length hm
      have hzl : L.length = n := by
        have := congrArg List.length hxs
        simp [strs] at this
        omega
      apply List.ext_getElem?
      intro i
      by_cases hi : i < n
      · obtain ⟨b, hb, hf⟩ := Lib.mapM_at hm i i (by simp [hi])
        obtain ⟨z, hc, rfl, _⟩ := DataW.trod_string he hf
        have h1 : cs[i]? = some (.string z) := by
          have := congrArg (·[0]?) hc
          simpa [List.getElem?_take, List.getElem?_drop] using this
        have h2 : (xs.map (·.1))[i]? = some (DataW.lit (.string z.data.toList) : DataW H) := by simp [hb]
        rw [hxs] at h2
        simp only [strs, List.getElem?_map, Option.map_eq_some_iff, DataW.lit.injEq, Lit.string.injEq] at h2
        obtain ⟨z', hz', e⟩ := h2
        have e2 : z' = z := by
          cases z; cases z'
          simp only at e
          congr 1
          exact Array.ext' e
        subst e2
        simp [h1, hz']
      · rw [List.getElem?_eq_none (by omega), List.getElem?_eq_none (by simp; omega)]
    · cases h
theorem gv_of_var {W : World} {name : String} {g : Nat} {cs : Array Value} {row : List C} (hg : P.globalNamed name = some g) (hvar : W.var? P name = some cs) (hr : RdRow W (fun _ => False) row cs.toList) : GV W (fun _ => False) g row := by
  unfold World.var? at hvar
  rw [hg] at hvar
  simp only [Option.bind_some] at hvar
  split at hvar
  · rename_i cs' t f hh
    cases hvar
    exact ⟨id, _, t, f, hh, hr⟩
  · cases hvar
end

theorem rdRow_strs {W : World} {A : Nat → Prop} : ∀ L : List ByteArray, RdRow W A (L.map (fun s => .val (.string s))) (L.map Value.string)
  | [] => rfl
  | s :: L => ⟨.string s, _, rfl, ⟨rfl, rfl⟩, rdRow_strs L⟩

section
variable {H : Type} {enc : TypeId × Value → H} {P : Program}
/-- An array of two slices of strings that reads so. -/
theorem rd_two {W : World} {t ts e : TypeId} (ht : P.underlying t = some (.array 2 ts)) (hs : P.underlying ts = some (.slice e)) (he : P.underlying e = some .string) (hc : P.cellsOf e = 1) (hcs : P.cellsOf ts = 1) (hct : P.cellsOf t = 2) {cs : List Value} {A B : List ByteArray} {p : List MemPlace} {base : Nat} {sp : Nat → Bool} {held : Bool} {fuel : Nat} (hA : 0 < A.length) (hB : 0 < B.length)
    (h : DataW.trod enc P W base sp held fuel t cs = some ((.agg [.slice (strs A) [], .slice (strs B) []] : DataW H), p)) : ∃ u v, cs = [u, v] ∧ Rd1 W (fun _ => False) (.list (A.map fun s => [.val (.string s)])) u ∧ Rd1 W (fun _ => False) (.list (B.map fun s => [.val (.string s)])) v := by
  cases fuel with
  | zero => simp [DataW.trod] at h
  | succ fuel =>
    simp only [DataW.trod, ht, hcs, hct, Nat.mul_one] at h
    split at h
    · rename_i hl
      obtain ⟨xs, hm, hx⟩ := Option.map_eq_some_iff.1 h
      have hxs : xs.map (·.1) = [.slice (strs A) [], .slice (strs B) []] := by
        have := congrArg Prod.fst hx
        simpa using this
      obtain ⟨c0, c1, rfl⟩ : ∃ c0 c1, cs = [c0, c1] := by
        match cs, hl with
        | [c0, c1], _ => exact ⟨c0, c1, rfl⟩
      obtain ⟨b0, hb0, hf0⟩ := Lib.mapM_at hm 0 0 (by simp)
      obtain ⟨b1, hb1, hf1⟩ := Lib.mapM_at hm 1 1 (by simp)
      have k0 : b0.1 = .slice (strs A) [] := by
        have := congrArg (·[0]?) hxs
        simpa [hb0] using this
      have k1 : b1.1 = .slice (strs B) [] := by
        have := congrArg (·[1]?) hxs
        simpa [hb1] using this
      obtain ⟨x0, q0⟩ := b0
      obtain ⟨x1, q1⟩ := b1
      simp only at k0 k1
      subst k0 k1
      obtain ⟨u, hu, ru⟩ := rd_strings hs he hc hA hf0
      obtain ⟨v, hv, rv⟩ := rd_strings hs he hc hB hf1
      refine ⟨u, v, ?_, ru, rv⟩
      simp at hu hv
      rw [hu, hv]
    · cases h

/-- A slice of structs of four cells that came in: each element's cells, and how each is read. -/
theorem rd_four {W : World} {t e : TypeId} {f0 f1 f2 f3 : Field} (ht : P.underlying t = some (.slice e)) (he : P.underlying e = some (.struct #[f0, f1, f2, f3])) (hone : oneCellFields P #[f0, f1, f2, f3] = true) (hc : P.cellsOf e = 4) {α : Type} {row : α → List C}
    (hrd : ∀ (n : Nat) (v0 v1 v2 v3 : Value) (y0 y1 y2 y3 : DataW H × List MemPlace), DataW.trod enc P W 0 (fun _ => true) true n f0.type [v0] = some y0 → DataW.trod enc P W 0 (fun _ => true) true n f1.type [v1] = some y1 → DataW.trod enc P W 0 (fun _ => true) true n f2.type [v2] = some y2 → DataW.trod enc P W 0 (fun _ => true) true n f3.type [v3] = some y3 →
      ∃ x : α, RdRow W (fun _ => False) (row x) [v0, v1, v2, v3])
    {v : Value} {d : DataW H} {ps : List MemPlace} (hs : ∃ a len cap, v = .slice a len cap) (h : DataW.Trod enc P W 0 (fun _ => true) true t v d ps) : ∃ L : List α, Rd1 W (fun _ => False) (.list (L.map row)) v := by
  obtain ⟨a0, len0, cap0, rfl⟩ := hs
  obtain ⟨fuel, hf⟩ := h
  rcases DataW.trod_slice ht hf with ⟨hn, _⟩ | ⟨a, len, cap, elems, rest, n, _, hcs, _, hb, hle, hcap, hlen, hel, _, _⟩
  · simp only [Value.cells, List.cons.injEq, Value.slice.injEq, and_true] at hn
    obtain ⟨rfl, rfl, rfl⟩ := hn
    exact ⟨[], none, 0, rfl, Nat.le_refl _, Nat.zero_le _, .inl rfl⟩
  · simp only [Value.cells, List.cons.injEq, Value.slice.injEq, and_true] at hcs
    obtain ⟨rfl, rfl, rfl⟩ := hcs
    have hcell : ∀ i, i < len0 → ∃ (x : α) (cs : List Value), W.cells? 0 (a.add (i * 4)) 4 = some cs ∧ cs.length = 4 ∧ RdRow W (fun _ => False) (row x) cs := by
      intro i hi
      have hb' := hel i hi
      rw [List.getElem?_eq_getElem (by omega), hc, Option.bind_eq_some_iff] at hb'
      obtain ⟨cs, h1, h2⟩ := hb'
      obtain ⟨y0, y1, y2, y3, n', _, hl, g0, g1, g2, g3⟩ := trod_struct4 he h2
      rw [hc] at hl
      obtain ⟨c0, c1, c2, c3, rfl⟩ : ∃ c0 c1 c2 c3, cs = [c0, c1, c2, c3] := by
        match cs, hl with
        | [c0, c1, c2, c3], _ => exact ⟨c0, c1, c2, c3, rfl⟩
      obtain ⟨o0, k0⟩ := hone_of hone 0 f0 rfl
      obtain ⟨o1, k1⟩ := hone_of hone 1 f1 rfl
      obtain ⟨o2, k2⟩ := hone_of hone 2 f2 rfl
      obtain ⟨o3, k3⟩ := hone_of hone 3 f3 rfl
      obtain ⟨x, hx⟩ := hrd n' c0 c1 c2 c3 y0 y1 y2 y3 (by simpa [o0, k0] using g0) (by simpa [o1, k1] using g1) (by simpa [o2, k2] using g2) (by simpa [o3, k3] using g3)
      exact ⟨x, _, h1, rfl, hx⟩
    by_cases h0 : len0 = 0
    · subst h0
      exact ⟨[], some a, cap0, rfl, Nat.zero_le _, hcap, .inl rfl⟩
    · have key : ∀ m, m ≤ len0 → ∃ (L : List α) (vs : List Value), L.length = m ∧ vs.length = m * 4 ∧ RdRows W (fun _ => False) 4 (L.map row) vs ∧ ∀ j, j < m * 4 → W.cell? (a.add j) = vs[j]? := by
        intro m
        induction m with
        | zero => exact fun _ => ⟨[], [], rfl, rfl, rfl, fun j hj => by omega⟩
        | succ m ih =>
          intro hm
          obtain ⟨L, vs, e1, e2, e3, e4⟩ := ih (by omega)
          obtain ⟨x, cs, h1, h2, h3⟩ := hcell m (by omega)
          obtain ⟨_, _, hcc⟩ := World.cells?_some h1
          refine ⟨L ++ [x], vs ++ cs, by simp [e1], by simp [e2, h2]; omega, ?_, ?_⟩
          · rw [List.map_append]
            exact rdRows_append e3 ⟨cs, [], by simp, h2, h3, rfl⟩
          · intro j hj
            by_cases hlt : j < m * 4
            · rw [List.getElem?_append_left (by omega)]
              exact e4 j hlt
            · rw [List.getElem?_append_right (by omega), e2]
              have h5 := hcc (j - m * 4) (by omega)
              rw [← h5]
              have e : (a.add (m * 4)).add (j - m * 4) = a.add j := by
                unfold Addr.add
                by_cases h1 : m * 4 = 0
                · rw [if_pos h1, show j - m * 4 = j by omega]
                · rw [if_neg h1, if_neg (show ¬ j = 0 by omega)]
                  by_cases h2 : j - m * 4 = 0
                  · rw [if_pos h2, show m * 4 = j by omega]
                  · rw [if_neg h2]
                    simp only [Addr.mk.injEq, and_true, true_and]
                    omega
              rw [e]
      obtain ⟨L, vs, e1, e2, e3, e4⟩ := key len0 (Nat.le_refl _)
      have hsp : a.spot = none := by
        have h5 := e4 0 (by omega)
        rw [List.getElem?_eq_getElem (by omega)] at h5
        simpa [Addr.add] using World.cell?_spot h5
      obtain ⟨b, off, sp⟩ := a
      simp only at hsp
      subst hsp
      refine ⟨L, some ⟨b, off, none⟩, cap0, by rw [List.length_map, e1], by rw [List.length_map, e1]; exact hle, hcap, .inr ⟨b, off, vs, 4, rfl, id, ?_, by decide, e3⟩⟩
      intro j u hj
      have hjl := (List.getElem?_eq_some_iff.1 hj).1
      have := e4 j (by omega)
      rw [add_at] at this
      rw [this, hj]
end
end Go.Vc
end

section
namespace Go.Vc
open Go.RowKit Go.ChangeShapes Go.WideShapes

section
variable {H : Type} {enc : TypeId × Value → H} {P : Program}

/-- Arguments read as they did. -/
theorem args_stay (hl : laidOutB P = true) {W W' : World} (hb : Below W.heap.size W W') : ∀ {ts : List TypeId} {vs : List Value} {ds : List (DataW H)} {ps : List MemPlace}, ts.all (fun t => P.readableRec t && decide (t < P.types.size)) = true →
    DataW.TrodAll enc P W 0 (fun _ => true) true ts vs ds ps → (∀ p ∈ ps, p.block < W.heap.size) → DataW.TrodAll enc P W' 0 (fun b => decide (b < W.heap.size)) true ts vs ds ps
  | [], vs, ds, ps, _, h, _ => by
    obtain ⟨rfl, rfl, rfl⟩ := trodAll_nil h
    rfl
  | t :: ts, vs, ds, ps, hr, h, hlt => by
    simp only [List.all_cons, Bool.and_eq_true, decide_eq_true_eq] at hr
    obtain ⟨⟨h1, h2⟩, h3⟩ := hr
    obtain ⟨v, vr, d, dr, p, q, rfl, rfl, rfl, g1, g2⟩ := trodAll_cons h
    exact ⟨p, q, Below.trod hl h1 h2 g1 hb (fun x hx => hlt x (List.mem_append.2 (.inl hx))), args_stay hl hb h3 g2 (fun x hx => hlt x (List.mem_append.2 (.inr hx))), rfl⟩

/-- What a law's row asks behind the call: true, and each argument reads as it did. -/
theorem law_post {f : Func} {s : ChangeSpec} {W W' : World} {args : Array Value} {ds : List (DataW H)} {before : List MemPlace} {bt : TypeId} (hv : s.vars = []) (hW : DataW.Whole enc P f.params.toList s.vars false W args.toList ds [] before)
    (hr : (s.fn H (ds ++ [])).results = [.lit (.bool true)]) (ha : (s.fn H (ds ++ [])).args = ds) (hg : (s.fn H (ds ++ [])).vars = []) (hrt : f.resultTypes = #[bt]) (hbt : P.underlying bt = some .bool)
    (hl : laidOutB P = true) (hrd : f.params.toList.all (fun t => P.readableRec t && decide (t < P.types.size)) = true) (hb : Below W.heap.size W W') : s.post enc P f false true false false W args (.bool true) W' := by
  have hlt := hW.lt
  have hW' := hW
  obtain ⟨p, q, hA, hV, rfl, _, _⟩ := hW'
  rw [hv] at hV
  obtain ⟨_, rfl⟩ := trodVars_none hV
  refine ⟨ds, [], p ++ [], [], p, [], hW, ?_, ?_, ?_, World.keptBut_mono (fun x hx => ⟨hx, .inr (.inl (by simpa using hx))⟩) (hb.frame (· ∈ p ++ [])), fun h => by cases h⟩
  · rw [hr, hrt]
    exact trodAll_mk1 (shut_bool hbt _)
  · rw [ha]
    exact args_stay hl hb hrd hA (fun x hx => hlt x (by simpa using hx))
  · rw [hg, hv]
    rfl

/-- A slice of integers that came in. -/
theorem rd_ints {W : World} {t e : TypeId} {k : IntKind} (ht : P.underlying t = some (.slice e)) (he : P.underlying e = some (.int k)) (hc : P.cellsOf e = 1) {v : Value} {d : DataW H} {ps : List MemPlace} (hs : ∃ a len cap, v = .slice a len cap)
    (h : DataW.Trod enc P W 0 (fun _ => true) true t v d ps) : ∃ L : List Int, Rd1 W (fun _ => False) (.list (L.map (fun n => [.val (.int k n)]))) v ∧ ∀ n ∈ L, (Lit.int k n).wf = true := by
  obtain ⟨a0, len0, cap0, rfl⟩ := hs
  obtain ⟨fuel, hf⟩ := h
  rcases open_ints ht he hc hf with ⟨hn, _⟩ | ⟨a, len, cap, zs, hcs, _, hle, hcap, hz, _, hcell, hwf⟩
  · simp only [Value.cells, List.cons.injEq, Value.slice.injEq, and_true] at hn
    obtain ⟨rfl, rfl, rfl⟩ := hn
    exact ⟨[], ⟨none, 0, rfl, Nat.le_refl _, Nat.zero_le _, .inl rfl⟩, by simp⟩
  · simp only [Value.cells, List.cons.injEq, Value.slice.injEq, and_true] at hcs
    obtain ⟨rfl, rfl, rfl⟩ := hcs
    simp only [if_true] at hz
    have hlen : (zs.take len0).length = len0 := by simp; omega
    refine ⟨zs.take len0, ⟨some a, cap0, by rw [List.length_map, hlen], by rw [List.length_map, hlen]; exact hle, hcap, ?_⟩, fun n hn => hwf n (List.mem_of_mem_take hn)⟩
    by_cases h0 : len0 = 0
    · exact .inl (by rw [List.length_map, hlen]; exact h0)
    · have h1 := hcell 0 (by omega)
      have hsp : a.spot = none := by simpa [Addr.add] using World.cell?_spot h1
      obtain ⟨b, off, sp⟩ := a
      simp only at hsp
      subst hsp
      refine .inr ⟨b, off, (zs.take len0).map (Value.int k), 1, rfl, id, ?_, Nat.one_pos, ?_⟩
      · intro j u hj
        rw [List.getElem?_map, Option.map_eq_some_iff] at hj
        obtain ⟨z, hz1, rfl⟩ := hj
        rw [List.getElem?_take] at hz1
        split at hz1
        · have hjl : j < zs.length := by omega
          have := hcell j hjl
          rw [add_at] at this
          rw [this]
          congr 2
          rw [List.getD_eq_getElem?_getD, hz1]
          rfl
        · cases hz1
      · generalize zs.take len0 = L
        induction L with
        | nil => rfl
        | cons n L ih => exact ⟨[.int k n], L.map (Value.int k), rfl, rfl, ⟨_, _, rfl, ⟨rfl, rfl⟩, rfl⟩, ih⟩

/-- From a contract to a run. -/
theorem con_run [Gl P] {f : FuncId} {ss : List S} {vs : List Value} {W : World} (con : Con P f ss [] (fun K => K (Bl true) [])) (hs : SOks W (fun _ => False) ss vs) (hgl : Gl.ok P W (fun _ => False) := by exact trivial) : Calls P f vs.toArray W (fun e W' => e = .returned (.bool true) ∧ Below W.heap.size W W') := by
  refine (con vs W (fun _ => False) (fun _ h => h.elim) (by simp [hb]) (by simp [hb]) hs (by simp) hgl).mono ?_
  rintro e W' ⟨v, s, Ho, rfl, hK, hv, _, _, _, hg⟩
  obtain ⟨rfl, rfl⟩ := hK (fun s' H' => s' = Bl true ∧ H' = []) ⟨rfl, rfl⟩
  obtain ⟨rfl, _⟩ := hv
  exact ⟨rfl, hg.os, hg.tape, hg.output, hg.size, fun k hk => hg.block k hk (by simp [hb])⟩
end
end Go.Vc
end

section
namespace Go.Proofs.YtamajcgdfjeehaaDoor
open Go.ChangeShapes Go.WideShapes Go.ChangeAt Go.RowKit Go.Vc Go.Joins Go.Deep

/-! What the cards of the parser's laws share -/
theorem own : ownKnob Tryd.prog.godebug = none := by kernel_rfl
theorem laidOut : laidOutB Tryd.prog = true := by kernel_rfl
theorem cells3 : Tryd.prog.cellsOf 3 = 1 := by kernel_rfl
theorem cells5 : Tryd.prog.cellsOf 5 = 1 := by kernel_rfl
theorem cellsS : Tryd.prog.cellsOf 9 = 1 := by kernel_rfl
theorem cellsLs : Tryd.prog.cellsOf 36 = 1 := by kernel_rfl
theorem wordsData_eq : (Rows.laid_timebound_tree_words : DataW Unit) = .slice (strs words) [] := by kernel_rfl
theorem signsData_eq : (Rows.laid_timebound_tree_signs : DataW Unit) = .agg (strs signL) := by kernel_rfl
theorem linesData_eq : (Rows.laid_timebound_parse_lines : DataW Unit) = .agg [.slice (strs addL) [], .slice (strs mulL) []] := by kernel_rfl
theorem cmpsData_eq : (Rows.laid_timebound_parse_comparisons : DataW Unit) = .slice (strs cmpL) [] := by kernel_rfl
theorem gWords : Tryd.prog.globalNamed "timebound/tree.words" = some 3 := by kernel_rfl
theorem gWordsType : (Tryd.prog.globals[3]?).map (·.type) = some 36 := by kernel_rfl
theorem gSigns : Tryd.prog.globalNamed "timebound/tree.signs" = some 2 := by kernel_rfl
theorem gSignsType : (Tryd.prog.globals[2]?).map (·.type) = some 154 := by kernel_rfl
theorem cellsSigns : Tryd.prog.cellsOf 154 = 14 := by kernel_rfl
theorem gLines : Tryd.prog.globalNamed "timebound/parse.lines" = some 1 := by kernel_rfl
theorem gLinesType : (Tryd.prog.globals[1]?).map (·.type) = some 133 := by kernel_rfl
theorem cellsLines : Tryd.prog.cellsOf 133 = 2 := by kernel_rfl
theorem gCmps : Tryd.prog.globalNamed "timebound/parse.comparisons" = some 0 := by kernel_rfl
theorem gCmpsType : (Tryd.prog.globals[0]?).map (·.type) = some 36 := by kernel_rfl
theorem gl_of {W : World} (h : laidMetH Tryd.prog Rows.parseExprsRow.laid W) : Gl.ok Tryd.prog W (fun _ => False) := by
  have h1 : laidMet Tryd.prog Rows.parseExprsRow.laid W := h
  have h2 := laidMet.tail h1
  have h3 := laidMet.tail h2
  have h4 := laidMet.tail h3
  rw [show Rows.parseExprsRow.laid = [("timebound/tree.words", Rows.laid_timebound_tree_words), ("timebound/tree.signs", Rows.laid_timebound_tree_signs), ("timebound/parse.lines", Rows.laid_timebound_parse_lines), ("timebound/parse.comparisons", Rows.laid_timebound_parse_comparisons)] from rfl, wordsData_eq] at h1
  rw [signsData_eq] at h2
  rw [linesData_eq] at h3
  rw [cmpsData_eq] at h4
  refine ⟨?_, ?_, ?_, ?_⟩
  · obtain ⟨ps, ⟨g', t', cs, fuel, p, q, hg', ht', hvar, hd, _, _⟩, _⟩ := h1
    obtain rfl := Option.some.inj (gWords.symm.trans hg')
    obtain rfl := Option.some.inj (gWordsType.symm.trans ht')
    obtain ⟨v, hcs, hr⟩ := rd_strings Tryd.underlying36 Tryd.underlying9 cellsS (by decide) hd
    exact gv_of_var gWords hvar (by rw [hcs]; exact ⟨v, [], rfl, hr, rfl⟩)
  · obtain ⟨ps, ⟨g', t', cs, fuel, p, q, hg', ht', hvar, hd, _, _⟩, _⟩ := h2
    obtain rfl := Option.some.inj (gSigns.symm.trans hg')
    obtain rfl := Option.some.inj (gSignsType.symm.trans ht')
    have e := cells_of_strs Tryd.underlying154 Tryd.underlying9 cellsS cellsSigns hd
    exact gv_of_var gSigns hvar (by rw [e]; exact rdRow_strs signL)
  · obtain ⟨ps, ⟨g', t', cs, fuel, p, q, hg', ht', hvar, hd, _, _⟩, _⟩ := h3
    obtain rfl := Option.some.inj (gLines.symm.trans hg')
    obtain rfl := Option.some.inj (gLinesType.symm.trans ht')
    obtain ⟨u, v, hcs, hu, hv⟩ := rd_two Tryd.underlying133 Tryd.underlying36 Tryd.underlying9 cellsS cellsLs cellsLines (by decide) (by decide) hd
    exact gv_of_var gLines hvar (by rw [hcs]; exact ⟨u, [v], rfl, hu, v, [], rfl, hv, rfl⟩)
  · obtain ⟨ps, ⟨g', t', cs, fuel, p, q, hg', ht', hvar, hd, _, _⟩, _⟩ := h4
    obtain rfl := Option.some.inj (gCmps.symm.trans hg')
    obtain rfl := Option.some.inj (gCmpsType.symm.trans ht')
    obtain ⟨v, hcs, hr⟩ := rd_strings Tryd.underlying36 Tryd.underlying9 cellsS (by decide) hd
    exact gv_of_var gCmps hvar (by rw [hcs]; exact ⟨v, [], rfl, hr, rfl⟩)
/-- A world for the witness: as the program's start lays it. -/
noncomputable def laidWorld (os : Os) : World := World.doorLaid Tryd.prog 400 os
theorem laid_met (os : Os) (args : Array Value) : laidMet Tryd.prog Rows.parseExprsRow.laid ((laidWorld os).forCall (fun _ _ => 0) ⟨#[], args, []⟩).memory :=
  laidMet_of_run' 8 (by kernel_rfl) (by kernel_rfl)
section
variable {H : Type} {enc : TypeId × Value → H}
/-- Tokens that came in. -/
theorem rd_toks {W : World} {v : Value} {d : DataW H} {ps : List MemPlace} (hs : ∃ a len cap, v = .slice a len cap) (h : DataW.Trod enc Tryd.prog W 0 (fun _ => true) true 23 v d ps) : ∃ L : List Tok, Rd1 W (fun _ => False) (.list (L.map Tok.row)) v :=
  rd_four Tryd.underlying23 Tryd.underlying76 (by kernel_rfl) (by kernel_rfl) (fun n v0 v1 v2 v3 y0 y1 y2 y3 g0 g1 g2 g3 => by
    obtain ⟨k0, e0, _, _⟩ := DataW.trod_int Tryd.underlying3 g0
    obtain ⟨k1, e1, _, _⟩ := DataW.trod_int Tryd.underlying3 g1
    obtain ⟨k2, e2, _, _⟩ := DataW.trod_int Tryd.underlying3 g2
    obtain ⟨k3, e3, _⟩ := DataW.trod_string Tryd.underlying9 g3
    simp only [List.cons.injEq, and_true] at e0 e1 e2 e3
    subst e0 e1 e2 e3
    exact ⟨⟨k0, k1, k2, k3⟩, _, _, rfl, ⟨rfl, rfl⟩, _, _, rfl, ⟨rfl, rfl⟩, _, _, rfl, ⟨rfl, rfl⟩, _, _, rfl, ⟨rfl, rfl⟩, rfl⟩) hs h
end
end Go.Proofs.YtamajcgdfjeehaaDoor
end

section
namespace Go.Proofs.YtamajcgdfjeehaaDoor.parseExprs
open Go.ChangeShapes Go.WideShapes Go.ChangeAt Go.RowKit Go.Vc Go.Joins

set_option maxRecDepth 100000 in
theorem contract (H : Type) (enc : TypeId × Value → H) (W : World) (base : Nat) (args : Array Value) (ds gs : List (DataW H)) (before : List MemPlace)
    (hval : ∀ (j : Nat) t v, Tryd.f3.params[j]? = some t → args[j]? = some v → Value.okWide Tryd.prog W .any base t v)
    (hW : DataW.Whole enc Tryd.prog Tryd.f3.params.toList Rows.parseExprsSpec.vars false W args.toList ds gs before) (hL : laidMetH Tryd.prog Rows.parseExprsRow.laid W) :
    Calls Tryd.prog 3 args W fun e W' => ∃ v, e = .returned v ∧ Rows.parseExprsSpec.post enc Tryd.prog Tryd.f3 false true false false W args v W' := by
  have hW' := hW
  obtain ⟨p, q, hA0, hV, rfl, hfz, hnd⟩ := hW
  have hA : DataW.TrodAll enc Tryd.prog W 0 (fun _ => true) true Tryd.f3.params.toList args.toList ds p := hA0
  rw [Tryd.params3] at hA hval
  obtain ⟨v0, vs0, d0, ds0, p0, q0, hargs, rfl, rfl, h0, r0⟩ := trodAll_cons hA
  obtain ⟨v1, vs1, d1, ds1, p1, q1, rfl, rfl, rfl, h1, r1⟩ := trodAll_cons r0
  obtain ⟨rfl, rfl, rfl⟩ := trodAll_nil r1
  obtain rfl : args = #[v0, v1] := by cases args; simp_all
  obtain ⟨rfl, rfl⟩ := trodVars_none hV
  obtain ⟨L0, hL0, hwf0⟩ := rd_ints Tryd.underlying22 Tryd.underlying5 cells5 (okWide_slice Tryd.underlying22 (hval 0 22 v0 rfl rfl)) h0
  have hn0 : ∀ n ∈ L0, 0 ≤ n ∧ n ≤ 255 := fun n hn => by simpa [Lit.wf, IntKind.min, IntKind.max, IntKind.signed, IntKind.bits] using hwf0 n hn
  obtain ⟨L1, hL1⟩ := rd_toks (okWide_slice Tryd.underlying23 (hval 1 23 v1 rfl rfl)) h1
  refine (con_run (vs := [v0, v1]) (ParseExprs_c L0 hn0 L1) ⟨_, _, rfl, hL0, _, _, rfl, hL1, rfl⟩ (gl_of hL)).mono ?_
  rintro e W' ⟨rfl, hb⟩
  exact ⟨_, rfl, law_post rfl hW' rfl rfl rfl rfl Tryd.underlying4 laidOut (by kernel_rfl) hb⟩

theorem reads (os : Os) {H : Type} (enc : TypeId × Value → H) : ∃ places, DataW.whole enc Tryd.prog ((laidWorld os).forCall (fun _ _ => 0) ⟨#[], #[.slice none 0 0, .slice none 0 0], []⟩).memory Tryd.f3.params.toList Rows.parseExprsSpec.vars false #[Value.slice none 0 0, .slice none 0 0].toList 8 = some ([.nil, .nil], [], places) :=
  ⟨[], by kernel_rfl⟩

set_option maxRecDepth 100000 in
theorem lifted (os : Os) (started : os.Started) (H : Type) (enc : TypeId × Value → H) (F : Stop.Interp) :
    ReturnsInHanded {} Tryd.checked os 3 .any ((OpenSpec.ofChange Rows.parseExprsSpec).preRow enc Tryd.prog Tryd.f3 Rows.parseExprsRow.domain false Rows.parseExprsRow.laid) (((OpenSpec.ofChange Rows.parseExprsSpec).at F).post enc Tryd.prog Tryd.f3 false true false false) := by
  obtain ⟨places, hx⟩ := reads os enc
  refine returnsInHanded_of_row (C := Tryd.checked) (s := OpenSpec.ofChange Rows.parseExprsSpec) own started (by kernel_rfl) Tryd.func3
    (witness_row_atRef (enc := enc) (C := Tryd.checked) false (laidWorld os) _ rfl (by kernel_rfl) (by kernel_rfl) (by kernel_rfl)
      (OpenSpec.preRow_of_cond 8 hx (by kernel_rfl) (fun k hk => by cases hk) (by kernel_rfl) (laid_met os _))) ?_
  intro W base args ds gs before hval hW _ _ _ hL _ _
  exact contract H enc W base args ds gs before hval hW hL

theorem said : Rows.ParseExprsSaid :=
  OpenClaim.holds_of_cond 3 Tryd.f3 rfl rfl rfl rfl rfl rfl rfl ⟨rfl, rfl, rfl, rfl, rfl⟩ rfl rfl rfl rfl rfl (by kernel_rfl) Tryd.func3 (by kernel_rfl)
    (of_decide_eq_true (by kernel_rfl)) (by unfold Func.isWrapper; first | (rw [if_pos (by decide +kernel)]; kernel_rfl) | (rw [if_neg (by decide +kernel)]; exact ⟨rfl, rfl⟩))
    (fun os started H enc _ F => by rw [OpenClaim.pre_eq_preRow]; exact lifted os started H enc F)

theorem plain (f : FuncId) (fn : Func) (hf : Tryd.pinned.checked.prog.funcNamed "timebound/timeboundlaw03.ParseExprs" = some f) (hfn : Tryd.pinned.checked.prog.funcs[f]? = some fn) :
    true = Tryd.pinned.checked.prog.looks [] ∧ ∀ (j : Nat) t, fn.params[j]? = some t → Tryd.pinned.checked.prog.wantsStandIn t = false := by
  obtain rfl : f = 3 := Option.some.inj ((show Tryd.prog.funcNamed "timebound/timeboundlaw03.ParseExprs" = some 3 by kernel_rfl).symm.trans hf) |>.symm
  obtain rfl : fn = Tryd.f3 := (Option.some.inj (Tryd.func3.symm.trans hfn)).symm
  refine ⟨by kernel_rfl, fun j t ht => ?_⟩
  have hall : (Tryd.f3.params.toList.all fun u => !Tryd.prog.wantsStandIn u) = true := by kernel_rfl
  have hm : t ∈ Tryd.f3.params.toList := by simpa using Array.mem_of_getElem? ht
  exact (show Tryd.prog.wantsStandIn t = false by simpa using List.all_eq_true.1 hall t hm)

theorem card : Rows.ParseExprsCardSaid :=
  Claim7.holds_tied_plain_at .later [] _ _ _ _ said (fun _ h => by cases h) (by kernel_rfl) (fun _ h => by cases h) parseExprs_row_tie rfl ⟨rfl, rfl⟩ (by kernel_rfl) rfl plain (by kernel_rfl)
#print axioms card
end Go.Proofs.YtamajcgdfjeehaaDoor.parseExprs
end
