import Derived.Test.YtjnfamgjffnfiaaDoorPd1
import Derived.Test.YtjnfamgjffnfiaaDoorGl
namespace Go.Proofs.YtjnfamgjffnfiaaDoor
open Go.Vc
attribute [local irreducible] JL JC JQ OpWp Con ConN
set_option maxHeartbeats 4000000

theorem Rdepth_c : ∀ (F : Nat) (t : T), F ≤ 20 → Con Tryd.prog 20 [.row t.row', In .i64 (21 - (F : Int))] [] (fun K => K (In .i64 (rd F t : Int)) []) := by
  intro F
  induction F with
  | zero =>
    intro t _
    refine con_intro Tryd.func20 rfl rfl (Nat.le_of_ble_eq_true rfl) (fun c hc => ?_)
    refine jc_seq ?_
    refine jc_region ?_
    refine jl_op ?_ (nb rfl)
    refine ow_box rfl (fun bx => ?_)
    refine jl_op ?_ (nb rfl)
    refine ow_assign rfl ?_
    refine jl_nil ?_
    refine jq_then ?_
    refine jc_seq ?_
    refine jc_seq ?_
    refine jc_region ?_
    refine jl_op ?_ (nb rfl)
    refine ow_move rfl ?_
    refine jl_op ?_ (nb rfl)
    refine ow_gtr rfl rfl ?_
    refine jl_nil ?_
    refine jq_then ?_
    refine jc_condd rfl (fun _ => ?_) (fun h => by omega)
    refine jc_seq ?_
    refine jc_region ?_
    refine jl_op ?_ (nb rfl)
    refine ow_assign rfl ?_
    refine jl_nil ?_
    refine jq_then ?_
    refine jc_ret ?_
    refine jq_then_ret ?_
    refine jq_ret1 rfl rfl [] rfl (fun K h => h)
  | succ F ih =>
    intro t hF
    have eA : (t.args.map T.row).length = t.args.length := List.length_map _
    refine con_intro Tryd.func20 rfl rfl (Nat.le_of_ble_eq_true rfl) (fun c hc => ?_)
    refine jc_seq ?_
    refine jc_region ?_
    refine jl_op ?_ (nb rfl)
    refine ow_box rfl (fun bx => ?_)
    refine jl_op ?_ (nb rfl)
    refine ow_assign rfl ?_
    refine jl_nil ?_
    refine jq_then ?_
    refine jc_seq ?_
    refine jc_seq ?_
    refine jc_region ?_
    refine jl_op ?_ (nb rfl)
    refine ow_move rfl ?_
    refine jl_op ?_ (nb rfl)
    refine ow_gtr rfl rfl ?_
    refine jl_nil ?_
    refine jq_then ?_
    refine jc_condd rfl (fun h => by omega) (fun _ => ?_)
    refine jc_skip ?_
    refine jq_then ?_
    refine jc_seq ?_
    refine jc_region ?_
    refine jl_op ?_ (nb rfl)
    refine ow_move rfl ?_
    refine jl_op ?_ (nb rfl)
    refine ow_assign rfl ?_
    refine jl_nil ?_
    refine jq_then ?_
    refine jc_seq ?_
    refine jc_seq ?_
    refine jc_region ?_
    refine jl_op ?_ (nb rfl)
    refine ow_assign rfl ?_
    refine jl_nil ?_
    refine jq_then ?_
    refine jc_block ?_
    have e0 : (21 - ((F + 1 : Nat) : Int)) = ((max (20 - F) (mx (rd F) (t.args.take 0)) : Nat) : Int) := by rw [List.take_zero]; simp only [mx, List.foldl_nil]; omega
    refine jc_loopS (ι := Nat) [] (fun k => k ≤ t.args.length) (fun k => [(1, In .i64 (21 - ((F + 1 : Nat) : Int))), (2, .cell (.val (.pointer (some ⟨bx, 0, none⟩)))), (5, In .i64 ((max (20 - F) (mx (rd F) (t.args.take k)) : Nat) : Int)), (6, In .i64 (k : Int))]) (fun _ => [.blk bx 26 t.row']) (fun k => t.args.length - k) 0 (Nat.zero_le _) ?_ ?_ ?_
    · refine sub_step 0 rfl ?_
      exact sub_end
    · rw [← e0]
      (repeat (first | exact True.intro | refine ⟨rfl, ?_⟩))
    · intro k hk
      refine jc_reset [(1, In .i64 (21 - ((F + 1 : Nat) : Int))), (2, .cell (.val (.pointer (some ⟨bx, 0, none⟩)))), (5, In .i64 ((max (20 - F) (mx (rd F) (t.args.take k)) : Nat) : Int)), (6, In .i64 (k : Int))] [.blk bx 26 t.row'] ?_ ⟨[0], [], rfl⟩ ?_
      · (repeat (first | exact True.intro | refine ⟨rfl, ?_⟩))
      refine jc_seq ?_
      refine jc_seq ?_
      refine jc_region ?_
      refine jl_op ?_ (nb rfl)
      refine ow_move rfl ?_
      refine jl_op ?_ (nb rfl)
      refine ow_fieldAddr rfl rfl rfl (nb rfl) ?_
      refine jl_op ?_ (nb rfl)
      refine ow_load 0 rfl rfl rfl rfl ?_
      refine jl_op ?_ (nb rfl)
      refine ow_len rfl (fun hlen => ?_)
      refine jl_op ?_ (nb rfl)
      refine ow_lss rfl rfl ?_
      refine jl_nil ?_
      refine jq_then ?_
      refine jc_condd rfl (fun hlt => ?_) (fun hge => ?_)
      · have hlt' : k < t.args.length := by omega
        have hI : Con Tryd.prog 20 [.row (t.args[k]).row', In .i64 (21 - ((F + 1 : Nat) : Int) + 1)] [] (fun K => K (In .i64 (rd F t.args[k] : Int)) []) := by
          rw [show (21 - ((F + 1 : Nat) : Int) + 1) = 21 - (F : Int) by omega]
          exact ih _ (by omega)
        refine jc_skip ?_
        refine jq_then ?_
        refine jc_seq ?_
        refine jc_block ?_
        refine jc_region ?_
        refine jl_op ?_ (nb rfl)
        refine ow_move rfl ?_
        refine jl_op ?_ (nb rfl)
        refine ow_fieldAddr rfl rfl rfl (nb rfl) ?_
        refine jl_op ?_ (nb rfl)
        refine ow_load 0 rfl rfl rfl rfl ?_
        refine jl_op ?_ (nb rfl)
        refine ow_move rfl ?_
        refine jl_op ?_ (nb rfl)
        refine ow_indexAddrMapE rfl rfl (by omega) (T.row_eq _) rfl (nb rfl) ?_
        refine jl_op ?_ (nb rfl)
        refine ow_loadPlaceN rfl rfl rfl ?_
        refine jl_op ?_ (nb rfl)
        refine ow_move rfl ?_
        refine jl_op ?_ (nb rfl)
        refine ow_add64 rfl rfl (by omega) ?_
        refine jl_op ?_ (nb rfl)
        refine ow_call0 rfl (hI) ?_
        refine jl_op ?_ (nb rfl)
        refine ow_max2 rfl rfl ?_
        refine jl_op ?_ (nb rfl)
        refine ow_assign rfl ?_
        refine jl_nil ?_
        refine jq_block ?_
        refine jq_then ?_
        refine jc_region ?_
        refine jl_op ?_ (nb rfl)
        refine ow_move rfl ?_
        refine jl_op ?_ (nb rfl)
        refine ow_add64 rfl rfl (by omega) ?_
        refine jl_op ?_ (nb rfl)
        refine ow_assign rfl ?_
        refine jl_nil ?_
        refine jq_againS (k + 1) (by omega) (by omega) ?_ ?_
        · refine sub_step 0 rfl ?_
          exact sub_end
        · rw [List.take_succ_eq_append_getElem hlt', mx_snoc, show ((max (20 - F) (max (mx (rd F) (t.args.take k)) (rd F t.args[k])) : Nat) : Int) = max ((max (20 - F) (mx (rd F) (t.args.take k)) : Nat) : Int) (rd F t.args[k] : Int) by omega]
          (repeat (first | exact True.intro | refine ⟨rfl, ?_⟩))
      · obtain rfl : k = t.args.length := by omega
        rw [List.take_length]
        refine jc_exit ?_
        refine jq_then_exit ?_
        refine jq_then_exit ?_
        refine jq_block_exit ?_
        refine jq_then ?_
        refine jc_seq ?_
        refine jc_region ?_
        refine jl_op ?_ (nb rfl)
        refine ow_move rfl ?_
        refine jl_op ?_ (nb rfl)
        refine ow_assign rfl ?_
        refine jl_nil ?_
        refine jq_then ?_
        refine jc_ret ?_
        refine jq_ret1 rfl rfl [] rfl (fun K h => h)
theorem RDepth_c (t : T) : Con Tryd.prog 13 [.row t.row'] [] (fun K => K (In .i64 (rd 20 t : Int)) []) := by
  have h := Rdepth_c 20 t (by omega)
  rw [show (21 - ((20 : Nat) : Int)) = 1 by omega] at h
  refine con_intro Tryd.func13 rfl rfl (Nat.le_of_ble_eq_true rfl) (fun c hc => ?_)
  refine jc_seq ?_
  refine jc_region ?_
  refine jl_op ?_ (nb rfl)
  refine ow_box rfl (fun bx => ?_)
  refine jl_op ?_ (nb rfl)
  refine ow_assign rfl ?_
  refine jl_nil ?_
  refine jq_then ?_
  refine jc_seq ?_
  refine jc_region ?_
  refine jl_op ?_ (nb rfl)
  refine ow_loadAll 0 rfl rfl rfl rfl ?_
  refine jl_op ?_ (nb rfl)
  refine ow_call0 rfl (h) ?_
  refine jl_op ?_ (nb rfl)
  refine ow_assign rfl ?_
  refine jl_nil ?_
  refine jq_then ?_
  refine jc_ret ?_
  refine jq_ret1 rfl rfl [] rfl (fun K h => h)

/-! Keywords and signs -/
def hasW (s : ByteArray) : Bool := words.any (fun w => decide (w = s))
def idxW (L : List ByteArray) (s : ByteArray) : Int := match L.findIdx? (fun w => decide (w = s)) with | some i => (i : Int) | none => -1
theorem Index_c (L : List ByteArray) (s : ByteArray) : Con Tryd.prog 40 [.cell (.list (L.map Wrow)), Str s] [] (fun K => K (In .i64 (idxW L s)) []) := by
  have eL : (L.map Wrow).length = L.length := List.length_map _
  refine con_intro Tryd.func40 rfl rfl (Nat.le_of_ble_eq_true rfl) (fun c hc => ?_)
  refine jc_seq ?_
  refine jc_region ?_
  refine jl_op ?_ (nb rfl)
  refine ow_assign rfl ?_
  refine jl_nil ?_
  refine jq_then ?_
  refine jc_seq ?_
  refine jc_seq ?_
  refine jc_region ?_
  refine jl_op ?_ (nb rfl)
  refine ow_move rfl ?_
  refine jl_op ?_ (nb rfl)
  refine ow_len rfl (fun hlen => ?_)
  refine jl_op ?_ (nb rfl)
  refine ow_move rfl ?_
  refine jl_nil ?_
  refine jq_then ?_
  refine jc_block ?_
  refine jc_loopS [] (fun k : Nat => k ≤ L.length ∧ ∀ j (hj : j < L.length), j < k → decide (L[j] = s) = false) (fun k => [(0, .cell (.list (L.map Wrow))), (1, Str s), (7, In .i64 ((L.map Wrow).length : Int)), (8, In .i64 (k : Int))]) (fun _ => []) (fun k => L.length - k) 0 ⟨Nat.zero_le _, fun j _ h => by omega⟩ ?_ ?_ ?_
  · exact sub_end
  · (repeat (first | exact True.intro | refine ⟨rfl, ?_⟩))
  · rintro k ⟨hk, hno⟩
    refine jc_reset [(0, .cell (.list (L.map Wrow))), (1, Str s), (7, In .i64 ((L.map Wrow).length : Int)), (8, In .i64 (k : Int))] [] ?_ ⟨[], [], rfl⟩ ?_
    · (repeat (first | exact True.intro | refine ⟨rfl, ?_⟩))
    refine jc_seq ?_
    refine jc_region ?_
    refine jl_op ?_ (nb rfl)
    refine ow_lss rfl rfl ?_
    refine jl_nil ?_
    refine jq_then ?_
    refine jc_seq ?_
    refine jc_condd rfl (fun hlt => ?_) (fun hge => ?_)
    · have hlt' : k < L.length := by omega
      refine jc_skip ?_
      refine jq_then ?_
      refine jc_seq ?_
      refine jc_block ?_
      refine jc_seq ?_
      refine jc_region ?_
      refine jl_op ?_ (nb rfl)
      refine ow_move rfl ?_
      refine jl_op ?_ (nb rfl)
      refine ow_assign rfl ?_
      refine jl_nil ?_
      refine jq_then ?_
      refine jc_seq ?_
      refine jc_region ?_
      refine jl_op ?_ (nb rfl)
      refine ow_move rfl ?_
      refine jl_op ?_ (nb rfl)
      refine ow_move rfl ?_
      refine jl_op ?_ (nb rfl)
      refine ow_move rfl ?_
      refine jl_op ?_ (nb rfl)
      refine ow_indexAddrMapE rfl rfl (by omega) rfl rfl (nb rfl) ?_
      refine jl_op ?_ (nb rfl)
      refine ow_loadPlace rfl rfl ?_
      refine jl_op ?_ (nb rfl)
      refine ow_streql rfl rfl ?_
      refine jl_nil ?_
      refine jq_then ?_
      refine jc_condd rfl (fun hb => ?_) (fun hb => ?_)
      · have e : idxW L s = (k : Int) := by
          unfold idxW
          rw [List.findIdx?_eq_some_iff_getElem.2 ⟨hlt', decide_eq_true hb.symm, fun j hj => by rw [hno j (by omega) hj]; simp⟩]
        refine jc_seq ?_
        refine jc_region ?_
        refine jl_op ?_ (nb rfl)
        refine ow_move rfl ?_
        refine jl_op ?_ (nb rfl)
        refine ow_assign rfl ?_
        refine jl_nil ?_
        refine jq_then ?_
        refine jc_ret ?_
        refine jq_block_ret ?_
        refine jq_then_ret ?_
        refine jq_then_ret ?_
        refine jq_block_ret ?_
        refine jq_then_ret ?_
        refine jq_ret1 rfl rfl [] rfl (fun K h => by rw [e] at h; exact h)
      · refine jc_skip ?_
        refine jq_block ?_
        refine jq_then ?_
        refine jc_region ?_
        refine jl_op ?_ (nb rfl)
        refine ow_add64 rfl rfl (by omega) ?_
        refine jl_op ?_ (nb rfl)
        refine ow_move rfl ?_
        refine jl_nil ?_
        refine jq_againS (k + 1) ⟨by omega, fun j hj hjk => ?_⟩ (by omega) ?_ ?_
        · by_cases e : j < k
          · exact hno j hj e
          · obtain rfl : j = k := by omega
            exact decide_eq_false (fun e => hb e.symm)
        · exact sub_end
        · (repeat (first | exact True.intro | refine ⟨rfl, ?_⟩))
    · have e : idxW L s = -1 := by
        unfold idxW
        rw [List.findIdx?_eq_none_iff.2 (fun x hx => by
          obtain ⟨j, hj, rfl⟩ := List.mem_iff_getElem.1 hx
          exact hno j hj (by omega))]
      refine jc_exit ?_
      refine jq_then_exit ?_
      refine jq_then_exit ?_
      refine jq_block_exit ?_
      refine jq_then ?_
      refine jc_seq ?_
      refine jc_region ?_
      refine jl_op ?_ (nb rfl)
      refine ow_assign rfl ?_
      refine jl_nil ?_
      refine jq_then ?_
      refine jc_ret ?_
      refine jq_ret1 rfl rfl [] rfl (fun K h => by rw [e] at h; exact h)
theorem idxW_any (L : List ByteArray) (s : ByteArray) : decide (0 ≤ idxW L s) = L.any (fun w => decide (w = s)) := by
  unfold idxW
  cases h : L.findIdx? (fun w => decide (w = s)) with
  | none =>
    have := List.findIdx?_eq_none_iff.1 h
    rw [List.any_eq_false.2 (fun x hx => by rw [this x hx]; decide)]
    rfl
  | some i =>
    obtain ⟨hi, hp, _⟩ := List.findIdx?_eq_some_iff_getElem.1 h
    rw [List.any_eq_true.2 ⟨L[i], List.getElem_mem hi, hp⟩]
    show decide (0 ≤ (i : Int)) = true
    exact decide_eq_true (by omega)
theorem Contains_c (L : List ByteArray) (s : ByteArray) : Con Tryd.prog 32 [.cell (.list (L.map Wrow)), Str s] [] (fun K => K (Bl (L.any (fun w => decide (w = s)))) []) := by
  refine con_intro Tryd.func32 rfl rfl (Nat.le_of_ble_eq_true rfl) (fun c hc => ?_)
  refine jc_seq ?_
  refine jc_region ?_
  refine jl_op ?_ (nb rfl)
  refine ow_assign rfl ?_
  refine jl_nil ?_
  refine jq_then ?_
  refine jc_seq ?_
  refine jc_region ?_
  refine jl_op ?_ (nb rfl)
  refine ow_move rfl ?_
  refine jl_op ?_ (nb rfl)
  refine ow_move rfl ?_
  refine jl_op ?_ (nb rfl)
  refine ow_call0 rfl (Index_c L s) ?_
  refine jl_op ?_ (nb rfl)
  refine ow_geq rfl rfl ?_
  refine jl_op ?_ (nb rfl)
  refine ow_assign rfl ?_
  refine jl_nil ?_
  refine jq_then ?_
  refine jc_ret ?_
  refine jq_ret1 rfl rfl [] rfl (fun K h => by rw [← idxW_any] at h; exact h)
theorem Keyword_c (s : ByteArray) : Con Tryd.prog 26 [Str s] [] (fun K => K (Bl (hasW s)) []) := by
  refine con_intro Tryd.func26 rfl rfl (Nat.le_of_ble_eq_true rfl) (fun c hc => ?_)
  refine jc_seq ?_
  refine jc_region ?_
  refine jl_op ?_ (nb rfl)
  refine ow_assign rfl ?_
  refine jl_nil ?_
  refine jq_then ?_
  refine jc_seq ?_
  refine jc_region ?_
  refine jl_op (ow_loadG gl_words rfl rfl rfl ?_) (nb rfl)
  refine jl_op ?_ (nb rfl)
  refine ow_move rfl ?_
  refine jl_op ?_ (nb rfl)
  refine ow_call0 rfl (Contains_c words s) ?_
  refine jl_op ?_ (nb rfl)
  refine ow_assign rfl ?_
  refine jl_nil ?_
  refine jq_then ?_
  refine jc_ret ?_
  refine jq_ret1 rfl rfl [] rfl (fun K h => h)
def signT (op : Int) : ByteArray := signL.getD (op.toNat - 1) ⟨#[]⟩
theorem op14 {op : Int} (h : 1 ≤ op ∧ op ≤ 14) : op = 1 ∨ op = 2 ∨ op = 3 ∨ op = 4 ∨ op = 5 ∨ op = 6 ∨ op = 7 ∨ op = 8 ∨ op = 9 ∨ op = 10 ∨ op = 11 ∨ op = 12 ∨ op = 13 ∨ op = 14 := by omega
theorem Sign_c (op : Int) (h : 1 ≤ op ∧ op ≤ 14) : Con Tryd.prog 18 [In .i64 op] [] (fun K => K (Str (signT op)) []) := by
  refine con_intro Tryd.func18 rfl rfl (Nat.le_of_ble_eq_true rfl) (fun c hc => ?_)
  have h0 : ¬ op < 1 := by omega
  refine jc_seq ?_
  refine jc_region ?_
  refine jl_op ?_ (nb rfl)
  refine ow_assign rfl ?_
  refine jl_nil ?_
  refine jq_then ?_
  refine jc_seq ?_
  refine jc_seq ?_
  refine jc_region ?_
  refine jl_op ?_ (nb rfl)
  refine ow_move rfl ?_
  refine jl_op ?_ (nb rfl)
  refine ow_lss rfl rfl ?_
  refine jl_op ?_ (nb rfl)
  refine ow_move rfl ?_
  refine jl_guardY rfl (by first | assumption | exact decide_eq_true rfl | exact decide_eq_true (by first | assumption | omega) | exact decide_eq_false (by first | assumption | omega) | with_reducible rfl | exact (rfl : false = !true) | exact (rfl : true = !false)) (nb rfl) ?_
  refine ow_move rfl ?_
  refine jl_guardY rfl (by first | assumption | exact decide_eq_true rfl | exact decide_eq_true (by first | assumption | omega) | exact decide_eq_false (by first | assumption | omega) | with_reducible rfl | exact (rfl : false = !true) | exact (rfl : true = !false)) (nb rfl) ?_
  refine ow_gtr rfl rfl ?_
  refine jl_op ?_ (nb rfl)
  refine ow_pickF rfl (by first | assumption | exact decide_eq_true rfl | exact decide_eq_true (by first | assumption | omega) | exact decide_eq_false (by first | assumption | omega) | with_reducible rfl | exact (rfl : false = !true) | exact (rfl : true = !false)) rfl ?_
  refine jl_nil ?_
  refine jq_then ?_
  refine jc_condd rfl (fun h2 => by omega) (fun _ => ?_)
  refine jc_skip ?_
  refine jq_then ?_
  refine jc_seq ?_
  refine jc_region ?_
  refine jl_op ?_ (nb rfl)
  refine ow_move rfl ?_
  refine jl_op ?_ (nb rfl)
  refine ow_sub64 rfl rfl (by omega) ?_
  refine jl_op (ow_indexArr (n := 14) (e := 9) rfl rfl rfl (by omega) (by omega) ?_) (nb rfl)
  refine jl_op (ow_loadG (e := .val (.string (signT op))) gl_signs rfl rfl (by rcases op14 h with rfl | rfl | rfl | rfl | rfl | rfl | rfl | rfl | rfl | rfl | rfl | rfl | rfl | rfl <;> rfl) ?_) (nb rfl)
  refine jl_op ?_ (nb rfl)
  refine ow_assign rfl ?_
  refine jl_nil ?_
  refine jq_then ?_
  refine jc_ret ?_
  refine jq_ret1 rfl rfl [] rfl (fun K h => h)
theorem RSign_c (op : Int) (h : 1 ≤ op ∧ op ≤ 14) : Con Tryd.prog 24 [In .i64 op] [] (fun K => K (Str (signT op)) []) := by
  refine con_intro Tryd.func24 rfl rfl (Nat.le_of_ble_eq_true rfl) (fun c hc => ?_)
  have h0 : ¬ op < 1 := by omega
  refine jc_seq ?_
  refine jc_region ?_
  refine jl_op ?_ (nb rfl)
  refine ow_assign rfl ?_
  refine jl_nil ?_
  refine jq_then ?_
  refine jc_seq ?_
  refine jc_region ?_
  refine jl_op (ow_buildArr (n := 15) (e := 9) rfl rfl rfl rfl rfl ?_) (nb rfl)
  refine jl_op ?_ (nb rfl)
  refine ow_alloc rfl rfl (fun bl => ?_)
  refine jl_op0 ?_
  refine ow_storeAll 0 rfl rfl rfl rfl rfl rfl ?_
  refine jl_nil ?_
  refine jq_then ?_
  refine jc_seq ?_
  refine jc_seq ?_
  refine jc_region ?_
  refine jl_op ?_ (nb rfl)
  refine ow_move rfl ?_
  refine jl_op ?_ (nb rfl)
  refine ow_lss rfl rfl ?_
  refine jl_op ?_ (nb rfl)
  refine ow_move rfl ?_
  refine jl_guardY rfl (by first | assumption | exact decide_eq_true rfl | exact decide_eq_true (by first | assumption | omega) | exact decide_eq_false (by first | assumption | omega) | with_reducible rfl | exact (rfl : false = !true) | exact (rfl : true = !false)) (nb rfl) ?_
  refine ow_move rfl ?_
  refine jl_guardY rfl (by first | assumption | exact decide_eq_true rfl | exact decide_eq_true (by first | assumption | omega) | exact decide_eq_false (by first | assumption | omega) | with_reducible rfl | exact (rfl : false = !true) | exact (rfl : true = !false)) (nb rfl) ?_
  refine ow_gtr rfl rfl ?_
  refine jl_op ?_ (nb rfl)
  refine ow_pickF rfl (by first | assumption | exact decide_eq_true rfl | exact decide_eq_true (by first | assumption | omega) | exact decide_eq_false (by first | assumption | omega) | with_reducible rfl | exact (rfl : false = !true) | exact (rfl : true = !false)) rfl ?_
  refine jl_nil ?_
  refine jq_then ?_
  refine jc_condd rfl (fun h2 => by omega) (fun _ => ?_)
  refine jc_skip ?_
  refine jq_then ?_
  refine jc_seq ?_
  refine jc_region ?_
  refine jl_op ?_ (nb rfl)
  refine ow_move rfl ?_
  refine jl_op (ow_indexArr (n := 15) (e := 9) rfl rfl rfl (by omega) (by omega) ?_) (nb rfl)
  refine jl_op (ow_load 0 (e := .val (.string (signT op))) rfl rfl rfl (by rcases op14 h with rfl | rfl | rfl | rfl | rfl | rfl | rfl | rfl | rfl | rfl | rfl | rfl | rfl | rfl <;> rfl) ?_) (nb rfl)
  refine jl_op ?_ (nb rfl)
  refine ow_assign rfl ?_
  refine jl_nil ?_
  refine jq_then ?_
  refine jc_ret ?_
  refine jq_ret1 rfl rfl [] rfl (fun K h => h)
end Go.Proofs.YtjnfamgjffnfiaaDoor
