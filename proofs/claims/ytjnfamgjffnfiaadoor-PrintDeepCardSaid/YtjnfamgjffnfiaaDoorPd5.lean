import Derived.Test.YtjnfamgjffnfiaaDoorPd4
namespace Go.Proofs.YtjnfamgjffnfiaaDoor
open Go.Vc
attribute [local irreducible] JL JC JQ OpWp Con ConN
attribute [local irreducible] byteAt runLen isL isD isName hasW
set_option maxHeartbeats 4000000

abbrev Irow (n : Int) : List C := [.val (.int .i64 n)]
theorem RKeyword_c (s : ByteArray) : Con Tryd.prog 29 [Str s] [] (fun K => K (Bl (hasW s)) []) := by
  refine con_intro Tryd.func29 rfl rfl (Nat.le_of_ble_eq_true rfl) (fun c hc => ?_)
  refine jc_seq ?_
  refine jc_region ?_
  refine jl_op ?_ (nb rfl)
  refine ow_assign rfl ?_
  refine jl_nil ?_
  refine jq_then ?_
  refine jc_seq ?_
  refine jc_region ?_
  refine jl_op ?_ (nb rfl)
  refine ow_buildSlice rfl rfl (nb rfl) rfl rfl (nb rfl) ?_
  refine jl_op ?_ (nb rfl)
  refine ow_assign rfl ?_
  refine jl_nil ?_
  refine jq_then ?_
  refine jc_seq ?_
  refine jc_seq ?_
  refine jc_region ?_
  refine jl_op ?_ (nb rfl)
  refine ow_assign rfl ?_
  refine jl_nil ?_
  refine jq_then ?_
  refine jc_block ?_
  refine jc_reset [(0, Str s), (3, .cell (.list (words.map Wrow))), (4, In .i64 0)] [] ?_ ⟨[], [], rfl⟩ ?_
  · (repeat (first | exact True.intro | refine ⟨rfl, ?_⟩))
  have hk : hasW s = words.any (fun w => decide (w = s)) := by unfold hasW; rfl
  rw [hk]
  clear hk
  generalize words = L
  have eL : (L.map Wrow).length = L.length := List.length_map _
  refine jc_loopS [] (fun k : Nat => k ≤ L.length ∧ (L.take k).any (fun w => decide (w = s)) = false) (fun k => [(0, Str s), (3, .cell (.list (L.map Wrow))), (4, In .i64 (k : Int))]) (fun _ => []) (fun k => L.length - k) 0 ⟨Nat.zero_le _, by rw [List.take_zero]; rfl⟩ ?_ ?_ ?_
  · exact sub_end
  · (repeat (first | exact True.intro | refine ⟨rfl, ?_⟩))
  · rintro k ⟨hk, hno⟩
    refine jc_reset [(0, Str s), (3, .cell (.list (L.map Wrow))), (4, In .i64 (k : Int))] [] ?_ ⟨[], [], rfl⟩ ?_
    · (repeat (first | exact True.intro | refine ⟨rfl, ?_⟩))
    refine jc_seq ?_
    refine jc_seq ?_
    refine jc_region ?_
    refine jl_op ?_ (nb rfl)
    refine ow_move rfl ?_
    refine jl_op ?_ (nb rfl)
    refine ow_move rfl ?_
    refine jl_op ?_ (nb rfl)
    refine ow_len rfl (fun hlen => ?_)
    refine jl_op ?_ (nb rfl)
    refine ow_lss rfl rfl ?_
    refine jl_nil ?_
    refine jq_then ?_
    refine jc_condd rfl (fun hlt => ?_) (fun hge => ?_)
    · have hlt' : k < L.length := by omega
      refine jc_skip ?_
      refine jq_then ?_
      refine jc_seq ?_
      refine jc_block ?_
      refine jc_seq ?_
      refine jc_region ?_
      refine jl_op ?_ (nb rfl)
      refine ow_move rfl ?_
      refine jl_op ?_ (nb rfl)
      refine ow_move rfl ?_
      refine jl_op ?_ (nb rfl)
      refine ow_indexAddrMapE rfl rfl (by omega) rfl rfl (nb rfl) ?_
      refine jl_op ?_ (nb rfl)
      refine ow_loadPlace rfl rfl ?_
      refine jl_op ?_ (nb rfl)
      refine ow_move rfl ?_
      refine jl_op ?_ (nb rfl)
      refine ow_streql rfl rfl ?_
      refine jl_nil ?_
      refine jq_then ?_
      refine jc_condd rfl (fun hb => ?_) (fun hb => ?_)
      · have e : L.any (fun w => decide (w = s)) = true := List.any_eq_true.2 ⟨L[k], List.getElem_mem hlt', decide_eq_true hb⟩
        refine jc_seq ?_
        refine jc_region ?_
        refine jl_op ?_ (nb rfl)
        refine ow_assign rfl ?_
        refine jl_nil ?_
        refine jq_then ?_
        refine jc_ret ?_
        refine jq_block_ret ?_
        refine jq_then_ret ?_
        refine jq_then_ret ?_
        refine jq_block_ret ?_
        refine jq_then_ret ?_
        refine jq_ret1 rfl rfl [] rfl (fun K h => by rw [e] at h; exact h)
      · refine jc_skip ?_
        refine jq_block ?_
        refine jq_then ?_
        refine jc_region ?_
        refine jl_op ?_ (nb rfl)
        refine ow_move rfl ?_
        refine jl_op ?_ (nb rfl)
        refine ow_add64 rfl rfl (by omega) ?_
        refine jl_op ?_ (nb rfl)
        refine ow_assign rfl ?_
        refine jl_nil ?_
        refine jq_againS (k + 1) ⟨by omega, ?_⟩ (by omega) ?_ ?_
        · rw [List.take_succ_eq_append_getElem hlt', List.any_append, hno]
          simp only [List.any_cons, List.any_nil, Bool.or_false, Bool.false_or]
          exact decide_eq_false hb
        · exact sub_end
        · (repeat (first | exact True.intro | refine ⟨rfl, ?_⟩))
    · obtain rfl : k = L.length := by omega
      rw [List.take_length] at hno
      refine jc_exit ?_
      refine jq_then_exit ?_
      refine jq_then_exit ?_
      refine jq_block_exit ?_
      refine jq_then ?_
      refine jc_seq ?_
      refine jc_region ?_
      refine jl_op ?_ (nb rfl)
      refine ow_assign rfl ?_
      refine jl_nil ?_
      refine jq_then ?_
      refine jc_ret ?_
      refine jq_ret1 rfl rfl [] rfl (fun K h => by rw [hno] at h; exact h)
def nmOk (s : ByteArray) : Prop := isName s = true ∧ hasW s = false
theorem named_c (s : ByteArray) (h : nmOk s) : Con Tryd.prog 17 [Str s] [] (fun K => K (Bl true) []) := by
  have h1 := Name_c s
  have h2 := Keyword_c s
  rw [h.1] at h1
  rw [h.2] at h2
  refine con_intro Tryd.func17 rfl rfl (Nat.le_of_ble_eq_true rfl) (fun c hc => ?_)
  refine jc_seq ?_
  refine jc_region ?_
  refine jl_op ?_ (nb rfl)
  refine ow_assign rfl ?_
  refine jl_nil ?_
  refine jq_then ?_
  refine jc_seq ?_
  refine jc_region ?_
  refine jl_op ?_ (nb rfl)
  refine ow_move rfl ?_
  refine jl_op ?_ (nb rfl)
  refine ow_call0 rfl (h1) ?_
  refine jl_op ?_ (nb rfl)
  refine ow_move rfl ?_
  refine jl_guardY rfl (by first | assumption | exact decide_eq_true rfl | exact decide_eq_true (by first | assumption | omega) | exact decide_eq_false (by first | assumption | omega) | with_reducible rfl | exact (rfl : false = !true) | exact (rfl : true = !false)) (nb rfl) ?_
  refine ow_move rfl ?_
  refine jl_guardY rfl (by first | assumption | exact decide_eq_true rfl | exact decide_eq_true (by first | assumption | omega) | exact decide_eq_false (by first | assumption | omega) | with_reducible rfl | exact (rfl : false = !true) | exact (rfl : true = !false)) (nb rfl) ?_
  refine ow_call0 rfl (h2) ?_
  refine jl_guardY rfl (by first | assumption | exact decide_eq_true rfl | exact decide_eq_true (by first | assumption | omega) | exact decide_eq_false (by first | assumption | omega) | with_reducible rfl | exact (rfl : false = !true) | exact (rfl : true = !false)) (nb rfl) ?_
  refine ow_not rfl ?_
  refine jl_op ?_ (nb rfl)
  refine ow_pickT rfl (by first | assumption | exact decide_eq_true rfl | exact decide_eq_true (by first | assumption | omega) | exact decide_eq_false (by first | assumption | omega) | with_reducible rfl | exact (rfl : false = !true) | exact (rfl : true = !false)) rfl ?_
  refine jl_op ?_ (nb rfl)
  refine ow_assign rfl ?_
  refine jl_nil ?_
  refine jq_then ?_
  refine jc_ret ?_
  refine jq_ret1 rfl rfl [] rfl (fun K h => h)
theorem rname_c (s : ByteArray) (h : nmOk s) : Con Tryd.prog 22 [Str s] [] (fun K => K (Bl true) []) := by
  have h1 := rName_c s
  have h2 := RKeyword_c s
  rw [h.1] at h1
  rw [h.2] at h2
  refine con_intro Tryd.func22 rfl rfl (Nat.le_of_ble_eq_true rfl) (fun c hc => ?_)
  refine jc_seq ?_
  refine jc_region ?_
  refine jl_op ?_ (nb rfl)
  refine ow_assign rfl ?_
  refine jl_nil ?_
  refine jq_then ?_
  refine jc_seq ?_
  refine jc_region ?_
  refine jl_op ?_ (nb rfl)
  refine ow_move rfl ?_
  refine jl_op ?_ (nb rfl)
  refine ow_call0 rfl (h1) ?_
  refine jl_op ?_ (nb rfl)
  refine ow_move rfl ?_
  refine jl_guardY rfl (by first | assumption | exact decide_eq_true rfl | exact decide_eq_true (by first | assumption | omega) | exact decide_eq_false (by first | assumption | omega) | with_reducible rfl | exact (rfl : false = !true) | exact (rfl : true = !false)) (nb rfl) ?_
  refine ow_move rfl ?_
  refine jl_guardY rfl (by first | assumption | exact decide_eq_true rfl | exact decide_eq_true (by first | assumption | omega) | exact decide_eq_false (by first | assumption | omega) | with_reducible rfl | exact (rfl : false = !true) | exact (rfl : true = !false)) (nb rfl) ?_
  refine ow_call0 rfl (h2) ?_
  refine jl_guardY rfl (by first | assumption | exact decide_eq_true rfl | exact decide_eq_true (by first | assumption | omega) | exact decide_eq_false (by first | assumption | omega) | with_reducible rfl | exact (rfl : false = !true) | exact (rfl : true = !false)) (nb rfl) ?_
  refine ow_not rfl ?_
  refine jl_op ?_ (nb rfl)
  refine ow_pickT rfl (by first | assumption | exact decide_eq_true rfl | exact decide_eq_true (by first | assumption | omega) | exact decide_eq_false (by first | assumption | omega) | with_reducible rfl | exact (rfl : false = !true) | exact (rfl : true = !false)) rfl ?_
  refine jl_op ?_ (nb rfl)
  refine ow_assign rfl ?_
  refine jl_nil ?_
  refine jq_then ?_
  refine jc_ret ?_
  refine jq_ret1 rfl rfl [] rfl (fun K h => h)
theorem signed_c (n : Int) (h : -2147483647 ≤ n ∧ n ≤ 2147483647) : Con Tryd.prog 16 [.cell (.list ([n].map Irow))] [] (fun K => K (Bl true) []) := by
  refine con_intro Tryd.func16 rfl rfl (Nat.le_of_ble_eq_true rfl) (fun c hc => ?_)
  refine jc_seq ?_
  refine jc_region ?_
  refine jl_op ?_ (nb rfl)
  refine ow_assign rfl ?_
  refine jl_nil ?_
  refine jq_then ?_
  refine jc_seq ?_
  refine jc_seq ?_
  refine jc_region ?_
  refine jl_op ?_ (nb rfl)
  refine ow_move rfl ?_
  refine jl_op ?_ (nb rfl)
  refine ow_len rfl (fun hlen => ?_)
  refine jl_op ?_ (nb rfl)
  refine ow_move rfl ?_
  refine jl_nil ?_
  refine jq_then ?_
  refine jc_block ?_
  refine jc_loopS [] (fun k : Nat => k ≤ 1) (fun k => [(5, .cell (.list ([n].map Irow))), (6, In .i64 1), (7, In .i64 (k : Int))]) (fun _ => []) (fun k => 1 - k) 0 (Nat.zero_le _) ?_ ?_ ?_
  · exact sub_end
  · (repeat (first | exact True.intro | refine ⟨rfl, ?_⟩))
  · intro k hk
    refine jc_reset [(5, .cell (.list ([n].map Irow))), (6, In .i64 1), (7, In .i64 (k : Int))] [] ?_ ⟨[], [], rfl⟩ ?_
    · (repeat (first | exact True.intro | refine ⟨rfl, ?_⟩))
    have e1 : [n].length = 1 := rfl
    refine jc_seq ?_
    refine jc_region ?_
    refine jl_op ?_ (nb rfl)
    refine ow_lss rfl rfl ?_
    refine jl_nil ?_
    refine jq_then ?_
    refine jc_seq ?_
    refine jc_condd rfl (fun hlt => ?_) (fun hge => ?_)
    · obtain rfl : k = 0 := by omega
      have h0 : ¬ n < -2147483647 := by omega
      refine jc_skip ?_
      refine jq_then ?_
      refine jc_seq ?_
      refine jc_block ?_
      refine jc_seq ?_
      refine jc_region ?_
      refine jl_op ?_ (nb rfl)
      refine ow_indexAddrMapE rfl rfl (by omega) rfl rfl (nb rfl) ?_
      refine jl_op ?_ (nb rfl)
      refine ow_loadPlace rfl rfl ?_
      refine jl_op ?_ (nb rfl)
      refine ow_assign rfl ?_
      refine jl_nil ?_
      refine jq_then ?_
      refine jc_seq ?_
      refine jc_region ?_
      refine jl_op ?_ (nb rfl)
      refine ow_move rfl ?_
      refine jl_op ?_ (nb rfl)
      refine ow_lss rfl rfl ?_
      refine jl_op ?_ (nb rfl)
      refine ow_move rfl ?_
      refine jl_guardY rfl (by first | assumption | exact decide_eq_true rfl | exact decide_eq_true (by first | assumption | omega) | exact decide_eq_false (by first | assumption | omega) | with_reducible rfl | exact (rfl : false = !true) | exact (rfl : true = !false)) (nb rfl) ?_
      refine ow_move rfl ?_
      refine jl_guardY rfl (by first | assumption | exact decide_eq_true rfl | exact decide_eq_true (by first | assumption | omega) | exact decide_eq_false (by first | assumption | omega) | with_reducible rfl | exact (rfl : false = !true) | exact (rfl : true = !false)) (nb rfl) ?_
      refine ow_gtr rfl rfl ?_
      refine jl_op ?_ (nb rfl)
      refine ow_pickF rfl (by first | assumption | exact decide_eq_true rfl | exact decide_eq_true (by first | assumption | omega) | exact decide_eq_false (by first | assumption | omega) | with_reducible rfl | exact (rfl : false = !true) | exact (rfl : true = !false)) rfl ?_
      refine jl_nil ?_
      refine jq_then ?_
      refine jc_condd rfl (fun h2 => by simp at h2; omega) (fun _ => ?_)
      refine jc_skip ?_
      refine jq_block ?_
      refine jq_then ?_
      refine jc_region ?_
      refine jl_op ?_ (nb rfl)
      refine ow_add64 rfl rfl (by omega) ?_
      refine jl_op ?_ (nb rfl)
      refine ow_move rfl ?_
      refine jl_nil ?_
      refine jq_againS 1 (by omega) (by omega) ?_ ?_
      · exact sub_end
      · (repeat (first | exact True.intro | refine ⟨rfl, ?_⟩))
    · refine jc_exit ?_
      refine jq_then_exit ?_
      refine jq_then_exit ?_
      refine jq_block_exit ?_
      refine jq_then ?_
      refine jc_seq ?_
      refine jc_region ?_
      refine jl_op ?_ (nb rfl)
      refine ow_assign rfl ?_
      refine jl_nil ?_
      refine jq_then ?_
      refine jc_ret ?_
      refine jq_ret1 rfl rfl [] rfl (fun K h => h)
theorem rsmall_c (n : Int) (h : -2147483647 ≤ n ∧ n ≤ 2147483647) : Con Tryd.prog 21 [In .i64 n] [] (fun K => K (Bl true) []) := by
  refine con_intro Tryd.func21 rfl rfl (Nat.le_of_ble_eq_true rfl) (fun c hc => ?_)
  have h0 : (-2147483648 : Int) < n := by omega
  have h1 : n < 2147483648 := by omega
  refine jc_seq ?_
  refine jc_region ?_
  refine jl_op ?_ (nb rfl)
  refine ow_assign rfl ?_
  refine jl_nil ?_
  refine jq_then ?_
  refine jc_seq ?_
  refine jc_region ?_
  refine jl_op ?_ (nb rfl)
  refine ow_move rfl ?_
  refine jl_op ?_ (nb rfl)
  refine ow_gtr rfl rfl ?_
  refine jl_op ?_ (nb rfl)
  refine ow_move rfl ?_
  refine jl_guardY rfl (by first | assumption | exact decide_eq_true rfl | exact decide_eq_true (by first | assumption | omega) | exact decide_eq_false (by first | assumption | omega) | with_reducible rfl | exact (rfl : false = !true) | exact (rfl : true = !false)) (nb rfl) ?_
  refine ow_move rfl ?_
  refine jl_guardY rfl (by first | assumption | exact decide_eq_true rfl | exact decide_eq_true (by first | assumption | omega) | exact decide_eq_false (by first | assumption | omega) | with_reducible rfl | exact (rfl : false = !true) | exact (rfl : true = !false)) (nb rfl) ?_
  refine ow_lss rfl rfl ?_
  refine jl_op ?_ (nb rfl)
  refine ow_pickT rfl (by first | assumption | exact decide_eq_true rfl | exact decide_eq_true (by first | assumption | omega) | exact decide_eq_false (by first | assumption | omega) | with_reducible rfl | exact (rfl : false = !true) | exact (rfl : true = !false)) rfl ?_
  refine jl_op ?_ (nb rfl)
  refine ow_assign rfl ?_
  refine jl_nil ?_
  refine jq_then ?_
  refine jc_ret ?_
  refine jq_ret1 rfl rfl [] rfl (fun K h => by rw [← decide_eq_true h1] at h; exact h)
def T.ok : T → Prop
  | .nu n => -2147483647 ≤ n ∧ n ≤ 2147483647
  | .nm s => nmOk s
  | .ix s t => nmOk s ∧ t.ok
  | .bn o a b => (1 ≤ o ∧ o ≤ 14) ∧ a.ok ∧ b.ok
theorem T.ok_args {t : T} (h : t.ok) : ∀ a ∈ t.args, a.ok := by
  intro a ha
  cases t with
  | nu n => cases ha
  | nm s => cases ha
  | ix s t => rw [List.mem_singleton.1 ha]; exact h.2
  | bn o x y =>
    rcases List.mem_cons.1 ha with rfl | ha
    · exact h.2.1
    · rw [List.mem_singleton.1 ha]; exact h.2.2
end Go.Proofs.YtjnfamgjffnfiaaDoor
