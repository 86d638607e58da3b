import Derived.Test.YtccojifhaoadbaaDoorTk2
namespace Go.Proofs.YtccojifhaoadbaaDoor
open Go.Vc
attribute [local irreducible] JL JC JQ OpWp Con ConN

/-- A token: kind, number, line, text. -/
structure Tok where
  kind : Int
  num : Int
  line : Int
  text : ByteArray
def Tok.row (t : Tok) : List C := tokC t.kind t.num t.line t.text
/-- The rest of a scan. -/
def scanGo (s : ByteArray) (at_ : Nat) (line : Int) (out : List Tok) : List Tok × Int × Int :=
  if h : at_ < s.size then
    if byteAt s at_ = 10 then scanGo s (at_ + 1) (line + 1) out
    else if byteAt s at_ = 32 ∨ byteAt s at_ = 9 then scanGo s (at_ + 1) line out
    else if hn : (nextT (s.extract at_ s.size)).2 = 0 then ([], line, 1)
    else scanGo s (at_ + (nextT (s.extract at_ s.size)).2) line (out ++ [⟨(nextT (s.extract at_ s.size)).1.1, (nextT (s.extract at_ s.size)).1.2.1, line, (nextT (s.extract at_ s.size)).1.2.2⟩])
  else (out, 0, 0)
termination_by s.size - at_
decreasing_by all_goals omega
def scan (s : ByteArray) : List Tok × Int × Int := if 8192 < s.size then ([], 0, 4) else scanGo s 0 1 []
theorem nextT_le (s : ByteArray) : (nextT s).2 ≤ s.size := by
  have h1 := nameLen_le s
  have h2 := runLen_le isD s
  have h3 := signLen_le s
  unfold nextT
  split
  · split
    · exact Nat.zero_le _
    · exact h1
  · split
    · split
      · exact Nat.zero_le _
      · exact h2
    · exact h3

attribute [local irreducible] nextT scan byteAt
theorem Scan_c (s : ByteArray) : Con Tryd.prog 8 [Str s] [] (fun K => K (.tup [.cell (.list ((scan s).1.map Tok.row)), In .i64 (scan s).2.1, In .i64 (scan s).2.2]) []) := by
  refine con_intro Tryd.func8 rfl rfl (Nat.le_of_ble_eq_true rfl) (fun c hc => ?_)
  refine jc_seq ?_
  refine jc_region ?_
  refine jl_op ?_ (nb rfl)
  refine ow_assign rfl ?_
  refine jl_op ?_ (nb rfl)
  refine ow_assign rfl ?_
  refine jl_op ?_ (nb rfl)
  refine ow_assign rfl ?_
  refine jl_nil ?_
  refine jq_then ?_
  refine jc_seq ?_
  refine jc_seq ?_
  refine jc_region ?_
  refine jl_op ?_ (nb rfl)
  refine ow_move rfl ?_
  refine jl_op ?_ (nb rfl)
  refine ow_lenstr rfl rfl ?_
  refine jl_op ?_ (nb rfl)
  refine ow_gtr rfl rfl ?_
  refine jl_nil ?_
  refine jq_then ?_
  refine jc_condd rfl (fun hn => ?_) (fun hn => ?_)
  · refine jc_seq ?_
    refine jc_region ?_
    refine jl_op ?_ (nb rfl)
    refine ow_assign rfl ?_
    refine jl_op ?_ (nb rfl)
    refine ow_assign rfl ?_
    refine jl_op ?_ (nb rfl)
    refine ow_assign rfl ?_
    refine jl_nil ?_
    refine jq_then ?_
    refine jc_ret ?_
    refine jq_then_ret ?_
    have e : scan s = ([], 0, 4) := by unfold scan; rw [if_pos (by omega)]
    refine jq_ownNil 23 4 (by omega) ?_
    refine jq_freeze 2 0 rfl rfl (by rw [hc]; simp [hb]) ?_
    refine jq_ret3 rfl rfl rfl rfl (fun K h => by rw [e] at h; exact h) ?_
    exact sub_end
  · have hsz : s.size ≤ 8192 := by omega
    refine jc_skip ?_
    refine jq_then ?_
    refine jc_seq ?_
    refine jc_region ?_
    refine jl_op ?_ (nb rfl)
    refine ow_assign rfl ?_
    refine jl_nil ?_
    refine jq_then ?_
    refine jc_seq ?_
    refine jc_region ?_
    refine jl_op ?_ (nb rfl)
    refine ow_call0 rfl (signs_c) ?_
    refine jl_op ?_ (nb rfl)
    refine ow_assign rfl ?_
    refine jl_nil ?_
    refine jq_then ?_
    refine jc_seq ?_
    refine jc_region ?_
    refine jl_op ?_ (nb rfl)
    refine ow_assign rfl ?_
    refine jl_nil ?_
    refine jq_then ?_
    refine jc_seq ?_
    refine jc_seq ?_
    refine jc_region ?_
    refine jl_op ?_ (nb rfl)
    refine ow_assign rfl ?_
    refine jl_nil ?_
    refine jq_then ?_
    refine jc_block ?_
    refine jc_ownNil 23 4 (by omega) ?_
    refine jc_loopS (ι := Nat × Int × Value × List Tok) [] (fun i => scanGo s i.1 i.2.1 i.2.2.2 = scan s ∧ i.1 ≤ s.size ∧ 1 ≤ i.2.1 ∧ i.2.1 ≤ 1 + i.1 ∧ i.2.2.2.length ≤ i.1) (fun i => [(0, Str s), (2, S.cell (C.val (.slice none 0 0))), (5, .cell (.val i.2.2.1)), (6, .cell (.map (setE SG))), (7, In .i64 i.2.1), (8, In .i64 (i.1 : Int))]) (fun i => [.own i.2.2.1 23 4 (i.2.2.2.map Tok.row)]) (fun i => s.size - i.1) (0, 1, .slice none 0 0, []) ⟨by unfold scan; rw [if_neg (by omega)], by omega, by dsimp only; omega, by dsimp only; omega, by simp⟩ ?_ ?_ ?_
    · refine sub_step 0 rfl ?_
      exact sub_end
    · (repeat (first | exact True.intro | refine ⟨rfl, ?_⟩))
    · rintro ⟨k, line, v, out⟩ ⟨hsc, hk, hl1, hl2, hlen⟩
      dsimp only at hsc hk hl1 hl2 hlen ⊢
      refine jc_reset [(0, Str s), (2, S.cell (C.val (.slice none 0 0))), (5, .cell (.val v)), (6, .cell (.map (setE SG))), (7, In .i64 line), (8, In .i64 (k : Int))] [.own v 23 4 (out.map Tok.row)] ?_ ⟨[0], [], rfl⟩ ?_
      · (repeat (first | exact True.intro | refine ⟨rfl, ?_⟩))
      refine jc_seq ?_
      refine jc_seq ?_
      refine jc_region ?_
      refine jl_op ?_ (nb rfl)
      refine ow_move rfl ?_
      refine jl_op ?_ (nb rfl)
      refine ow_move rfl ?_
      refine jl_op ?_ (nb rfl)
      refine ow_lenstr rfl rfl ?_
      refine jl_op ?_ (nb rfl)
      refine ow_lss rfl rfl ?_
      refine jl_nil ?_
      refine jq_then ?_
      refine jc_condd rfl (fun hlt => ?_) (fun hge => ?_)
      · have hlt' : k < s.size := by omega
        rw [scanGo, dif_pos hlt'] at hsc
        have hx : (s.extract k s.size).size = s.size - k := by rw [extract_size _ _ _ (Nat.le_refl _)]
        have hnl := nextT_le (s.extract k s.size)
        refine jc_skip ?_
        refine jq_then ?_
        refine jc_block ?_
        refine jc_seq ?_
        refine jc_seq ?_
        refine jc_region ?_
        refine jl_op ?_ (nb rfl)
        refine ow_move rfl ?_
        refine jl_op ?_ (nb rfl)
        refine ow_move rfl ?_
        refine jl_op ?_ (nb rfl)
        refine ow_indexStr rfl rfl rfl (by omega) (by omega) ?_
        refine jl_nil ?_
        refine jq_then ?_
        refine jc_block ?_
        refine jc_seq ?_
        refine jc_region ?_
        refine jl_op ?_ (nb rfl)
        refine ow_eql rfl rfl ?_
        refine jl_op ?_ (nb rfl)
        refine ow_assign rfl ?_
        refine jl_nil ?_
        refine jq_then ?_
        refine jc_condd rfl (fun h10 => ?_) (fun h10 => ?_)
        · rw [if_pos (show byteAt s k = 10 from h10)] at hsc
          refine jc_seq ?_
          refine jc_region ?_
          refine jl_op ?_ (nb rfl)
          refine ow_move rfl ?_
          refine jl_op ?_ (nb rfl)
          refine ow_add64 rfl rfl (by omega) ?_
          refine jl_op ?_ (nb rfl)
          refine ow_assign rfl ?_
          refine jl_nil ?_
          refine jq_then ?_
          refine jc_seq ?_
          refine jc_region ?_
          refine jl_op ?_ (nb rfl)
          refine ow_move rfl ?_
          refine jl_op ?_ (nb rfl)
          refine ow_add64 rfl rfl (by omega) ?_
          refine jl_op ?_ (nb rfl)
          refine ow_assign rfl ?_
          refine jl_nil ?_
          refine jq_then ?_
          refine jc_exit ?_
          refine jq_block_other rfl ?_
          refine jq_then_exit ?_
          refine jq_block_exit ?_
          refine jq_againS (i := (k, line, v, out)) (k + 1, line + 1, v, out) ⟨hsc, by dsimp only; omega, by dsimp only; omega, by dsimp only; omega, by dsimp only; omega⟩ (by dsimp only; omega) ?_ ?_
          · refine sub_step 0 rfl ?_
            exact sub_end
          · (repeat (first | exact True.intro | refine ⟨rfl, ?_⟩))
        · rw [if_neg (show ¬ byteAt s k = 10 from h10)] at hsc
          refine jc_seq ?_
          refine jc_seq ?_
          refine jc_region ?_
          refine jl_op ?_ (nb rfl)
          refine ow_eql rfl rfl ?_
          refine jl_op ?_ (nb rfl)
          refine ow_assign rfl ?_
          refine jl_nil ?_
          refine jq_then ?_
          refine jc_condd rfl (fun h32 => ?_) (fun h32 => ?_)
          · rw [if_pos (Or.inl (show byteAt s k = 32 from h32))] at hsc
            refine jc_skip ?_
            refine jq_then ?_
            refine jc_condd rfl (fun _ => ?_) (fun hx => absurd h32 hx)
            refine jc_seq ?_
            refine jc_region ?_
            refine jl_op ?_ (nb rfl)
            refine ow_move rfl ?_
            refine jl_op ?_ (nb rfl)
            refine ow_add64 rfl rfl (by omega) ?_
            refine jl_op ?_ (nb rfl)
            refine ow_assign rfl ?_
            refine jl_nil ?_
            refine jq_then ?_
            refine jc_exit ?_
            refine jq_block_other rfl ?_
            refine jq_then_exit ?_
            refine jq_block_exit ?_
            refine jq_againS (i := (k, line, v, out)) (k + 1, line, v, out) ⟨hsc, by dsimp only; omega, by dsimp only; omega, by dsimp only; omega, by dsimp only; omega⟩ (by dsimp only; omega) ?_ ?_
            · refine sub_step 0 rfl ?_
              exact sub_end
            · (repeat (first | exact True.intro | refine ⟨rfl, ?_⟩))
          · refine jc_region ?_
            refine jl_op ?_ (nb rfl)
            refine ow_eql rfl rfl ?_
            refine jl_op ?_ (nb rfl)
            refine ow_assign rfl ?_
            refine jl_nil ?_
            refine jq_then ?_
            refine jc_condd rfl (fun h9 => ?_) (fun h9 => ?_)
            · rw [if_pos (Or.inr (show byteAt s k = 9 from h9))] at hsc
              refine jc_seq ?_
              refine jc_region ?_
              refine jl_op ?_ (nb rfl)
              refine ow_move rfl ?_
              refine jl_op ?_ (nb rfl)
              refine ow_add64 rfl rfl (by omega) ?_
              refine jl_op ?_ (nb rfl)
              refine ow_assign rfl ?_
              refine jl_nil ?_
              refine jq_then ?_
              refine jc_exit ?_
              refine jq_block_other rfl ?_
              refine jq_then_exit ?_
              refine jq_block_exit ?_
              refine jq_againS (i := (k, line, v, out)) (k + 1, line, v, out) ⟨hsc, by dsimp only; omega, by dsimp only; omega, by dsimp only; omega, by dsimp only; omega⟩ (by dsimp only; omega) ?_ ?_
              · refine sub_step 0 rfl ?_
                exact sub_end
              · (repeat (first | exact True.intro | refine ⟨rfl, ?_⟩))
            · rw [if_neg (show ¬ (byteAt s k = 32 ∨ byteAt s k = 9) from fun hh => hh.elim h32 h9)] at hsc
              have hxs : (s.extract k s.size).size ≤ 1000000 := by omega
              refine jc_reset [(0, Str s), (2, S.cell (C.val (.slice none 0 0))), (5, .cell (.val v)), (6, .cell (.map (setE SG))), (7, In .i64 line), (8, In .i64 (k : Int))] [.own v 23 4 (out.map Tok.row)] ?_ ⟨[0], [], rfl⟩ ?_
              · (repeat (first | exact True.intro | refine ⟨rfl, ?_⟩))
              refine jc_skip ?_
              refine jq_block ?_
              refine jq_then ?_
              refine jc_seq ?_
              refine jc_region ?_
              refine jl_op ?_ (nb rfl)
              refine ow_move rfl ?_
              refine jl_op ?_ (nb rfl)
              refine ow_move rfl ?_
              refine jl_op ?_ (nb rfl)
              refine ow_substrLo rfl rfl rfl (by omega) (by omega) ?_
              refine jl_op ?_ (nb rfl)
              refine ow_move rfl ?_
              refine jl_op ?_ (nb rfl)
              refine ow_call0 rfl (next_c _ hxs) ?_
              refine jl_op ?_ (nb rfl)
              refine ow_move rfl ?_
              refine jl_op ?_ (nb rfl)
              refine ow_extract rfl rfl ?_
              refine jl_op ?_ (nb rfl)
              refine ow_extract rfl rfl ?_
              refine jl_op ?_ (nb rfl)
              refine ow_alloc rfl rfl (fun bl => ?_)
              refine jl_op0 ?_
              refine ow_storeAll 0 rfl rfl rfl rfl rfl rfl ?_
              refine jl_op ?_ (nb rfl)
              refine ow_assign rfl ?_
              refine jl_nil ?_
              refine jq_then ?_
              refine jc_seq ?_
              refine jc_seq ?_
              refine jc_region ?_
              refine jl_op ?_ (nb rfl)
              refine ow_move rfl ?_
              refine jl_op ?_ (nb rfl)
              refine ow_eql rfl rfl ?_
              refine jl_nil ?_
              refine jq_then ?_
              refine jc_condd rfl (fun h0 => ?_) (fun h0 => ?_)
              · refine jc_seq ?_
                refine jc_region ?_
                refine jl_op ?_ (nb rfl)
                refine ow_move rfl ?_
                refine jl_op ?_ (nb rfl)
                refine ow_assign rfl ?_
                refine jl_op ?_ (nb rfl)
                refine ow_assign rfl ?_
                refine jl_op ?_ (nb rfl)
                refine ow_assign rfl ?_
                refine jl_nil ?_
                refine jq_then ?_
                refine jc_ret ?_
                refine jq_then_ret ?_
                refine jq_block_ret ?_
                refine jq_then_ret ?_
                refine jq_block_ret ?_
                refine jq_then_ret ?_
                have h0' : (nextT (s.extract k s.size)).2 = 0 := by simpa only [Int.toNat_natCast, Int.natCast_eq_zero] using h0
                have e : scan s = ([], line, 1) := by rw [← hsc, dif_pos h0']
                refine jq_ownNil 23 4 (by omega) ?_
                refine jq_freeze 2 0 rfl rfl (by rw [hc]; simp [hb]) ?_
                refine jq_ret3 rfl rfl rfl rfl (fun K h => by rw [e] at h; exact h) ?_
                exact sub_end
              · have h0' : ¬ (nextT (s.extract k s.size)).2 = 0 := by simpa only [Int.toNat_natCast, Int.natCast_eq_zero] using h0
                rw [dif_neg h0'] at hsc
                have e1 : (nextT (s.extract (k : Int).toNat s.size)).2 = (nextT (s.extract k s.size)).2 := by rw [Int.toNat_natCast]
                refine jc_skip ?_
                refine jq_then ?_
                refine jc_seq ?_
                refine jc_region ?_
                refine jl_op ?_ (nb rfl)
                refine ow_move rfl ?_
                refine jl_op ?_ (nb rfl)
                refine ow_fieldAddr rfl rfl rfl (nb rfl) ?_
                refine jl_op0 ?_
                refine ow_store1 0 rfl rfl rfl rfl (nb rfl) ?_
                refine jl_nil ?_
                refine jq_then ?_
                refine jc_seq ?_
                refine jc_region ?_
                refine jl_op ?_ (nb rfl)
                refine ow_move rfl ?_
                refine jl_op ?_ (nb rfl)
                refine ow_loadAll 0 rfl rfl rfl rfl ?_
                refine jl_op ?_ (nb rfl)
                refine ow_buildSlice rfl rfl (nb rfl) rfl rfl (nb rfl) ?_
                refine jl_op (ow_append1 1 ((⟨(nextT (s.extract k s.size)).1.1, (nextT (s.extract k s.size)).1.2.1, line, (nextT (s.extract k s.size)).1.2.2⟩ : Tok)) rfl rfl rfl rfl rfl rfl rfl (fun _ => rfl) (by show (_ + _) * 40 ≤ _; first | omega | (simp only [List.length_append]; omega)) (by first | omega | (simp only [List.length_append]; omega)) (fun v1 hv1 => ?_)) (nb rfl)
                refine jl_op ?_ (nb rfl)
                refine ow_assign rfl ?_
                refine jl_nil ?_
                refine jq_then ?_
                refine jc_region ?_
                refine jl_op ?_ (nb rfl)
                refine ow_move rfl ?_
                refine jl_op ?_ (nb rfl)
                refine ow_move rfl ?_
                refine jl_op ?_ (nb rfl)
                refine ow_add64 rfl rfl (by omega) ?_
                refine jl_op ?_ (nb rfl)
                refine ow_assign rfl ?_
                refine jl_nil ?_
                refine jq_block ?_
                refine jq_againS (i := (k, line, v, out)) (k + (nextT (s.extract k s.size)).2, line, v1, out ++ [(⟨(nextT (s.extract k s.size)).1.1, (nextT (s.extract k s.size)).1.2.1, line, (nextT (s.extract k s.size)).1.2.2⟩ : Tok)]) ⟨hsc, by dsimp only; omega, hl1, by dsimp only; omega, by dsimp only; rw [List.length_append, List.length_singleton]; omega⟩ (by dsimp only; omega) ?_ ?_
                · refine sub_step 0 rfl ?_
                  exact sub_end
                · rw [show ((k + (nextT (s.extract k s.size)).2 : Nat) : Int) = (k : Int) + ((nextT (s.extract k s.size)).2 : Int) by omega]
                  (repeat (first | exact True.intro | refine ⟨rfl, ?_⟩))
      · refine jc_exit ?_
        refine jq_then_exit ?_
        refine jq_then_exit ?_
        refine jq_block_exit ?_
        refine jq_then ?_
        refine jc_seq ?_
        refine jc_region ?_
        refine jl_op ?_ (nb rfl)
        refine ow_move rfl ?_
        refine jl_op ?_ (nb rfl)
        refine ow_assign rfl ?_
        refine jl_op ?_ (nb rfl)
        refine ow_assign rfl ?_
        refine jl_op ?_ (nb rfl)
        refine ow_assign rfl ?_
        refine jl_nil ?_
        refine jq_then ?_
        refine jc_ret ?_
        have e : scan s = (out, 0, 0) := by rw [← hsc, scanGo, dif_neg (by omega)]
        refine jq_freeze 2 0 rfl rfl (by rw [hc]; simp [hb]) ?_
        refine jq_ret3 rfl rfl rfl rfl (fun K h => by rw [e] at h; exact h) ?_
        exact sub_end
end Go.Proofs.YtccojifhaoadbaaDoor
