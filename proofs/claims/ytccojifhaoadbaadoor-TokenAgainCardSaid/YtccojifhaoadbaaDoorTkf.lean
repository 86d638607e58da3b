import Derived.Test.YtccojifhaoadbaaDoorTkc
namespace Go.Proofs.YtccojifhaoadbaaDoor
open Go.Vc
attribute [local irreducible] JL JC JQ OpWp Con ConN

/-- The pieces. -/
def PC : List ByteArray := [⟨#[97]⟩, ⟨#[116, 97, 115, 107]⟩, ⟨#[120, 57]⟩, ⟨#[49, 50]⟩, ⟨#[48]⟩, ⟨#[48, 48, 55]⟩, ⟨#[50, 49, 52, 55, 52, 56, 51, 54, 52, 55]⟩, ⟨#[50, 49, 52, 55, 52, 56, 51, 54, 52, 56]⟩, ⟨#[60]⟩, ⟨#[60, 60]⟩, ⟨#[61]⟩, ⟨#[61, 61]⟩, ⟨#[33]⟩, ⟨#[33, 61]⟩, ⟨#[62]⟩, ⟨#[62, 62]⟩, ⟨#[43]⟩, ⟨#[45]⟩, ⟨#[42]⟩, ⟨#[47]⟩, ⟨#[37]⟩, ⟨#[38]⟩, ⟨#[124]⟩, ⟨#[94]⟩, ⟨#[40]⟩, ⟨#[41]⟩, ⟨#[91]⟩, ⟨#[93]⟩, ⟨#[123]⟩, ⟨#[125]⟩, ⟨#[32]⟩, ⟨#[32, 32]⟩, ⟨#[9]⟩, ⟨#[10]⟩, ⟨#[65]⟩, ⟨#[95]⟩, ⟨#[97, 98, 99, 100, 101, 102, 103, 104, 105, 106, 107, 108]⟩, ⟨#[109]⟩, ⟨#[13]⟩, ⟨#[195, 169]⟩]
theorem PC_len : PC.length = 40 := rfl
theorem PC_size : ∀ s ∈ PC, s.size ≤ 12 := by decide +kernel
/-- The text of some pieces. -/
def pcsF (l : List Int) : ByteArray := l.foldl (fun s n => s ++ PC.getD (n % 40).toNat ⟨#[]⟩) ⟨#[]⟩
def pieces (l : List Int) : ByteArray := pcsF (l.take 60)
theorem pc_size (n : Nat) : (PC.getD n ⟨#[]⟩).size ≤ 12 := by
  rw [List.getD_eq_getElem?_getD]
  cases h : PC[n]? with
  | none => decide
  | some s => exact PC_size s (List.mem_of_getElem? h)
theorem pcsF_sizeF : ∀ (l : List Int) (s : ByteArray), (l.foldl (fun s n => s ++ PC.getD (n % 40).toNat ⟨#[]⟩) s).size ≤ s.size + 12 * l.length
  | [], s => by simp
  | n :: l, s => by
    have h1 := pcsF_sizeF l (s ++ PC.getD (n % 40).toNat ⟨#[]⟩)
    have h2 := pc_size (n % 40).toNat
    rw [ByteArray.size_append] at h1
    rw [List.foldl_cons, List.length_cons]
    omega
theorem pcsF_size (l : List Int) : (pcsF l).size ≤ 12 * l.length := by
  have := pcsF_sizeF l ⟨#[]⟩
  have h0 : (⟨#[]⟩ : ByteArray).size = 0 := rfl
  unfold pcsF
  omega
theorem pieces_size (l : List Int) : (pieces l).size ≤ 720 := by
  have := pcsF_size (l.take 60)
  rw [List.length_take] at this
  unfold pieces
  omega
theorem pcsF_step (l : List Int) (k : Nat) (h : k < l.length) (hi : (l[k] % 40).toNat < PC.length) : pcsF (l.take (k + 1)) = pcsF (l.take k) ++ PC[(l[k] % 40).toNat] := by
  rw [List.take_succ_eq_append_getElem h]
  unfold pcsF
  rw [List.foldl_append, List.foldl_cons, List.foldl_nil, List.getD_eq_getElem?_getD, List.getElem?_eq_getElem hi]
  rfl
attribute [local irreducible] nextT scan byteAt rsign runLen signLen numVal isL isD isName wordT pcsF

theorem pieces_c (l : List Int) (hl : ∀ n ∈ l, 0 ≤ n ∧ n ≤ 255) : Con Tryd.prog 15 [.cell (.list (l.map Brow))] [] (fun K => K (Str (pieces l)) []) := by
  have eL : (l.map Brow).length = l.length := List.length_map _
  have eP : (PC.map Trow).length = 40 := by rw [List.length_map, PC_len]
  have eP2 := PC_len
  have hsz := PC_size
  have hstep := pcsF_step l
  have hfs := pcsF_size
  refine con_intro Tryd.func15 rfl rfl (Nat.le_of_ble_eq_true rfl) (fun c hc => ?_)
  refine jc_seq ?_
  refine jc_region ?_
  refine jl_op ?_ (nb rfl)
  refine ow_assign rfl ?_
  refine jl_nil ?_
  refine jq_then ?_
  refine jc_seq ?_
  refine jc_region ?_
  refine jl_op ?_ (nb rfl)
  refine ow_buildSlice rfl rfl (nb rfl) rfl rfl (nb rfl) ?_
  refine jl_op ?_ (nb rfl)
  refine ow_assign rfl ?_
  refine jl_nil ?_
  refine jq_then ?_
  refine jc_seq ?_
  refine jc_reset [(0, .cell (.list (l.map Brow))), (3, .cell (.list (PC.map Trow)))] [] ?_ ⟨[], [], rfl⟩ ?_
  · (repeat (first | exact True.intro | refine ⟨rfl, ?_⟩))
  generalize PC = Q at eP eP2 hsz hstep ⊢
  have e0 : pcsF (l.take 0) = ⟨#[]⟩ := by rw [List.take_zero]; unfold pcsF; rfl
  refine jc_region ?_
  refine jl_op ?_ (nb rfl)
  refine ow_assign rfl ?_
  refine jl_nil ?_
  refine jq_then ?_
  refine jc_seq ?_
  refine jc_seq ?_
  refine jc_region ?_
  refine jl_op ?_ (nb rfl)
  refine ow_assign rfl ?_
  refine jl_nil ?_
  refine jq_then ?_
  refine jc_block ?_
  refine jc_loopS [] (fun k : Nat => k ≤ l.length ∧ k ≤ 60) (fun k => [(0, .cell (.list (l.map Brow))), (3, .cell (.list (Q.map Trow))), (4, Str (pcsF (l.take k))), (5, In .i64 (k : Int))]) (fun _ => []) (fun k => l.length - k) 0 ⟨Nat.zero_le _, Nat.zero_le _⟩ ?_ ?_ ?_
  · exact sub_end
  · rw [e0]
    (repeat (first | exact True.intro | refine ⟨rfl, ?_⟩))
  · rintro k ⟨hk, hk60⟩
    by_cases h1 : (k : Int) < ((l.map Brow).length : Int)
    · have hlt : k < l.length := by omega
      by_cases h2 : (k : Int) < 60
      · have hb := hl l[k] (List.getElem_mem hlt)
        have hm0 : 0 ≤ l[k] % ((Q.map Trow).length : Int) := by rw [eP]; omega
        have hm1 : l[k] % ((Q.map Trow).length : Int) < 40 := by rw [eP]; omega
        have hi : (l[k] % ((Q.map Trow).length : Int)).toNat < Q.length := by omega
        have hs1 := hsz Q[(l[k] % ((Q.map Trow).length : Int)).toNat] (List.getElem_mem hi)
        have hs2 := hfs (l.take k)
        rw [List.length_take] at hs2
        have e : pcsF (l.take (k + 1)) = pcsF (l.take k) ++ Q[(l[k] % ((Q.map Trow).length : Int)).toNat] := by
          have := hstep k hlt (by rw [← show ((40 : Nat) : Int) = 40 from rfl, ← eP]; exact hi)
          rw [this]
          congr 2
          rw [eP]
          rfl
        refine jc_seq ?_
        refine jc_seq ?_
        refine jc_region ?_
        refine jl_op ?_ (nb rfl)
        refine ow_move rfl ?_
        refine jl_op ?_ (nb rfl)
        refine ow_move rfl ?_
        refine jl_op ?_ (nb rfl)
        refine ow_len rfl (fun hlen => ?_)
        refine jl_op ?_ (nb rfl)
        refine ow_lss rfl rfl ?_
        refine jl_op ?_ (nb rfl)
        refine ow_move rfl ?_
        refine jl_guardY rfl (by first | assumption | exact decide_eq_true rfl | exact decide_eq_true (by first | assumption | omega) | exact decide_eq_false (by first | assumption | omega) | with_reducible rfl | exact (rfl : false = !true) | exact (rfl : true = !false)) (nb rfl) ?_
        refine ow_move rfl ?_
        refine jl_guardY rfl (by first | assumption | exact decide_eq_true rfl | exact decide_eq_true (by first | assumption | omega) | exact decide_eq_false (by first | assumption | omega) | with_reducible rfl | exact (rfl : false = !true) | exact (rfl : true = !false)) (nb rfl) ?_
        refine ow_lss rfl rfl ?_
        refine jl_op ?_ (nb rfl)
        refine ow_pickT rfl (by first | assumption | exact decide_eq_true rfl | exact decide_eq_true (by first | assumption | omega) | exact decide_eq_false (by first | assumption | omega) | with_reducible rfl | exact (rfl : false = !true) | exact (rfl : true = !false)) rfl ?_
        refine jl_nil ?_
        refine jq_then ?_
        refine jc_condd rfl (fun _ => ?_) (fun h => absurd h2 h)
        refine jc_skip ?_
        refine jq_then ?_
        refine jc_seq ?_
        refine jc_block ?_
        refine jc_region ?_
        refine jl_op ?_ (nb rfl)
        refine ow_move rfl ?_
        refine jl_op ?_ (nb rfl)
        refine ow_move rfl ?_
        refine jl_op ?_ (nb rfl)
        refine ow_move rfl ?_
        refine jl_op ?_ (nb rfl)
        refine ow_move rfl ?_
        refine jl_op ?_ (nb rfl)
        refine ow_indexAddrMapE rfl rfl (by omega) rfl rfl (nb rfl) ?_
        refine jl_op ?_ (nb rfl)
        refine ow_loadPlace rfl rfl ?_
        refine jl_op ?_ (nb rfl)
        refine ow_convI64 rfl rfl rfl (by omega) ?_
        refine jl_op ?_ (nb rfl)
        refine ow_move rfl ?_
        refine jl_op ?_ (nb rfl)
        refine ow_len rfl (fun hlen => ?_)
        refine jl_op ?_ (nb rfl)
        refine ow_rem64 rfl rfl (by omega) (by omega) ?_
        refine jl_op ?_ (nb rfl)
        refine ow_indexAddrMapI rfl rfl (by omega) (by omega) rfl rfl (nb rfl) ?_
        refine jl_op ?_ (nb rfl)
        refine ow_loadPlace rfl rfl ?_
        refine jl_op ?_ (nb rfl)
        refine ow_strcat rfl rfl (by omega) ?_
        refine jl_op ?_ (nb rfl)
        refine ow_assign rfl ?_
        refine jl_nil ?_
        refine jq_block ?_
        refine jq_then ?_
        refine jc_region ?_
        refine jl_op ?_ (nb rfl)
        refine ow_move rfl ?_
        refine jl_op ?_ (nb rfl)
        refine ow_add64 rfl rfl (by omega) ?_
        refine jl_op ?_ (nb rfl)
        refine ow_assign rfl ?_
        refine jl_nil ?_
        refine jq_againS (k + 1) ⟨by omega, by omega⟩ (by omega) ?_ ?_
        · exact sub_end
        · rw [e]
          (repeat (first | exact True.intro | refine ⟨rfl, ?_⟩))
      · refine jc_seq ?_
        refine jc_seq ?_
        refine jc_region ?_
        refine jl_op ?_ (nb rfl)
        refine ow_move rfl ?_
        refine jl_op ?_ (nb rfl)
        refine ow_move rfl ?_
        refine jl_op ?_ (nb rfl)
        refine ow_len rfl (fun hlen => ?_)
        refine jl_op ?_ (nb rfl)
        refine ow_lss rfl rfl ?_
        refine jl_op ?_ (nb rfl)
        refine ow_move rfl ?_
        refine jl_guardY rfl (by first | assumption | exact decide_eq_true rfl | exact decide_eq_true (by first | assumption | omega) | exact decide_eq_false (by first | assumption | omega) | with_reducible rfl | exact (rfl : false = !true) | exact (rfl : true = !false)) (nb rfl) ?_
        refine ow_move rfl ?_
        refine jl_guardY rfl (by first | assumption | exact decide_eq_true rfl | exact decide_eq_true (by first | assumption | omega) | exact decide_eq_false (by first | assumption | omega) | with_reducible rfl | exact (rfl : false = !true) | exact (rfl : true = !false)) (nb rfl) ?_
        refine ow_lss rfl rfl ?_
        refine jl_op ?_ (nb rfl)
        refine ow_pickT rfl (by first | assumption | exact decide_eq_true rfl | exact decide_eq_true (by first | assumption | omega) | exact decide_eq_false (by first | assumption | omega) | with_reducible rfl | exact (rfl : false = !true) | exact (rfl : true = !false)) rfl ?_
        refine jl_nil ?_
        refine jq_then ?_
        refine jc_condd rfl (fun h => absurd h h2) (fun _ => ?_)
        refine jc_exit ?_
        refine jq_then_exit ?_
        refine jq_then_exit ?_
        refine jq_block_exit ?_
        refine jq_then ?_
        refine jc_seq ?_
        refine jc_region ?_
        refine jl_op ?_ (nb rfl)
        refine ow_move rfl ?_
        refine jl_op ?_ (nb rfl)
        refine ow_assign rfl ?_
        refine jl_nil ?_
        refine jq_then ?_
        refine jc_ret ?_
        have e : pieces l = pcsF (l.take k) := by unfold pieces; rw [show k = 60 by omega]
        refine jq_ret1 rfl rfl [] rfl (fun K h => by rw [e] at h; exact h)
    · refine jc_seq ?_
      refine jc_seq ?_
      refine jc_region ?_
      refine jl_op ?_ (nb rfl)
      refine ow_move rfl ?_
      refine jl_op ?_ (nb rfl)
      refine ow_move rfl ?_
      refine jl_op ?_ (nb rfl)
      refine ow_len rfl (fun hlen => ?_)
      refine jl_op ?_ (nb rfl)
      refine ow_lss rfl rfl ?_
      refine jl_op ?_ (nb rfl)
      refine ow_move rfl ?_
      refine jl_guardN rfl (by first | assumption | exact decide_eq_true rfl | exact decide_eq_true (by first | assumption | omega) | exact decide_eq_false (by first | assumption | omega) | with_reducible rfl | exact (rfl : false = !true) | exact (rfl : true = !false)) (nb rfl) ?_
      refine jl_guardN rfl (by first | assumption | exact decide_eq_true rfl | exact decide_eq_true (by first | assumption | omega) | exact decide_eq_false (by first | assumption | omega) | with_reducible rfl | exact (rfl : false = !true) | exact (rfl : true = !false)) (nb rfl) ?_
      refine jl_op ?_ (nb rfl)
      refine ow_pickF rfl (by first | assumption | exact decide_eq_true rfl | exact decide_eq_true (by first | assumption | omega) | exact decide_eq_false (by first | assumption | omega) | with_reducible rfl | exact (rfl : false = !true) | exact (rfl : true = !false)) rfl ?_
      refine jl_nil ?_
      refine jq_then ?_
      refine jc_cond rfl (fun h => by cases h) (fun _ => ?_)
      refine jc_exit ?_
      refine jq_then_exit ?_
      refine jq_then_exit ?_
      refine jq_block_exit ?_
      refine jq_then ?_
      refine jc_seq ?_
      refine jc_region ?_
      refine jl_op ?_ (nb rfl)
      refine ow_move rfl ?_
      refine jl_op ?_ (nb rfl)
      refine ow_assign rfl ?_
      refine jl_nil ?_
      refine jq_then ?_
      refine jc_ret ?_
      have e : pieces l = pcsF (l.take k) := by unfold pieces; rw [List.take_of_length_le (by omega), List.take_of_length_le (by omega)]
      refine jq_ret1 rfl rfl [] rfl (fun K h => by rw [e] at h; exact h)

theorem TokenPieces_c (l : List Int) (hl : ∀ n ∈ l, 0 ≤ n ∧ n ≤ 255) : Con Tryd.prog 4 [.cell (.list (l.map Brow))] [] (fun K => K (Bl true) []) := by
  refine con_intro Tryd.func4 rfl rfl (Nat.le_of_ble_eq_true rfl) (fun c hc => ?_)
  have hsame : Con Tryd.prog 10 [.cell (.list ((scan (pieces l)).1.map Tok.row)), .cell (.list ((scan (pieces l)).1.map Tok.row)), Bl true] [] (fun K => K (Bl true) []) := by
    have := Same_c (scan (pieces l)).1 (scan (pieces l)).1 true
    rwa [sameL_refl] at this
  refine jc_seq ?_
  refine jc_region ?_
  refine jl_op ?_ (nb rfl)
  refine ow_assign rfl ?_
  refine jl_nil ?_
  refine jq_then ?_
  refine jc_seq ?_
  refine jc_region ?_
  refine jl_op ?_ (nb rfl)
  refine ow_move rfl ?_
  refine jl_op ?_ (nb rfl)
  refine ow_call0 rfl (pieces_c _ hl) ?_
  refine jl_op ?_ (nb rfl)
  refine ow_assign rfl ?_
  refine jl_nil ?_
  refine jq_then ?_
  refine jc_seq ?_
  refine jc_region ?_
  refine jl_op ?_ (nb rfl)
  refine ow_move rfl ?_
  refine jl_op ?_ (nb rfl)
  refine ow_call0 rfl (Scan_c _) ?_
  refine jl_op ?_ (nb rfl)
  refine ow_move rfl ?_
  refine jl_op ?_ (nb rfl)
  refine ow_extract rfl rfl ?_
  refine jl_op ?_ (nb rfl)
  refine ow_extract rfl rfl ?_
  refine jl_op ?_ (nb rfl)
  refine ow_extract rfl rfl ?_
  refine jl_op ?_ (nb rfl)
  refine ow_assign rfl ?_
  refine jl_op ?_ (nb rfl)
  refine ow_assign rfl ?_
  refine jl_op ?_ (nb rfl)
  refine ow_assign rfl ?_
  refine jl_nil ?_
  refine jq_then ?_
  refine jc_seq ?_
  refine jc_region ?_
  refine jl_op ?_ (nb rfl)
  refine ow_move rfl ?_
  refine jl_op ?_ (nb rfl)
  refine ow_call0 rfl (rScan_c _) ?_
  refine jl_op ?_ (nb rfl)
  refine ow_move rfl ?_
  refine jl_op ?_ (nb rfl)
  refine ow_extract rfl rfl ?_
  refine jl_op ?_ (nb rfl)
  refine ow_extract rfl rfl ?_
  refine jl_op ?_ (nb rfl)
  refine ow_extract rfl rfl ?_
  refine jl_op ?_ (nb rfl)
  refine ow_assign rfl ?_
  refine jl_op ?_ (nb rfl)
  refine ow_assign rfl ?_
  refine jl_op ?_ (nb rfl)
  refine ow_assign rfl ?_
  refine jl_nil ?_
  refine jq_then ?_
  refine jc_seq ?_
  refine jc_region ?_
  refine jl_op ?_ (nb rfl)
  refine ow_move rfl ?_
  refine jl_op ?_ (nb rfl)
  refine ow_move rfl ?_
  refine jl_op ?_ (nb rfl)
  refine ow_eql rfl rfl ?_
  refine jl_op ?_ (nb rfl)
  refine ow_move rfl ?_
  refine jl_guardY rfl (by first | assumption | exact decide_eq_true rfl | exact decide_eq_true (by first | assumption | omega) | exact decide_eq_false (by first | assumption | omega) | with_reducible rfl | exact (rfl : false = !true) | exact (rfl : true = !false)) (nb rfl) ?_
  refine ow_move rfl ?_
  refine jl_guardY rfl (by first | assumption | exact decide_eq_true rfl | exact decide_eq_true (by first | assumption | omega) | exact decide_eq_false (by first | assumption | omega) | with_reducible rfl | exact (rfl : false = !true) | exact (rfl : true = !false)) (nb rfl) ?_
  refine ow_move rfl ?_
  refine jl_guardY rfl (by first | assumption | exact decide_eq_true rfl | exact decide_eq_true (by first | assumption | omega) | exact decide_eq_false (by first | assumption | omega) | with_reducible rfl | exact (rfl : false = !true) | exact (rfl : true = !false)) (nb rfl) ?_
  refine ow_eql rfl rfl ?_
  refine jl_op ?_ (nb rfl)
  refine ow_pickT rfl (by first | assumption | exact decide_eq_true rfl | exact decide_eq_true (by first | assumption | omega) | exact decide_eq_false (by first | assumption | omega) | with_reducible rfl | exact (rfl : false = !true) | exact (rfl : true = !false)) rfl ?_
  refine jl_op ?_ (nb rfl)
  refine ow_move rfl ?_
  refine jl_guardY rfl (by first | assumption | exact decide_eq_true rfl | exact decide_eq_true (by first | assumption | omega) | exact decide_eq_false (by first | assumption | omega) | with_reducible rfl | exact (rfl : false = !true) | exact (rfl : true = !false)) (nb rfl) ?_
  refine ow_move rfl ?_
  refine jl_guardY rfl (by first | assumption | exact decide_eq_true rfl | exact decide_eq_true (by first | assumption | omega) | exact decide_eq_false (by first | assumption | omega) | with_reducible rfl | exact (rfl : false = !true) | exact (rfl : true = !false)) (nb rfl) ?_
  refine ow_move rfl ?_
  refine jl_guardY rfl (by first | assumption | exact decide_eq_true rfl | exact decide_eq_true (by first | assumption | omega) | exact decide_eq_false (by first | assumption | omega) | with_reducible rfl | exact (rfl : false = !true) | exact (rfl : true = !false)) (nb rfl) ?_
  refine ow_call0 rfl (hsame) ?_
  refine jl_op ?_ (nb rfl)
  refine ow_pickT rfl (by first | assumption | exact decide_eq_true rfl | exact decide_eq_true (by first | assumption | omega) | exact decide_eq_false (by first | assumption | omega) | with_reducible rfl | exact (rfl : false = !true) | exact (rfl : true = !false)) rfl ?_
  refine jl_op ?_ (nb rfl)
  refine ow_move rfl ?_
  refine jl_guardY rfl (by first | assumption | exact decide_eq_true rfl | exact decide_eq_true (by first | assumption | omega) | exact decide_eq_false (by first | assumption | omega) | with_reducible rfl | exact (rfl : false = !true) | exact (rfl : true = !false)) (nb rfl) ?_
  refine ow_call0 rfl (awake_c) ?_
  refine jl_op ?_ (nb rfl)
  refine ow_pickT rfl (by first | assumption | exact decide_eq_true rfl | exact decide_eq_true (by first | assumption | omega) | exact decide_eq_false (by first | assumption | omega) | with_reducible rfl | exact (rfl : false = !true) | exact (rfl : true = !false)) rfl ?_
  refine jl_op ?_ (nb rfl)
  refine ow_assign rfl ?_
  refine jl_nil ?_
  refine jq_then ?_
  refine jc_ret ?_
  refine jq_ret1 rfl rfl [] rfl (fun K h => h)
end Go.Proofs.YtccojifhaoadbaaDoor
