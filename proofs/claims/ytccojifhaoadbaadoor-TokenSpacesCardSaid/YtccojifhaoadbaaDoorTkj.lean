import Derived.Test.YtccojifhaoadbaaDoorTkf
import Derived.Test.YtccojifhaoadbaaDoorTki
namespace Go.Proofs.YtccojifhaoadbaaDoor
open Go.Vc
attribute [local irreducible] JL JC JQ OpWp Con ConN

theorem scanGo_err (s : ByteArray) : ∀ (m a : Nat) (line : Int) (out : List Tok), s.size - a ≤ m → (scanGo s a line out).2.2 = 0 ∨ (scanGo s a line out).2.2 = 1
  | m, a, line, out, hm => by
    by_cases hlt : a < s.size
    · obtain ⟨m, rfl⟩ : ∃ k, m = k + 1 := ⟨m - 1, by omega⟩
      rw [scanGo, dif_pos hlt]
      split
      · exact scanGo_err s m _ _ _ (by omega)
      · split
        · exact scanGo_err s m _ _ _ (by omega)
        · split
          · exact .inr rfl
          · exact scanGo_err s m _ _ _ (by omega)
    · rw [scanGo, dif_neg hlt]
      exact .inl rfl
theorem scan_err {s : ByteArray} (h : s.size ≤ 8192) : (scan s).2.2 = 0 ∨ (scan s).2.2 = 1 := by
  unfold scan
  rw [if_neg (by omega)]
  exact scanGo_err s _ _ _ _ (Nat.le_refl _)

/-- Words, each with a space behind it. -/
def joinA : List Tok → ByteArray
  | [] => ⟨#[]⟩
  | t :: r => wordT t ++ (⟨#[32]⟩ ++ joinA r)
theorem nil_app (s : ByteArray) : (⟨#[]⟩ : ByteArray) ++ s = s := bytesI_inj (by rw [bytesI_app]; rfl)
theorem app_nil (s : ByteArray) : s ++ (⟨#[]⟩ : ByteArray) = s := bytesI_inj (by rw [bytesI_app, show bytesI ⟨#[]⟩ = [] from rfl, List.append_nil])
theorem joinA_snoc (t : Tok) : ∀ l : List Tok, joinA (l ++ [t]) = joinA l ++ wordT t ++ ⟨#[32]⟩
  | [] => by
    show wordT t ++ (⟨#[32]⟩ ++ ⟨#[]⟩) = ⟨#[]⟩ ++ wordT t ++ ⟨#[32]⟩
    rw [app_nil, nil_app]
  | a :: l => by
    show wordT a ++ (⟨#[32]⟩ ++ joinA (l ++ [t])) = wordT a ++ (⟨#[32]⟩ ++ joinA l) ++ wordT t ++ ⟨#[32]⟩
    rw [joinA_snoc t l]
    simp only [ByteArray.append_assoc]
theorem joinA_size : ∀ l : List Tok, (joinA l).size = wsum l
  | [] => rfl
  | t :: l => by
    simp only [joinA, wsum, ByteArray.size_append, joinA_size l]
    have : (⟨#[32]⟩ : ByteArray).size = 1 := rfl
    omega
theorem blanks_sp : blanks ⟨#[32]⟩ := by
  intro c hc
  have : bytesI ⟨#[32]⟩ = [32] := rfl
  rw [this, List.mem_singleton] at hc
  exact .inl hc
theorem led_blanks {b r : ByteArray} (hb : blanks b) (h0 : 0 < b.size) : blankLed (b ++ r) := by
  refine .inr ?_
  rw [byteAt_app _ _ _ h0, ← bytesI_get b 0 h0]
  exact hb _ (List.getElem_mem _)
theorem px_joinA : ∀ {l : List Tok}, (∀ t ∈ l, Good t) → PX (joinA l) (l.map strip)
  | [], _ => px_nil rfl
  | t :: l, h => px_word (h t (by simp)) (led_blanks blanks_sp (by decide)) (px_blank blanks_sp (px_joinA (fun t ht => h t (by simp [ht]))))
theorem wsum_take : ∀ (l : List Tok) (k : Nat), wsum (l.take k) ≤ wsum l
  | [], k => by simp [wsum]
  | t :: l, 0 => by simp [wsum]
  | t :: l, k + 1 => by
    have := wsum_take l k
    simp only [List.take_succ_cons, wsum]
    omega
theorem wsum_get : ∀ (l : List Tok) (k : Nat) (h : k < l.length), (wordT l[k]).size + 1 ≤ wsum l
  | t :: l, 0, _ => by simp only [List.getElem_cons_zero, wsum]; omega
  | t :: l, k + 1, h => by
    have := wsum_get l k (by simpa using h)
    simp only [List.getElem_cons_succ, wsum]
    omega
theorem wsum_len : ∀ l : List Tok, l.length ≤ wsum l
  | [] => Nat.le_refl _
  | t :: l => by
    have := wsum_len l
    simp only [List.length_cons, wsum]
    omega
attribute [local irreducible] nextT scan byteAt rsign runLen signLen numVal isL isD isName wordT pieces joinA

theorem TokenAgain_c (l : List Int) (hl : ∀ n ∈ l, 0 ≤ n ∧ n ≤ 255) : Con Tryd.prog 5 [.cell (.list (l.map Brow))] [] (fun K => K (Bl true) []) := by
  have hps := pieces_size l
  have hS := Scan_c (pieces l)
  refine con_intro Tryd.func5 rfl rfl (Nat.le_of_ble_eq_true rfl) (fun c hc => ?_)
  by_cases h0 : (scan (pieces l)).2.2 = 0
  · obtain ⟨A, hA, hSC⟩ := scan_of h0
    rw [hA] at hS
    have hS' : Con Tryd.prog 8 [Str (pieces l)] [] (fun K => K (.tup [.cell (.list (A.map Tok.row)), In .i64 0, In .i64 0]) []) := hS
    obtain ⟨hgood, hsum, _, hpair⟩ := sc_good hSC
    obtain ⟨B, hB, eB⟩ := px_joinA hgood 1
    have hB2 := scan_to (by rw [joinA_size]; omega) hB
    have hS2 := Scan_c (joinA A)
    rw [hB2] at hS2
    have hS2' : Con Tryd.prog 8 [Str (joinA A)] [] (fun K => K (.tup [.cell (.list (B.map Tok.row)), In .i64 0, In .i64 0]) []) := hS2
    have hsame : Con Tryd.prog 10 [.cell (.list (A.map Tok.row)), .cell (.list (B.map Tok.row)), Bl false] [] (fun K => K (Bl true) []) := by
      have := Same_c A B false
      rwa [sameL_strip eB.symm] at this
    clear hS hS2 hB2 hB eB
    have eA : (A.map Tok.row).length = A.length := List.length_map _
    refine jc_seq ?_
    refine jc_region ?_
    refine jl_op ?_ (nb rfl)
    refine ow_assign rfl ?_
    refine jl_nil ?_
    refine jq_then ?_
    refine jc_seq ?_
    refine jc_region ?_
    refine jl_op ?_ (nb rfl)
    refine ow_move rfl ?_
    refine jl_op ?_ (nb rfl)
    refine ow_call0 rfl (pieces_c _ hl) ?_
    refine jl_op ?_ (nb rfl)
    refine ow_call0 rfl (hS') ?_
    refine jl_op ?_ (nb rfl)
    refine ow_move rfl ?_
    refine jl_op ?_ (nb rfl)
    refine ow_extract rfl rfl ?_
    refine jl_op ?_ (nb rfl)
    refine ow_extract rfl rfl ?_
    refine jl_op ?_ (nb rfl)
    refine ow_extract rfl rfl ?_
    refine jl_op ?_ (nb rfl)
    refine ow_assign rfl ?_
    refine jl_op ?_ (nb rfl)
    refine ow_assign rfl ?_
    refine jl_op ?_ (nb rfl)
    refine ow_assign rfl ?_
    refine jl_nil ?_
    refine jq_then ?_
    refine jc_seq ?_
    refine jc_seq ?_
    refine jc_region ?_
    refine jl_op ?_ (nb rfl)
    refine ow_move rfl ?_
    refine jl_op ?_ (nb rfl)
    refine ow_neq rfl rfl ?_
    refine jl_nil ?_
    refine jq_then ?_
    refine jc_condd rfl (fun h => absurd rfl h) (fun _ => ?_)
    have hj0 : joinA (A.take 0) = ⟨#[]⟩ := by rw [List.take_zero]; unfold joinA; rfl
    refine jc_skip ?_
    refine jq_then ?_
    refine jc_seq ?_
    refine jc_region ?_
    refine jl_op ?_ (nb rfl)
    refine ow_assign rfl ?_
    refine jl_nil ?_
    refine jq_then ?_
    refine jc_seq ?_
    refine jc_seq ?_
    refine jc_region ?_
    refine jl_op ?_ (nb rfl)
    refine ow_assign rfl ?_
    refine jl_nil ?_
    refine jq_then ?_
    refine jc_block ?_
    refine jc_loopS [] (fun k : Nat => k ≤ A.length) (fun k => [(3, .cell (.list (A.map Tok.row))), (6, Str (joinA (A.take k))), (7, In .i64 (k : Int))]) (fun _ => []) (fun k => A.length - k) 0 (Nat.zero_le _) ?_ ?_ ?_
    · exact sub_end
    · rw [hj0]
      (repeat (first | exact True.intro | refine ⟨rfl, ?_⟩))
    · intro k hk
      refine jc_reset [(3, .cell (.list (A.map Tok.row))), (6, Str (joinA (A.take k))), (7, In .i64 (k : Int))] [] ?_ ⟨[], [], rfl⟩ ?_
      · (repeat (first | exact True.intro | refine ⟨rfl, ?_⟩))
      refine jc_seq ?_
      refine jc_seq ?_
      refine jc_region ?_
      refine jl_op ?_ (nb rfl)
      refine ow_move rfl ?_
      refine jl_op ?_ (nb rfl)
      refine ow_move rfl ?_
      refine jl_op ?_ (nb rfl)
      refine ow_len rfl (fun hlen => ?_)
      refine jl_op ?_ (nb rfl)
      refine ow_lss rfl rfl ?_
      refine jl_nil ?_
      refine jq_then ?_
      refine jc_condd rfl (fun hlt => ?_) (fun hge => ?_)
      · have hlt' : k < A.length := by omega
        have hW := Word_c A[k]
        have hs1 := wsum_take A k
        rw [← joinA_size] at hs1
        have hs2 := wsum_get A k hlt'
        have hs3 : (joinA (A.take k) ++ wordT A[k]).size ≤ 4000 := by rw [ByteArray.size_append]; omega
        have hs4 : (⟨#[32]⟩ : ByteArray).size = 1 := rfl
        have e : joinA (A.take (k + 1)) = joinA (A.take k) ++ wordT A[k] ++ ⟨#[32]⟩ := by rw [List.take_succ_eq_append_getElem hlt', joinA_snoc]
        refine jc_skip ?_
        refine jq_then ?_
        refine jc_seq ?_
        refine jc_block ?_
        refine jc_seq ?_
        refine jc_seq ?_
        refine jc_cut (ι := Unit) [] (fun _ => True) (fun _ => [(3, .cell (.list (A.map Tok.row))), (6, Str (joinA (A.take k))), (7, In .i64 (k : Int)), (46, Bl false)]) (fun _ => []) ?_ ?_
        · by_cases hk0 : (0 : Int) < (k : Int)
          · have hlt2 : ((k : Int) - 1).toNat < A.length := by omega
            have hord : ¬ A[k].line < A[((k : Int) - 1).toNat].line := by
              have := List.pairwise_iff_getElem.1 hpair ((k : Int) - 1).toNat k hlt2 hlt' (by omega)
              omega
            have hd : decide (A[k].line < A[((k : Int) - 1).toNat].line) = false := decide_eq_false hord
            refine jc_any rfl rfl (by kernel_rfl) (by kernel_rfl) ?_
            refine any_op (fun c => ow_move rfl ⟨rfl, List.Perm.refl _⟩) ?_
            refine any_op (fun c => ow_gtr rfl rfl ⟨rfl, List.Perm.refl _⟩) ?_
            refine any_op (fun c => ow_move rfl ⟨rfl, List.Perm.refl _⟩) ?_
            refine any_guardY rfl (by first | assumption | exact decide_eq_true rfl | exact decide_eq_true (by first | assumption | omega) | exact decide_eq_false (by first | assumption | omega) | with_reducible rfl | exact (rfl : false = !true) | exact (rfl : true = !false)) (fun c => ow_move rfl ⟨rfl, List.Perm.refl _⟩) ?_
            refine any_guardY rfl (by first | assumption | exact decide_eq_true rfl | exact decide_eq_true (by first | assumption | omega) | exact decide_eq_false (by first | assumption | omega) | with_reducible rfl | exact (rfl : false = !true) | exact (rfl : true = !false)) (fun c => ow_move rfl ⟨rfl, List.Perm.refl _⟩) ?_
            refine any_guardY rfl (by first | assumption | exact decide_eq_true rfl | exact decide_eq_true (by first | assumption | omega) | exact decide_eq_false (by first | assumption | omega) | with_reducible rfl | exact (rfl : false = !true) | exact (rfl : true = !false)) (fun c => ow_indexAddrMapE rfl rfl (by omega) rfl rfl (nb rfl) ⟨rfl, List.Perm.refl _⟩) ?_
            refine any_guardY rfl (by first | assumption | exact decide_eq_true rfl | exact decide_eq_true (by first | assumption | omega) | exact decide_eq_false (by first | assumption | omega) | with_reducible rfl | exact (rfl : false = !true) | exact (rfl : true = !false)) (fun c => ow_fieldAddrPlace rfl rfl rfl (nb rfl) rfl (nb rfl) ⟨rfl, List.Perm.refl _⟩) ?_
            refine any_guardY rfl (by first | assumption | exact decide_eq_true rfl | exact decide_eq_true (by first | assumption | omega) | exact decide_eq_false (by first | assumption | omega) | with_reducible rfl | exact (rfl : false = !true) | exact (rfl : true = !false)) (fun c => ow_loadPlace rfl rfl ⟨rfl, List.Perm.refl _⟩) ?_
            refine any_guardY rfl (by first | assumption | exact decide_eq_true rfl | exact decide_eq_true (by first | assumption | omega) | exact decide_eq_false (by first | assumption | omega) | with_reducible rfl | exact (rfl : false = !true) | exact (rfl : true = !false)) (fun c => ow_move rfl ⟨rfl, List.Perm.refl _⟩) ?_
            refine any_guardY rfl (by first | assumption | exact decide_eq_true rfl | exact decide_eq_true (by first | assumption | omega) | exact decide_eq_false (by first | assumption | omega) | with_reducible rfl | exact (rfl : false = !true) | exact (rfl : true = !false)) (fun c => ow_move rfl ⟨rfl, List.Perm.refl _⟩) ?_
            refine any_guardY rfl (by first | assumption | exact decide_eq_true rfl | exact decide_eq_true (by first | assumption | omega) | exact decide_eq_false (by first | assumption | omega) | with_reducible rfl | exact (rfl : false = !true) | exact (rfl : true = !false)) (fun c => ow_sub64 rfl rfl (by omega) ⟨rfl, List.Perm.refl _⟩) ?_
            refine any_guardY rfl (by first | assumption | exact decide_eq_true rfl | exact decide_eq_true (by first | assumption | omega) | exact decide_eq_false (by first | assumption | omega) | with_reducible rfl | exact (rfl : false = !true) | exact (rfl : true = !false)) (fun c => ow_indexAddrMapI rfl rfl (by omega) (by omega) rfl rfl (nb rfl) ⟨rfl, List.Perm.refl _⟩) ?_
            refine any_guardY rfl (by first | assumption | exact decide_eq_true rfl | exact decide_eq_true (by first | assumption | omega) | exact decide_eq_false (by first | assumption | omega) | with_reducible rfl | exact (rfl : false = !true) | exact (rfl : true = !false)) (fun c => ow_fieldAddrPlace rfl rfl rfl (nb rfl) rfl (nb rfl) ⟨rfl, List.Perm.refl _⟩) ?_
            refine any_guardY rfl (by first | assumption | exact decide_eq_true rfl | exact decide_eq_true (by first | assumption | omega) | exact decide_eq_false (by first | assumption | omega) | with_reducible rfl | exact (rfl : false = !true) | exact (rfl : true = !false)) (fun c => ow_loadPlace rfl rfl ⟨rfl, List.Perm.refl _⟩) ?_
            refine any_guardY rfl (by first | assumption | exact decide_eq_true rfl | exact decide_eq_true (by first | assumption | omega) | exact decide_eq_false (by first | assumption | omega) | with_reducible rfl | exact (rfl : false = !true) | exact (rfl : true = !false)) (fun c => ow_lss rfl rfl ⟨rfl, List.Perm.refl _⟩) ?_
            refine any_op (fun c => ow_pickT rfl (by first | assumption | exact decide_eq_true rfl | exact decide_eq_true (by first | assumption | omega) | exact decide_eq_false (by first | assumption | omega) | with_reducible rfl | exact (rfl : false = !true) | exact (rfl : true = !false)) rfl ⟨rfl, List.Perm.refl _⟩) ?_
            refine any_nil ?_
            rw [hd]
            refine jq_cutS () trivial ?_ ?_
            · exact sub_end
            · (repeat (first | exact True.intro | refine ⟨rfl, ?_⟩))
          · refine jc_any rfl rfl (by kernel_rfl) (by kernel_rfl) ?_
            refine any_op (fun c => ow_move rfl ⟨rfl, List.Perm.refl _⟩) ?_
            refine any_op (fun c => ow_gtr rfl rfl ⟨rfl, List.Perm.refl _⟩) ?_
            refine any_op (fun c => ow_move rfl ⟨rfl, List.Perm.refl _⟩) ?_
            refine any_guardN rfl (by first | assumption | exact decide_eq_true rfl | exact decide_eq_true (by first | assumption | omega) | exact decide_eq_false (by first | assumption | omega) | with_reducible rfl | exact (rfl : false = !true) | exact (rfl : true = !false)) ?_
            refine any_guardN rfl (by first | assumption | exact decide_eq_true rfl | exact decide_eq_true (by first | assumption | omega) | exact decide_eq_false (by first | assumption | omega) | with_reducible rfl | exact (rfl : false = !true) | exact (rfl : true = !false)) ?_
            refine any_guardN rfl (by first | assumption | exact decide_eq_true rfl | exact decide_eq_true (by first | assumption | omega) | exact decide_eq_false (by first | assumption | omega) | with_reducible rfl | exact (rfl : false = !true) | exact (rfl : true = !false)) ?_
            refine any_guardN rfl (by first | assumption | exact decide_eq_true rfl | exact decide_eq_true (by first | assumption | omega) | exact decide_eq_false (by first | assumption | omega) | with_reducible rfl | exact (rfl : false = !true) | exact (rfl : true = !false)) ?_
            refine any_guardN rfl (by first | assumption | exact decide_eq_true rfl | exact decide_eq_true (by first | assumption | omega) | exact decide_eq_false (by first | assumption | omega) | with_reducible rfl | exact (rfl : false = !true) | exact (rfl : true = !false)) ?_
            refine any_guardN rfl (by first | assumption | exact decide_eq_true rfl | exact decide_eq_true (by first | assumption | omega) | exact decide_eq_false (by first | assumption | omega) | with_reducible rfl | exact (rfl : false = !true) | exact (rfl : true = !false)) ?_
            refine any_guardN rfl (by first | assumption | exact decide_eq_true rfl | exact decide_eq_true (by first | assumption | omega) | exact decide_eq_false (by first | assumption | omega) | with_reducible rfl | exact (rfl : false = !true) | exact (rfl : true = !false)) ?_
            refine any_guardN rfl (by first | assumption | exact decide_eq_true rfl | exact decide_eq_true (by first | assumption | omega) | exact decide_eq_false (by first | assumption | omega) | with_reducible rfl | exact (rfl : false = !true) | exact (rfl : true = !false)) ?_
            refine any_guardN rfl (by first | assumption | exact decide_eq_true rfl | exact decide_eq_true (by first | assumption | omega) | exact decide_eq_false (by first | assumption | omega) | with_reducible rfl | exact (rfl : false = !true) | exact (rfl : true = !false)) ?_
            refine any_guardN rfl (by first | assumption | exact decide_eq_true rfl | exact decide_eq_true (by first | assumption | omega) | exact decide_eq_false (by first | assumption | omega) | with_reducible rfl | exact (rfl : false = !true) | exact (rfl : true = !false)) ?_
            refine any_guardN rfl (by first | assumption | exact decide_eq_true rfl | exact decide_eq_true (by first | assumption | omega) | exact decide_eq_false (by first | assumption | omega) | with_reducible rfl | exact (rfl : false = !true) | exact (rfl : true = !false)) ?_
            refine any_guardN rfl (by first | assumption | exact decide_eq_true rfl | exact decide_eq_true (by first | assumption | omega) | exact decide_eq_false (by first | assumption | omega) | with_reducible rfl | exact (rfl : false = !true) | exact (rfl : true = !false)) ?_
            refine any_op (fun c => ow_pickF rfl (by first | assumption | exact decide_eq_true rfl | exact decide_eq_true (by first | assumption | omega) | exact decide_eq_false (by first | assumption | omega) | with_reducible rfl | exact (rfl : false = !true) | exact (rfl : true = !false)) rfl ⟨rfl, List.Perm.refl _⟩) ?_
            refine any_nil ?_
            refine jq_cutS () trivial ?_ ?_
            · exact sub_end
            · (repeat (first | exact True.intro | refine ⟨rfl, ?_⟩))
        · intro _ _
          refine jc_cond rfl (fun h => by cases h) (fun _ => ?_)
          refine jc_skip ?_
          refine jq_then ?_
          refine jc_region ?_
          refine jl_op ?_ (nb rfl)
          refine ow_move rfl ?_
          refine jl_op ?_ (nb rfl)
          refine ow_move rfl ?_
          refine jl_op ?_ (nb rfl)
          refine ow_move rfl ?_
          refine jl_op ?_ (nb rfl)
          refine ow_indexAddrMapE rfl rfl (by omega) rfl rfl (nb rfl) ?_
          refine jl_op ?_ (nb rfl)
          refine ow_loadPlaceN rfl rfl rfl ?_
          refine jl_op ?_ (nb rfl)
          refine ow_call0 rfl (hW) ?_
          refine jl_op ?_ (nb rfl)
          refine ow_strcat rfl rfl (by omega) ?_
          refine jl_op ?_ (nb rfl)
          refine ow_strcat rfl rfl (by omega) ?_
          refine jl_op ?_ (nb rfl)
          refine ow_assign rfl ?_
          refine jl_nil ?_
          refine jq_block ?_
          refine jq_then ?_
          refine jc_region ?_
          refine jl_op ?_ (nb rfl)
          refine ow_move rfl ?_
          refine jl_op ?_ (nb rfl)
          refine ow_add64 rfl rfl (by omega) ?_
          refine jl_op ?_ (nb rfl)
          refine ow_assign rfl ?_
          refine jl_nil ?_
          refine jq_againS (k + 1) (by omega) (by omega) ?_ ?_
          · exact sub_end
          · rw [e]
            (repeat (first | exact True.intro | refine ⟨rfl, ?_⟩))
      · obtain rfl : k = A.length := by omega
        rw [List.take_length]
        refine jc_exit ?_
        refine jq_then_exit ?_
        refine jq_then_exit ?_
        refine jq_block_exit ?_
        refine jq_then ?_
        refine jc_seq ?_
        refine jc_region ?_
        refine jl_op ?_ (nb rfl)
        refine ow_move rfl ?_
        refine jl_op ?_ (nb rfl)
        refine ow_call0 rfl (hS2') ?_
        refine jl_op ?_ (nb rfl)
        refine ow_move rfl ?_
        refine jl_op ?_ (nb rfl)
        refine ow_extract rfl rfl ?_
        refine jl_op ?_ (nb rfl)
        refine ow_extract rfl rfl ?_
        refine jl_op ?_ (nb rfl)
        refine ow_extract rfl rfl ?_
        refine jl_op ?_ (nb rfl)
        refine ow_assign rfl ?_
        refine jl_op ?_ (nb rfl)
        refine ow_assign rfl ?_
        refine jl_op ?_ (nb rfl)
        refine ow_assign rfl ?_
        refine jl_nil ?_
        refine jq_then ?_
        refine jc_seq ?_
        refine jc_region ?_
        refine jl_op ?_ (nb rfl)
        refine ow_move rfl ?_
        refine jl_op ?_ (nb rfl)
        refine ow_eql rfl rfl ?_
        refine jl_op ?_ (nb rfl)
        refine ow_move rfl ?_
        refine jl_guardY rfl (by first | assumption | exact decide_eq_true rfl | exact decide_eq_true (by first | assumption | omega) | exact decide_eq_false (by first | assumption | omega) | with_reducible rfl | exact (rfl : false = !true) | exact (rfl : true = !false)) (nb rfl) ?_
        refine ow_move rfl ?_
        refine jl_guardY rfl (by first | assumption | exact decide_eq_true rfl | exact decide_eq_true (by first | assumption | omega) | exact decide_eq_false (by first | assumption | omega) | with_reducible rfl | exact (rfl : false = !true) | exact (rfl : true = !false)) (nb rfl) ?_
        refine ow_eql rfl rfl ?_
        refine jl_op ?_ (nb rfl)
        refine ow_pickT rfl (by first | assumption | exact decide_eq_true rfl | exact decide_eq_true (by first | assumption | omega) | exact decide_eq_false (by first | assumption | omega) | with_reducible rfl | exact (rfl : false = !true) | exact (rfl : true = !false)) rfl ?_
        refine jl_op ?_ (nb rfl)
        refine ow_move rfl ?_
        refine jl_guardY rfl (by first | assumption | exact decide_eq_true rfl | exact decide_eq_true (by first | assumption | omega) | exact decide_eq_false (by first | assumption | omega) | with_reducible rfl | exact (rfl : false = !true) | exact (rfl : true = !false)) (nb rfl) ?_
        refine ow_move rfl ?_
        refine jl_guardY rfl (by first | assumption | exact decide_eq_true rfl | exact decide_eq_true (by first | assumption | omega) | exact decide_eq_false (by first | assumption | omega) | with_reducible rfl | exact (rfl : false = !true) | exact (rfl : true = !false)) (nb rfl) ?_
        refine ow_move rfl ?_
        refine jl_guardY rfl (by first | assumption | exact decide_eq_true rfl | exact decide_eq_true (by first | assumption | omega) | exact decide_eq_false (by first | assumption | omega) | with_reducible rfl | exact (rfl : false = !true) | exact (rfl : true = !false)) (nb rfl) ?_
        refine ow_call0 rfl (hsame) ?_
        refine jl_op ?_ (nb rfl)
        refine ow_pickT rfl (by first | assumption | exact decide_eq_true rfl | exact decide_eq_true (by first | assumption | omega) | exact decide_eq_false (by first | assumption | omega) | with_reducible rfl | exact (rfl : false = !true) | exact (rfl : true = !false)) rfl ?_
        refine jl_op ?_ (nb rfl)
        refine ow_move rfl ?_
        refine jl_guardY rfl (by first | assumption | exact decide_eq_true rfl | exact decide_eq_true (by first | assumption | omega) | exact decide_eq_false (by first | assumption | omega) | with_reducible rfl | exact (rfl : false = !true) | exact (rfl : true = !false)) (nb rfl) ?_
        refine ow_call0 rfl (awake_c) ?_
        refine jl_op ?_ (nb rfl)
        refine ow_pickT rfl (by first | assumption | exact decide_eq_true rfl | exact decide_eq_true (by first | assumption | omega) | exact decide_eq_false (by first | assumption | omega) | with_reducible rfl | exact (rfl : false = !true) | exact (rfl : true = !false)) rfl ?_
        refine jl_op ?_ (nb rfl)
        refine ow_assign rfl ?_
        refine jl_nil ?_
        refine jq_then ?_
        refine jc_ret ?_
        refine jq_ret1 rfl rfl [] rfl (fun K h => h)
  · have h1 : (scan (pieces l)).2.2 = 1 := (scan_err (by omega)).resolve_left h0
    refine jc_seq ?_
    refine jc_region ?_
    refine jl_op ?_ (nb rfl)
    refine ow_assign rfl ?_
    refine jl_nil ?_
    refine jq_then ?_
    refine jc_seq ?_
    refine jc_region ?_
    refine jl_op ?_ (nb rfl)
    refine ow_move rfl ?_
    refine jl_op ?_ (nb rfl)
    refine ow_call0 rfl (pieces_c _ hl) ?_
    refine jl_op ?_ (nb rfl)
    refine ow_call0 rfl (hS) ?_
    refine jl_op ?_ (nb rfl)
    refine ow_move rfl ?_
    refine jl_op ?_ (nb rfl)
    refine ow_extract rfl rfl ?_
    refine jl_op ?_ (nb rfl)
    refine ow_extract rfl rfl ?_
    refine jl_op ?_ (nb rfl)
    refine ow_extract rfl rfl ?_
    refine jl_op ?_ (nb rfl)
    refine ow_assign rfl ?_
    refine jl_op ?_ (nb rfl)
    refine ow_assign rfl ?_
    refine jl_op ?_ (nb rfl)
    refine ow_assign rfl ?_
    refine jl_nil ?_
    refine jq_then ?_
    refine jc_seq ?_
    refine jc_seq ?_
    refine jc_region ?_
    refine jl_op ?_ (nb rfl)
    refine ow_move rfl ?_
    refine jl_op ?_ (nb rfl)
    refine ow_neq rfl rfl ?_
    refine jl_nil ?_
    refine jq_then ?_
    refine jc_condd rfl (fun _ => ?_) (fun h => absurd h0 h)
    refine jc_seq ?_
    refine jc_region ?_
    refine jl_op ?_ (nb rfl)
    refine ow_move rfl ?_
    refine jl_op ?_ (nb rfl)
    refine ow_eql rfl rfl ?_
    refine jl_op ?_ (nb rfl)
    refine ow_move rfl ?_
    refine jl_guardY rfl (by first | assumption | exact decide_eq_true rfl | exact decide_eq_true (by first | assumption | omega) | exact decide_eq_false (by first | assumption | omega) | with_reducible rfl | exact (rfl : false = !true) | exact (rfl : true = !false)) (nb rfl) ?_
    refine ow_call0 rfl (awake_c) ?_
    refine jl_op ?_ (nb rfl)
    refine ow_pickT rfl (by first | assumption | exact decide_eq_true rfl | exact decide_eq_true (by first | assumption | omega) | exact decide_eq_false (by first | assumption | omega) | with_reducible rfl | exact (rfl : false = !true) | exact (rfl : true = !false)) rfl ?_
    refine jl_op ?_ (nb rfl)
    refine ow_assign rfl ?_
    refine jl_nil ?_
    refine jq_then ?_
    refine jc_ret ?_
    refine jq_then_ret ?_
    refine jq_ret1 rfl rfl [] rfl (fun K h => h)
end Go.Proofs.YtccojifhaoadbaaDoor
