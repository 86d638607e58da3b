import Derived.Test.YtccojifhaoadbaaDoorTkj
namespace Go.Proofs.YtccojifhaoadbaaDoor
open Go.Vc
attribute [local irreducible] JL JC JQ OpWp Con ConN

/-- Words, each with a space ahead, and w ahead of one of them. -/
def blkT (w : ByteArray) (kk : Int) (i : Nat) : ByteArray := (if (i : Int) = kk then w else ⟨#[]⟩) ++ ⟨#[32]⟩
def spcT (w : ByteArray) (kk : Int) : Nat → List Tok → ByteArray
  | _, [] => ⟨#[]⟩
  | i, t :: r => blkT w kk i ++ (wordT t ++ spcT w kk (i + 1) r)
theorem spcT_snoc (w : ByteArray) (kk : Int) (t : Tok) : ∀ (l : List Tok) (i : Nat), spcT w kk i (l ++ [t]) = spcT w kk i l ++ blkT w kk (i + l.length) ++ wordT t
  | [], i => by
    show blkT w kk i ++ (wordT t ++ ⟨#[]⟩) = ⟨#[]⟩ ++ blkT w kk (i + 0) ++ wordT t
    rw [app_nil, nil_app, Nat.add_zero]
  | a :: l, i => by
    show blkT w kk i ++ (wordT a ++ spcT w kk (i + 1) (l ++ [t])) = blkT w kk i ++ (wordT a ++ spcT w kk (i + 1) l) ++ blkT w kk (i + (l.length + 1)) ++ wordT t
    rw [spcT_snoc w kk t l (i + 1), show i + 1 + l.length = i + (l.length + 1) by omega]
    simp only [ByteArray.append_assoc]
theorem blanks_app {a b : ByteArray} (ha : blanks a) (hb : blanks b) : blanks (a ++ b) := by
  intro c hc
  rw [bytesI_app] at hc
  rcases List.mem_append.1 hc with hc | hc
  · exact ha c hc
  · exact hb c hc
theorem blanks_nil : blanks ⟨#[]⟩ := by
  intro c hc
  rw [show bytesI ⟨#[]⟩ = [] from rfl] at hc
  cases hc
theorem blkT_blanks {w : ByteArray} (hw : blanks w) (kk : Int) (i : Nat) : blanks (blkT w kk i) ∧ 0 < (blkT w kk i).size ∧ (blkT w kk i).size ≤ w.size + 1 := by
  have h1 : (⟨#[32]⟩ : ByteArray).size = 1 := rfl
  have h0 : (⟨#[]⟩ : ByteArray).size = 0 := rfl
  unfold blkT
  split
  · refine ⟨blanks_app hw blanks_sp, ?_, ?_⟩ <;> rw [ByteArray.size_append] <;> omega
  · refine ⟨blanks_app blanks_nil blanks_sp, ?_, ?_⟩ <;> rw [ByteArray.size_append] <;> omega
theorem spcT_led {w : ByteArray} (hw : blanks w) (kk : Int) (i : Nat) : ∀ l : List Tok, blankLed (spcT w kk i l)
  | [] => .inl rfl
  | _ :: _ => led_blanks (blkT_blanks hw kk i).1 (blkT_blanks hw kk i).2.1
theorem px_spcT {w : ByteArray} (hw : blanks w) (kk : Int) : ∀ {l : List Tok} (i : Nat), (∀ t ∈ l, Good t) → PX (spcT w kk i l) (l.map strip)
  | [], _, _ => px_nil rfl
  | t :: l, i, h => px_blank (blkT_blanks hw kk i).1 (px_word (h t (by simp)) (spcT_led hw kk (i + 1) l) (px_spcT hw kk (i + 1) (fun t ht => h t (by simp [ht]))))
theorem spcT_size {w : ByteArray} (hw : blanks w) (h3 : w.size ≤ 3) (kk : Int) : ∀ (l : List Tok) (i : Nat), (spcT w kk i l).size ≤ wsum l + 3 * l.length
  | [], _ => Nat.zero_le _
  | t :: l, i => by
    have h1 := spcT_size hw h3 kk l (i + 1)
    have h2 := (blkT_blanks hw kk i).2.2
    simp only [spcT, wsum, ByteArray.size_append, List.length_cons]
    omega
theorem wb1 : blanks ⟨#[32]⟩ := blanks_sp
theorem wb2 : blanks ⟨#[9]⟩ := by
  intro c hc
  rw [show bytesI ⟨#[9]⟩ = [9] from rfl, List.mem_singleton] at hc
  exact .inr (.inl hc)
theorem wb3 : blanks ⟨#[10]⟩ := by
  intro c hc
  rw [show bytesI ⟨#[10]⟩ = [10] from rfl, List.mem_singleton] at hc
  exact .inr (.inr hc)
theorem wb4 : blanks ⟨#[32, 10, 32]⟩ := blanks_app (b := ⟨#[10, 32]⟩) wb1 (blanks_app (b := ⟨#[32]⟩) wb3 wb1)
attribute [local irreducible] nextT scan byteAt rsign runLen signLen numVal isL isD isName wordT pieces joinA

theorem Mod_c (n k : Int) (hk : 1 ≤ k ∧ k ≤ 1000000000) (_hn : -9223372036854775808 ≤ n ∧ n ≤ 9223372036854775807) : Con Tryd.prog 16 [In .i64 n, In .i64 k] [] (fun K => K (In .i64 (n.emod k)) []) := by
  have h1 := Int.tmod_lt_of_pos n (show 0 < k by omega)
  have h2 : -k < n.tmod k := by
    have := Int.tmod_lt_of_pos (-n) (show 0 < k by omega)
    rw [Int.neg_tmod] at this
    omega
  have e : (n.tmod k + k) % k = n.emod k := by
    rw [Int.add_emod_right, Int.tmod_eq_emod]
    split
    · rw [show (n % k - ((0 : Nat) : Int)) = n % k by omega]
      exact Int.emod_emod_of_dvd n (Int.dvd_refl k)
    · rw [Int.sub_emod, show ((k.natAbs : Int)) = k by omega, Int.emod_self, Int.sub_zero, Int.emod_emod_of_dvd _ (Int.dvd_refl k)]
      exact Int.emod_emod_of_dvd n (Int.dvd_refl k)
  refine con_intro Tryd.func16 rfl rfl (Nat.le_of_ble_eq_true rfl) (fun c hc => ?_)
  refine jc_seq ?_
  refine jc_region ?_
  refine jl_op ?_ (nb rfl)
  refine ow_assign rfl ?_
  refine jl_nil ?_
  refine jq_then ?_
  refine jc_seq ?_
  refine jc_region ?_
  refine jl_op ?_ (nb rfl)
  refine ow_move rfl ?_
  refine jl_op ?_ (nb rfl)
  refine ow_move rfl ?_
  refine jl_op ?_ (nb rfl)
  refine ow_rem rfl rfl (by omega) ?_
  refine jl_op ?_ (nb rfl)
  refine ow_move rfl ?_
  refine jl_op ?_ (nb rfl)
  refine ow_add64 rfl rfl (by omega) ?_
  refine jl_op ?_ (nb rfl)
  refine ow_move rfl ?_
  refine jl_op ?_ (nb rfl)
  refine ow_rem64 rfl rfl (by omega) (by omega) ?_
  refine jl_op ?_ (nb rfl)
  refine ow_assign rfl ?_
  refine jl_nil ?_
  refine jq_then ?_
  refine jc_ret ?_
  refine jq_ret1 rfl rfl [] rfl (fun K h => by rw [← e] at h; exact h)

theorem TokenSpaces_c (l : List Int) (at_ how : Int) (hl : ∀ n ∈ l, 0 ≤ n ∧ n ≤ 255) (hat : -9223372036854775808 ≤ at_ ∧ at_ ≤ 9223372036854775807) (hhow : 0 ≤ how ∧ how ≤ 255) : Con Tryd.prog 6 [.cell (.list (l.map Brow)), In .i64 at_, In .u8 how] [] (fun K => K (Bl true) []) := by
  have hps := pieces_size l
  have hS := Scan_c (pieces l)
  refine con_intro Tryd.func6 rfl rfl (Nat.le_of_ble_eq_true rfl) (fun c hc => ?_)
  by_cases h0 : (scan (pieces l)).2.2 = 0
  · obtain ⟨A, hA, hSC⟩ := scan_of h0
    rw [hA] at hS
    have hS' : Con Tryd.prog 8 [Str (pieces l)] [] (fun K => K (.tup [.cell (.list (A.map Tok.row)), In .i64 0, In .i64 0]) []) := hS
    obtain ⟨hgood, hsum, _, _⟩ := sc_good hSC
    have hlenA := wsum_len A
    have eA : (A.map Tok.row).length = A.length := List.length_map _
    clear hS
    refine jc_seq ?_
    refine jc_region ?_
    refine jl_op ?_ (nb rfl)
    refine ow_assign rfl ?_
    refine jl_nil ?_
    refine jq_then ?_
    refine jc_seq ?_
    refine jc_region ?_
    refine jl_op ?_ (nb rfl)
    refine ow_move rfl ?_
    refine jl_op ?_ (nb rfl)
    refine ow_call0 rfl (pieces_c _ hl) ?_
    refine jl_op ?_ (nb rfl)
    refine ow_assign rfl ?_
    refine jl_nil ?_
    refine jq_then ?_
    refine jc_seq ?_
    refine jc_region ?_
    refine jl_op ?_ (nb rfl)
    refine ow_move rfl ?_
    refine jl_op ?_ (nb rfl)
    refine ow_call0 rfl (hS') ?_
    refine jl_op ?_ (nb rfl)
    refine ow_move rfl ?_
    refine jl_op ?_ (nb rfl)
    refine ow_extract rfl rfl ?_
    refine jl_op ?_ (nb rfl)
    refine ow_extract rfl rfl ?_
    refine jl_op ?_ (nb rfl)
    refine ow_extract rfl rfl ?_
    refine jl_op ?_ (nb rfl)
    refine ow_assign rfl ?_
    refine jl_op ?_ (nb rfl)
    refine ow_assign rfl ?_
    refine jl_op ?_ (nb rfl)
    refine ow_assign rfl ?_
    refine jl_nil ?_
    refine jq_then ?_
    refine jc_seq ?_
    refine jc_seq ?_
    refine jc_region ?_
    refine jl_op ?_ (nb rfl)
    refine ow_move rfl ?_
    refine jl_op ?_ (nb rfl)
    refine ow_neq rfl rfl ?_
    refine jl_nil ?_
    refine jq_then ?_
    refine jc_condd rfl (fun h => absurd rfl h) (fun _ => ?_)
    refine jc_skip ?_
    refine jq_then ?_
    refine jc_seq ?_
    refine jc_cut (ι := ByteArray) [] (fun w => blanks w ∧ w.size ≤ 3) (fun w => [(1, In .i64 at_), (7, Str (pieces l)), (8, .cell (.list (A.map Tok.row))), (11, Str w)]) (fun _ => []) ?_ ?_
    · have h4 : how % 4 = 0 ∨ how % 4 = 1 ∨ how % 4 = 2 ∨ how % 4 = 3 := by omega
      rcases h4 with h4 | h4 | h4 | h4
      · refine jc_region ?_
        refine jl_op ?_ (nb rfl)
        refine ow_buildSlice rfl rfl (nb rfl) rfl rfl (nb rfl) ?_
        refine jl_op ?_ (nb rfl)
        refine ow_move rfl ?_
        refine jl_op ?_ (nb rfl)
        refine ow_remU8 rfl rfl (by omega) (by omega) ?_
        refine jl_op (ow_indexAddrN 0 rfl rfl (by omega) rfl rfl (nb rfl) ?_) (nb rfl)
        refine jl_op ?_ (nb rfl)
        refine ow_loadPlace rfl rfl ?_
        refine jl_op ?_ (nb rfl)
        refine ow_assign rfl ?_
        refine jl_nil ?_
        refine jq_cutS ⟨#[32]⟩ ⟨wb1, by decide⟩ ?_ ?_
        · exact sub_end
        · (repeat (first | exact True.intro | refine ⟨rfl, ?_⟩))
      · refine jc_region ?_
        refine jl_op ?_ (nb rfl)
        refine ow_buildSlice rfl rfl (nb rfl) rfl rfl (nb rfl) ?_
        refine jl_op ?_ (nb rfl)
        refine ow_move rfl ?_
        refine jl_op ?_ (nb rfl)
        refine ow_remU8 rfl rfl (by omega) (by omega) ?_
        refine jl_op (ow_indexAddrN 1 rfl rfl (by omega) rfl rfl (nb rfl) ?_) (nb rfl)
        refine jl_op ?_ (nb rfl)
        refine ow_loadPlace rfl rfl ?_
        refine jl_op ?_ (nb rfl)
        refine ow_assign rfl ?_
        refine jl_nil ?_
        refine jq_cutS ⟨#[9]⟩ ⟨wb2, by decide⟩ ?_ ?_
        · exact sub_end
        · (repeat (first | exact True.intro | refine ⟨rfl, ?_⟩))
      · refine jc_region ?_
        refine jl_op ?_ (nb rfl)
        refine ow_buildSlice rfl rfl (nb rfl) rfl rfl (nb rfl) ?_
        refine jl_op ?_ (nb rfl)
        refine ow_move rfl ?_
        refine jl_op ?_ (nb rfl)
        refine ow_remU8 rfl rfl (by omega) (by omega) ?_
        refine jl_op (ow_indexAddrN 2 rfl rfl (by omega) rfl rfl (nb rfl) ?_) (nb rfl)
        refine jl_op ?_ (nb rfl)
        refine ow_loadPlace rfl rfl ?_
        refine jl_op ?_ (nb rfl)
        refine ow_assign rfl ?_
        refine jl_nil ?_
        refine jq_cutS ⟨#[10]⟩ ⟨wb3, by decide⟩ ?_ ?_
        · exact sub_end
        · (repeat (first | exact True.intro | refine ⟨rfl, ?_⟩))
      · refine jc_region ?_
        refine jl_op ?_ (nb rfl)
        refine ow_buildSlice rfl rfl (nb rfl) rfl rfl (nb rfl) ?_
        refine jl_op ?_ (nb rfl)
        refine ow_move rfl ?_
        refine jl_op ?_ (nb rfl)
        refine ow_remU8 rfl rfl (by omega) (by omega) ?_
        refine jl_op (ow_indexAddrN 3 rfl rfl (by omega) rfl rfl (nb rfl) ?_) (nb rfl)
        refine jl_op ?_ (nb rfl)
        refine ow_loadPlace rfl rfl ?_
        refine jl_op ?_ (nb rfl)
        refine ow_assign rfl ?_
        refine jl_nil ?_
        refine jq_cutS ⟨#[32, 10, 32]⟩ ⟨wb4, by decide⟩ ?_ ?_
        · exact sub_end
        · (repeat (first | exact True.intro | refine ⟨rfl, ?_⟩))
    · rintro w ⟨hw, hw3⟩
      have hz1 : (w ++ pieces l).size ≤ 1000 := by rw [ByteArray.size_append]; omega
      have hz2 : (w ++ pieces l ++ w).size ≤ 1000 := by rw [ByteArray.size_append, ByteArray.size_append]; omega
      obtain ⟨B, hB, eB⟩ := px_blank hw (px_of (px_back hSC hw)) 1
      rw [← ByteArray.append_assoc] at hB
      have hB2 := Scan_c (w ++ pieces l ++ w)
      rw [scan_to (by omega) hB] at hB2
      have hB3 : Con Tryd.prog 8 [Str (w ++ pieces l ++ w)] [] (fun K => K (.tup [.cell (.list (B.map Tok.row)), In .i64 0, In .i64 0]) []) := hB2
      have hsame : Con Tryd.prog 10 [.cell (.list (A.map Tok.row)), .cell (.list (B.map Tok.row)), Bl false] [] (fun K => K (Bl true) []) := by
        have := Same_c A B false
        rwa [sameL_strip eB.symm] at this
      refine jc_seq ?_
      refine jc_region ?_
      refine jl_op ?_ (nb rfl)
      refine ow_move rfl ?_
      refine jl_op ?_ (nb rfl)
      refine ow_move rfl ?_
      refine jl_op ?_ (nb rfl)
      refine ow_strcat rfl rfl (by omega) ?_
      refine jl_op ?_ (nb rfl)
      refine ow_move rfl ?_
      refine jl_op ?_ (nb rfl)
      refine ow_strcat rfl rfl (by omega) ?_
      refine jl_op ?_ (nb rfl)
      refine ow_call0 rfl (hB3) ?_
      refine jl_op ?_ (nb rfl)
      refine ow_move rfl ?_
      refine jl_op ?_ (nb rfl)
      refine ow_extract rfl rfl ?_
      refine jl_op ?_ (nb rfl)
      refine ow_extract rfl rfl ?_
      refine jl_op ?_ (nb rfl)
      refine ow_extract rfl rfl ?_
      refine jl_op ?_ (nb rfl)
      refine ow_assign rfl ?_
      refine jl_op ?_ (nb rfl)
      refine ow_assign rfl ?_
      refine jl_op ?_ (nb rfl)
      refine ow_assign rfl ?_
      refine jl_nil ?_
      refine jq_then ?_
      refine jc_seq ?_
      refine jc_seq ?_
      refine jc_region ?_
      refine jl_op ?_ (nb rfl)
      refine ow_move rfl ?_
      refine jl_op ?_ (nb rfl)
      refine ow_neq rfl rfl ?_
      refine jl_op ?_ (nb rfl)
      refine ow_move rfl ?_
      refine jl_guardY rfl (by first | assumption | exact decide_eq_true rfl | exact decide_eq_true (by first | assumption | omega) | exact decide_eq_false (by first | assumption | omega) | with_reducible rfl | exact (rfl : false = !true) | exact (rfl : true = !false)) (nb rfl) ?_
      refine ow_move rfl ?_
      refine jl_guardY rfl (by first | assumption | exact decide_eq_true rfl | exact decide_eq_true (by first | assumption | omega) | exact decide_eq_false (by first | assumption | omega) | with_reducible rfl | exact (rfl : false = !true) | exact (rfl : true = !false)) (nb rfl) ?_
      refine ow_neq rfl rfl ?_
      refine jl_op ?_ (nb rfl)
      refine ow_pickF rfl (by first | assumption | exact decide_eq_true rfl | exact decide_eq_true (by first | assumption | omega) | exact decide_eq_false (by first | assumption | omega) | with_reducible rfl | exact (rfl : false = !true) | exact (rfl : true = !false)) rfl ?_
      refine jl_op ?_ (nb rfl)
      refine ow_move rfl ?_
      refine jl_guardY rfl (by first | assumption | exact decide_eq_true rfl | exact decide_eq_true (by first | assumption | omega) | exact decide_eq_false (by first | assumption | omega) | with_reducible rfl | exact (rfl : false = !true) | exact (rfl : true = !false)) (nb rfl) ?_
      refine ow_move rfl ?_
      refine jl_guardY rfl (by first | assumption | exact decide_eq_true rfl | exact decide_eq_true (by first | assumption | omega) | exact decide_eq_false (by first | assumption | omega) | with_reducible rfl | exact (rfl : false = !true) | exact (rfl : true = !false)) (nb rfl) ?_
      refine ow_move rfl ?_
      refine jl_guardY rfl (by first | assumption | exact decide_eq_true rfl | exact decide_eq_true (by first | assumption | omega) | exact decide_eq_false (by first | assumption | omega) | with_reducible rfl | exact (rfl : false = !true) | exact (rfl : true = !false)) (nb rfl) ?_
      refine ow_call0 rfl (hsame) ?_
      refine jl_guardY rfl (by first | assumption | exact decide_eq_true rfl | exact decide_eq_true (by first | assumption | omega) | exact decide_eq_false (by first | assumption | omega) | with_reducible rfl | exact (rfl : false = !true) | exact (rfl : true = !false)) (nb rfl) ?_
      refine ow_not rfl ?_
      refine jl_op ?_ (nb rfl)
      refine ow_pickF rfl (by first | assumption | exact decide_eq_true rfl | exact decide_eq_true (by first | assumption | omega) | exact decide_eq_false (by first | assumption | omega) | with_reducible rfl | exact (rfl : false = !true) | exact (rfl : true = !false)) rfl ?_
      refine jl_nil ?_
      refine jq_then ?_
      refine jc_cond rfl (fun h => by cases h) (fun _ => ?_)
      refine jc_skip ?_
      refine jq_then ?_
      refine jc_seq ?_
      refine jc_region ?_
      refine jl_op ?_ (nb rfl)
      refine ow_assign rfl ?_
      refine jl_nil ?_
      refine jq_then ?_
      refine jc_seq ?_
      refine jc_region ?_
      refine jl_op ?_ (nb rfl)
      refine ow_move rfl ?_
      refine jl_op ?_ (nb rfl)
      refine ow_move rfl ?_
      refine jl_op ?_ (nb rfl)
      refine ow_len rfl (fun hlen => ?_)
      refine jl_op ?_ (nb rfl)
      refine ow_add64 rfl rfl (by omega) ?_
      refine jl_op ?_ (nb rfl)
      refine ow_call0 rfl (Mod_c _ _ (by omega) hat) ?_
      refine jl_op ?_ (nb rfl)
      refine ow_assign rfl ?_
      refine jl_nil ?_
      refine jq_then ?_
      refine jc_seq ?_
      refine jc_seq ?_
      refine jc_region ?_
      refine jl_op ?_ (nb rfl)
      refine ow_assign rfl ?_
      refine jl_nil ?_
      refine jq_then ?_
      refine jc_block ?_
      refine jc_reset [(8, .cell (.list (A.map Tok.row))), (11, Str w), (15, Str ⟨#[]⟩), (16, In .i64 (at_.emod (((A.map Tok.row).length : Int) + 1))), (17, In .i64 0)] [] ?_ ⟨[], [], rfl⟩ ?_
      · (repeat (first | exact True.intro | refine ⟨rfl, ?_⟩))
      clear hsame hB3 hB2 eB hB
      generalize at_.emod (((A.map Tok.row).length : Int) + 1) = kk
      obtain ⟨B, hB, eB⟩ := px_spcT hw kk 0 hgood 1
      have hzz := spcT_size hw hw3 kk A 0
      have hB2 := Scan_c (spcT w kk 0 A)
      rw [scan_to (by omega) hB] at hB2
      have hB3 : Con Tryd.prog 8 [Str (spcT w kk 0 A)] [] (fun K => K (.tup [.cell (.list (B.map Tok.row)), In .i64 0, In .i64 0]) []) := hB2
      have hsame : Con Tryd.prog 10 [.cell (.list (A.map Tok.row)), .cell (.list (B.map Tok.row)), Bl false] [] (fun K => K (Bl true) []) := by
        have := Same_c A B false
        rwa [sameL_strip eB.symm] at this
      clear hB2 hB eB
      have hj0 : spcT w kk 0 (A.take 0) = ⟨#[]⟩ := by rw [List.take_zero]; unfold spcT; rfl
      refine jc_loopS [] (fun k : Nat => k ≤ A.length) (fun k => [(8, .cell (.list (A.map Tok.row))), (11, Str w), (15, Str (spcT w kk 0 (A.take k))), (16, In .i64 kk), (17, In .i64 (k : Int))]) (fun _ => []) (fun k => A.length - k) 0 (Nat.zero_le _) ?_ ?_ ?_
      · exact sub_end
      · rw [hj0]
        (repeat (first | exact True.intro | refine ⟨rfl, ?_⟩))
      · intro k hk
        refine jc_reset [(8, .cell (.list (A.map Tok.row))), (11, Str w), (15, Str (spcT w kk 0 (A.take k))), (16, In .i64 kk), (17, In .i64 (k : Int))] [] ?_ ⟨[], [], rfl⟩ ?_
        · (repeat (first | exact True.intro | refine ⟨rfl, ?_⟩))
        refine jc_seq ?_
        refine jc_seq ?_
        refine jc_region ?_
        refine jl_op ?_ (nb rfl)
        refine ow_move rfl ?_
        refine jl_op ?_ (nb rfl)
        refine ow_move rfl ?_
        refine jl_op ?_ (nb rfl)
        refine ow_len rfl (fun hlen => ?_)
        refine jl_op ?_ (nb rfl)
        refine ow_lss rfl rfl ?_
        refine jl_nil ?_
        refine jq_then ?_
        refine jc_condd rfl (fun hlt => ?_) (fun hge => ?_)
        · have hlt' : k < A.length := by omega
          have hW := Word_c A[k]
          have hs1 := spcT_size hw hw3 kk (A.take k) 0
          have hs0 := wsum_take A k
          rw [List.length_take] at hs1
          have hs2 := wsum_get A k hlt'
          have hs4 : (⟨#[32]⟩ : ByteArray).size = 1 := rfl
          have e : spcT w kk 0 (A.take (k + 1)) = spcT w kk 0 (A.take k) ++ blkT w kk k ++ wordT A[k] := by rw [List.take_succ_eq_append_getElem hlt', spcT_snoc, List.length_take, show 0 + min k A.length = k by omega]
          refine jc_skip ?_
          refine jq_then ?_
          refine jc_seq ?_
          refine jc_block ?_
          refine jc_seq ?_
          refine jc_seq ?_
          refine jc_region ?_
          refine jl_op ?_ (nb rfl)
          refine ow_move rfl ?_
          refine jl_op ?_ (nb rfl)
          refine ow_move rfl ?_
          refine jl_op ?_ (nb rfl)
          refine ow_eql rfl rfl ?_
          refine jl_nil ?_
          refine jq_then ?_
          refine jc_condd rfl (fun heq => ?_) (fun hne => ?_)
          · have hs5 : (spcT w kk 0 (A.take k) ++ w).size ≤ 8000 := by rw [ByteArray.size_append]; omega
            have hs6 : (spcT w kk 0 (A.take k) ++ w ++ ⟨#[32]⟩).size ≤ 8001 := by rw [ByteArray.size_append]; omega
            have e2 : spcT w kk 0 (A.take (k + 1)) = spcT w kk 0 (A.take k) ++ w ++ ⟨#[32]⟩ ++ wordT A[k] := by
              rw [e]
              unfold blkT
              rw [if_pos heq, ← ByteArray.append_assoc]
            refine jc_region ?_
            refine jl_op ?_ (nb rfl)
            refine ow_move rfl ?_
            refine jl_op ?_ (nb rfl)
            refine ow_move rfl ?_
            refine jl_op ?_ (nb rfl)
            refine ow_strcat rfl rfl (by omega) ?_
            refine jl_op ?_ (nb rfl)
            refine ow_assign rfl ?_
            refine jl_nil ?_
            refine jq_then ?_
            refine jc_region ?_
            refine jl_op ?_ (nb rfl)
            refine ow_move rfl ?_
            refine jl_op ?_ (nb rfl)
            refine ow_strcat rfl rfl (by omega) ?_
            refine jl_op ?_ (nb rfl)
            refine ow_move rfl ?_
            refine jl_op ?_ (nb rfl)
            refine ow_move rfl ?_
            refine jl_op ?_ (nb rfl)
            refine ow_indexAddrMapE rfl rfl (by omega) rfl rfl (nb rfl) ?_
            refine jl_op ?_ (nb rfl)
            refine ow_loadPlaceN rfl rfl rfl ?_
            refine jl_op ?_ (nb rfl)
            refine ow_call0 rfl (hW) ?_
            refine jl_op ?_ (nb rfl)
            refine ow_strcat rfl rfl (by omega) ?_
            refine jl_op ?_ (nb rfl)
            refine ow_assign rfl ?_
            refine jl_nil ?_
            refine jq_block ?_
            refine jq_then ?_
            refine jc_region ?_
            refine jl_op ?_ (nb rfl)
            refine ow_move rfl ?_
            refine jl_op ?_ (nb rfl)
            refine ow_add64 rfl rfl (by omega) ?_
            refine jl_op ?_ (nb rfl)
            refine ow_assign rfl ?_
            refine jl_nil ?_
            refine jq_againS (k + 1) (by omega) (by omega) ?_ ?_
            · exact sub_end
            · rw [e2]
              (repeat (first | exact True.intro | refine ⟨rfl, ?_⟩))
          · have hs6 : (spcT w kk 0 (A.take k) ++ ⟨#[32]⟩).size ≤ 8001 := by rw [ByteArray.size_append]; omega
            have e2 : spcT w kk 0 (A.take (k + 1)) = spcT w kk 0 (A.take k) ++ ⟨#[32]⟩ ++ wordT A[k] := by
              rw [e]
              unfold blkT
              rw [if_neg hne, nil_app]
            refine jc_skip ?_
            refine jq_then ?_
            refine jc_region ?_
            refine jl_op ?_ (nb rfl)
            refine ow_move rfl ?_
            refine jl_op ?_ (nb rfl)
            refine ow_strcat rfl rfl (by omega) ?_
            refine jl_op ?_ (nb rfl)
            refine ow_move rfl ?_
            refine jl_op ?_ (nb rfl)
            refine ow_move rfl ?_
            refine jl_op ?_ (nb rfl)
            refine ow_indexAddrMapE rfl rfl (by omega) rfl rfl (nb rfl) ?_
            refine jl_op ?_ (nb rfl)
            refine ow_loadPlaceN rfl rfl rfl ?_
            refine jl_op ?_ (nb rfl)
            refine ow_call0 rfl (hW) ?_
            refine jl_op ?_ (nb rfl)
            refine ow_strcat rfl rfl (by omega) ?_
            refine jl_op ?_ (nb rfl)
            refine ow_assign rfl ?_
            refine jl_nil ?_
            refine jq_block ?_
            refine jq_then ?_
            refine jc_region ?_
            refine jl_op ?_ (nb rfl)
            refine ow_move rfl ?_
            refine jl_op ?_ (nb rfl)
            refine ow_add64 rfl rfl (by omega) ?_
            refine jl_op ?_ (nb rfl)
            refine ow_assign rfl ?_
            refine jl_nil ?_
            refine jq_againS (k + 1) (by omega) (by omega) ?_ ?_
            · exact sub_end
            · rw [e2]
              (repeat (first | exact True.intro | refine ⟨rfl, ?_⟩))
        · obtain rfl : k = A.length := by omega
          rw [List.take_length]
          refine jc_exit ?_
          refine jq_then_exit ?_
          refine jq_then_exit ?_
          refine jq_block_exit ?_
          refine jq_then ?_
          refine jc_seq ?_
          refine jc_region ?_
          refine jl_op ?_ (nb rfl)
          refine ow_move rfl ?_
          refine jl_op ?_ (nb rfl)
          refine ow_call0 rfl (hB3) ?_
          refine jl_op ?_ (nb rfl)
          refine ow_move rfl ?_
          refine jl_op ?_ (nb rfl)
          refine ow_extract rfl rfl ?_
          refine jl_op ?_ (nb rfl)
          refine ow_extract rfl rfl ?_
          refine jl_op ?_ (nb rfl)
          refine ow_extract rfl rfl ?_
          refine jl_op ?_ (nb rfl)
          refine ow_assign rfl ?_
          refine jl_op ?_ (nb rfl)
          refine ow_assign rfl ?_
          refine jl_op ?_ (nb rfl)
          refine ow_assign rfl ?_
          refine jl_nil ?_
          refine jq_then ?_
          refine jc_seq ?_
          refine jc_region ?_
          refine jl_op ?_ (nb rfl)
          refine ow_move rfl ?_
          refine jl_op ?_ (nb rfl)
          refine ow_eql rfl rfl ?_
          refine jl_op ?_ (nb rfl)
          refine ow_move rfl ?_
          refine jl_guardY rfl (by first | assumption | exact decide_eq_true rfl | exact decide_eq_true (by first | assumption | omega) | exact decide_eq_false (by first | assumption | omega) | with_reducible rfl | exact (rfl : false = !true) | exact (rfl : true = !false)) (nb rfl) ?_
          refine ow_move rfl ?_
          refine jl_guardY rfl (by first | assumption | exact decide_eq_true rfl | exact decide_eq_true (by first | assumption | omega) | exact decide_eq_false (by first | assumption | omega) | with_reducible rfl | exact (rfl : false = !true) | exact (rfl : true = !false)) (nb rfl) ?_
          refine ow_eql rfl rfl ?_
          refine jl_op ?_ (nb rfl)
          refine ow_pickT rfl (by first | assumption | exact decide_eq_true rfl | exact decide_eq_true (by first | assumption | omega) | exact decide_eq_false (by first | assumption | omega) | with_reducible rfl | exact (rfl : false = !true) | exact (rfl : true = !false)) rfl ?_
          refine jl_op ?_ (nb rfl)
          refine ow_move rfl ?_
          refine jl_guardY rfl (by first | assumption | exact decide_eq_true rfl | exact decide_eq_true (by first | assumption | omega) | exact decide_eq_false (by first | assumption | omega) | with_reducible rfl | exact (rfl : false = !true) | exact (rfl : true = !false)) (nb rfl) ?_
          refine ow_move rfl ?_
          refine jl_guardY rfl (by first | assumption | exact decide_eq_true rfl | exact decide_eq_true (by first | assumption | omega) | exact decide_eq_false (by first | assumption | omega) | with_reducible rfl | exact (rfl : false = !true) | exact (rfl : true = !false)) (nb rfl) ?_
          refine ow_move rfl ?_
          refine jl_guardY rfl (by first | assumption | exact decide_eq_true rfl | exact decide_eq_true (by first | assumption | omega) | exact decide_eq_false (by first | assumption | omega) | with_reducible rfl | exact (rfl : false = !true) | exact (rfl : true = !false)) (nb rfl) ?_
          refine ow_call0 rfl (hsame) ?_
          refine jl_op ?_ (nb rfl)
          refine ow_pickT rfl (by first | assumption | exact decide_eq_true rfl | exact decide_eq_true (by first | assumption | omega) | exact decide_eq_false (by first | assumption | omega) | with_reducible rfl | exact (rfl : false = !true) | exact (rfl : true = !false)) rfl ?_
          refine jl_op ?_ (nb rfl)
          refine ow_move rfl ?_
          refine jl_guardY rfl (by first | assumption | exact decide_eq_true rfl | exact decide_eq_true (by first | assumption | omega) | exact decide_eq_false (by first | assumption | omega) | with_reducible rfl | exact (rfl : false = !true) | exact (rfl : true = !false)) (nb rfl) ?_
          refine ow_call0 rfl (awake_c) ?_
          refine jl_op ?_ (nb rfl)
          refine ow_pickT rfl (by first | assumption | exact decide_eq_true rfl | exact decide_eq_true (by first | assumption | omega) | exact decide_eq_false (by first | assumption | omega) | with_reducible rfl | exact (rfl : false = !true) | exact (rfl : true = !false)) rfl ?_
          refine jl_op ?_ (nb rfl)
          refine ow_assign rfl ?_
          refine jl_nil ?_
          refine jq_then ?_
          refine jc_ret ?_
          refine jq_ret1 rfl rfl [] rfl (fun K h => h)
  · refine jc_seq ?_
    refine jc_region ?_
    refine jl_op ?_ (nb rfl)
    refine ow_assign rfl ?_
    refine jl_nil ?_
    refine jq_then ?_
    refine jc_seq ?_
    refine jc_region ?_
    refine jl_op ?_ (nb rfl)
    refine ow_move rfl ?_
    refine jl_op ?_ (nb rfl)
    refine ow_call0 rfl (pieces_c _ hl) ?_
    refine jl_op ?_ (nb rfl)
    refine ow_assign rfl ?_
    refine jl_nil ?_
    refine jq_then ?_
    refine jc_seq ?_
    refine jc_region ?_
    refine jl_op ?_ (nb rfl)
    refine ow_move rfl ?_
    refine jl_op ?_ (nb rfl)
    refine ow_call0 rfl (hS) ?_
    refine jl_op ?_ (nb rfl)
    refine ow_move rfl ?_
    refine jl_op ?_ (nb rfl)
    refine ow_extract rfl rfl ?_
    refine jl_op ?_ (nb rfl)
    refine ow_extract rfl rfl ?_
    refine jl_op ?_ (nb rfl)
    refine ow_extract rfl rfl ?_
    refine jl_op ?_ (nb rfl)
    refine ow_assign rfl ?_
    refine jl_op ?_ (nb rfl)
    refine ow_assign rfl ?_
    refine jl_op ?_ (nb rfl)
    refine ow_assign rfl ?_
    refine jl_nil ?_
    refine jq_then ?_
    refine jc_seq ?_
    refine jc_seq ?_
    refine jc_region ?_
    refine jl_op ?_ (nb rfl)
    refine ow_move rfl ?_
    refine jl_op ?_ (nb rfl)
    refine ow_neq rfl rfl ?_
    refine jl_nil ?_
    refine jq_then ?_
    refine jc_condd rfl (fun _ => ?_) (fun h => absurd h0 h)
    refine jc_seq ?_
    refine jc_region ?_
    refine jl_op ?_ (nb rfl)
    refine ow_call0 rfl (awake_c) ?_
    refine jl_op ?_ (nb rfl)
    refine ow_assign rfl ?_
    refine jl_nil ?_
    refine jq_then ?_
    refine jc_ret ?_
    refine jq_then_ret ?_
    refine jq_ret1 rfl rfl [] rfl (fun K h => h)
end Go.Proofs.YtccojifhaoadbaaDoor
