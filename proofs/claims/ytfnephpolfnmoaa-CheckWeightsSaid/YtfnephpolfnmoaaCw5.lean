import Derived.Test.YtfnephpolfnmoaaCw4
namespace Go.Proofs.Ytfnephpolfnmoaa
open Go.Vc
attribute [local irreducible] JL JC JQ OpWp Con ConN

/-- timeboundref01.SameInts. -/
theorem SameInts_c (a b : List Int) : Con Try.prog 13 [.cell (.list (a.map Irow)), .cell (.list (b.map Irow))] [] (fun K => K (Bl (decide (a = b))) []) := by
  refine con_intro Try.func13 rfl rfl (Nat.le_of_ble_eq_true rfl) (fun c hc => ?_)
  refine jc_seq ?_
  refine jc_region ?_
  refine jl_op ?_ (nb rfl)
  refine ow_assign rfl ?_
  refine jl_nil ?_
  refine jq_then ?_
  refine jc_seq ?_
  refine jc_seq ?_
  refine jc_region ?_
  refine jl_op ?_ (nb rfl)
  refine ow_move rfl ?_
  refine jl_op ?_ (nb rfl)
  refine ow_len rfl (fun hlen => ?_)
  refine jl_op ?_ (nb rfl)
  refine ow_move rfl ?_
  refine jl_op ?_ (nb rfl)
  refine ow_len rfl (fun hlen => ?_)
  refine jl_op ?_ (nb rfl)
  refine ow_neq rfl rfl ?_
  refine jl_nil ?_
  refine jq_then ?_
  refine jc_condd rfl (fun hne => ?_) (fun heq => ?_)
  · refine jc_seq ?_
    refine jc_region ?_
    refine jl_op ?_ (nb rfl)
    refine ow_assign rfl ?_
    refine jl_nil ?_
    refine jq_then ?_
    refine jc_ret ?_
    refine jq_then_ret ?_
    refine jq_ret1 rfl rfl [] rfl (fun K h => ?_)
    rw [show decide (a = b) = false from decide_eq_false (fun e => hne (by rw [e]))] at h
    exact h
  refine jc_skip ?_
  refine jq_then ?_
  refine jc_seq ?_
  refine jc_seq ?_
  refine jc_region ?_
  refine jl_op ?_ (nb rfl)
  refine ow_assign rfl ?_
  refine jl_nil ?_
  refine jq_then ?_
  refine jc_block ?_
  have hab : a.length = b.length := by simp at heq; omega
  have hmax : a.length ≤ 9223372036854775807 := by simp at hlen; omega
  refine jc_loop [0, 1] (fun k => k ≤ a.length ∧ a.take k = b.take k) (fun k => [(5, In .i64 (k : Int))]) (fun _ => []) (fun k => a.length - k) 0 [] ⟨Nat.zero_le _, rfl⟩ rfl ?_ ?_
  · (repeat (first | exact True.intro | refine ⟨rfl, ?_⟩))
  · rintro k ⟨hk, hke⟩
    refine jc_seq ?_
    refine jc_seq ?_
    refine jc_region ?_
    refine jl_op ?_ (nb rfl)
    refine ow_move rfl ?_
    refine jl_op ?_ (nb rfl)
    refine ow_move rfl ?_
    refine jl_op ?_ (nb rfl)
    refine ow_len rfl (fun hlen => ?_)
    refine jl_op ?_ (nb rfl)
    refine ow_lss rfl rfl ?_
    refine jl_nil ?_
    refine jq_then ?_
    refine jc_condd rfl (fun hlt => ?_) (fun hge => ?_)
    · simp only [List.length_map, Int.ofNat_lt] at hlt
      have hltb : k < b.length := by omega
      refine jc_skip ?_
      refine jq_then ?_
      refine jc_seq ?_
      refine jc_block ?_
      refine jc_seq ?_
      refine jc_any rfl rfl (by kernel_rfl) (by kernel_rfl) ?_
      refine any_op (fun c => ow_move rfl ⟨rfl, List.Perm.refl _⟩) ?_
      refine any_op (fun c => ow_move rfl ⟨rfl, List.Perm.refl _⟩) ?_
      refine any_op (fun c => ow_indexAddrMapE rfl rfl (by omega) rfl rfl (nb rfl) ⟨rfl, List.Perm.refl _⟩) ?_
      refine any_op (fun c => ow_loadPlace rfl rfl ⟨rfl, List.Perm.refl _⟩) ?_
      refine any_op (fun c => ow_move rfl ⟨rfl, List.Perm.refl _⟩) ?_
      refine any_op (fun c => ow_move rfl ⟨rfl, List.Perm.refl _⟩) ?_
      refine any_op (fun c => ow_indexAddrMapE rfl rfl (by omega) rfl rfl (nb rfl) ⟨rfl, List.Perm.refl _⟩) ?_
      refine any_op (fun c => ow_loadPlace rfl rfl ⟨rfl, List.Perm.refl _⟩) ?_
      refine any_op (fun c => ow_neq rfl rfl ⟨rfl, List.Perm.refl _⟩) ?_
      refine any_nil ?_
      refine jq_then ?_
      refine jc_condd rfl (fun hne => ?_) (fun hee => ?_)
      · refine jc_seq ?_
        refine jc_region ?_
        refine jl_op ?_ (nb rfl)
        refine ow_assign rfl ?_
        refine jl_nil ?_
        refine jq_then ?_
        refine jc_ret ?_
        refine jq_block_ret ?_
        refine jq_then_ret ?_
        refine jq_then_ret ?_
        refine jq_block_ret ?_
        refine jq_then_ret ?_
        refine jq_ret1 rfl rfl [] rfl (fun K h => ?_)
        rw [show decide (a = b) = false from decide_eq_false (fun e => hne (by subst e; rfl))] at h
        exact h
      · have hee' : a[k] = b[k] := by omega
        refine jc_skip ?_
        refine jq_block ?_
        refine jq_then ?_
        refine jc_region ?_
        refine jl_op ?_ (nb rfl)
        refine ow_move rfl ?_
        refine jl_op ?_ (nb rfl)
        refine ow_add64 rfl rfl (by omega) ?_
        refine jl_op ?_ (nb rfl)
        refine ow_assign rfl ?_
        refine jl_nil ?_
        refine jq_again (k + 1) [] ⟨hlt, by rw [List.take_succ_eq_append_getElem hlt, List.take_succ_eq_append_getElem hltb, hke, hee']⟩ (by omega) rfl ?_
        (repeat (first | exact True.intro | refine ⟨rfl, ?_⟩))
    · simp only [List.length_map, Int.ofNat_lt] at hge
      rw [List.take_of_length_le (by omega), List.take_of_length_le (by omega)] at hke
      subst hke
      refine jc_exit ?_
      refine jq_then_exit ?_
      refine jq_then_exit ?_
      refine jq_block_exit ?_
      refine jq_then ?_
      refine jc_seq ?_
      refine jc_region ?_
      refine jl_op ?_ (nb rfl)
      refine ow_assign rfl ?_
      refine jl_nil ?_
      refine jq_then ?_
      refine jc_ret ?_
      refine jq_ret1 rfl rfl [] rfl (fun K h => by simpa using h)

/-! Decks -/
/-- A deck: the list, and some place in it. -/
abbrev DkRow (L : List Int) : List C := [.list (L.map Irow), .ex (fun i : Fin (L.length + 1) => .val (.int .i64 (i.1 : Int)))]
abbrev Dk (b : Nat) (L : List Int) : Ch := .blk b 53 (DkRow L)
abbrev Ptr (b : Nat) : S := .cell (.val (.pointer (some ⟨b, 0, none⟩)))

theorem Few_c (a : List Int) : Con Try.prog 4 [.cell (.list (a.map Irow))] [] (fun K => K (Bl (decide (a.length ≤ 400))) []) := by
  refine con_intro Try.func4 rfl rfl (Nat.le_of_ble_eq_true rfl) (fun c hc => ?_)
  refine jc_seq ?_
  refine jc_region ?_
  refine jl_op ?_ (nb rfl)
  refine ow_assign rfl ?_
  refine jl_nil ?_
  refine jq_then ?_
  refine jc_seq ?_
  refine jc_region ?_
  refine jl_op ?_ (nb rfl)
  refine ow_move rfl ?_
  refine jl_op ?_ (nb rfl)
  refine ow_len rfl (fun hlen => ?_)
  refine jl_op ?_ (nb rfl)
  refine ow_leq rfl rfl ?_
  refine jl_op ?_ (nb rfl)
  refine ow_assign rfl ?_
  refine jl_nil ?_
  refine jq_then ?_
  refine jc_ret ?_
  refine jq_ret1 rfl rfl [] rfl (fun K h => ?_)
  have e : decide (a.length ≤ 400) = decide (((a.map Irow).length : Int) ≤ 400) := by simp; omega
  rw [e] at h
  exact h

theorem Mod_c (n k : Int) (hk : 1 ≤ k ∧ k ≤ 1000000000) (_hn : -9223372036854775808 ≤ n ∧ n ≤ 9223372036854775807) : Con Try.prog 22 [In .i64 n, In .i64 k] [] (fun K => K (In .i64 (n.emod k)) []) := by
  have h1 := Int.tmod_lt_of_pos n (show 0 < k by omega)
  have h2 : -k < n.tmod k := by
    have := Int.tmod_lt_of_pos (-n) (show 0 < k by omega)
    rw [Int.neg_tmod] at this
    omega
  have e : (n.tmod k + k).tmod k = n.emod k := by
    rw [Int.tmod_eq_emod_of_nonneg (by omega), Int.add_emod_right, Int.tmod_eq_emod]
    split
    · rw [show (n % k - ((0 : Nat) : Int)) = n % k by omega]
      exact Int.emod_emod_of_dvd n (Int.dvd_refl k)
    · rw [Int.sub_emod, show ((k.natAbs : Int)) = k by omega, Int.emod_self, Int.sub_zero, Int.emod_emod_of_dvd _ (Int.dvd_refl k)]
      exact Int.emod_emod_of_dvd n (Int.dvd_refl k)
  refine con_intro Try.func22 rfl rfl (Nat.le_of_ble_eq_true rfl) (fun c hc => ?_)
  refine jc_seq ?_
  refine jc_region ?_
  refine jl_op ?_ (nb rfl)
  refine ow_assign rfl ?_
  refine jl_nil ?_
  refine jq_then ?_
  refine jc_seq ?_
  refine jc_region ?_
  refine jl_op ?_ (nb rfl)
  refine ow_move rfl ?_
  refine jl_op ?_ (nb rfl)
  refine ow_move rfl ?_
  refine jl_op ?_ (nb rfl)
  refine ow_rem rfl rfl (by omega) ?_
  refine jl_op ?_ (nb rfl)
  refine ow_move rfl ?_
  refine jl_op ?_ (nb rfl)
  refine ow_add64 rfl rfl (by omega) ?_
  refine jl_op ?_ (nb rfl)
  refine ow_move rfl ?_
  refine jl_op ?_ (nb rfl)
  refine ow_rem rfl rfl (by omega) ?_
  refine jl_op ?_ (nb rfl)
  refine ow_assign rfl ?_
  refine jl_nil ?_
  refine jq_then ?_
  refine jc_ret ?_
  refine jq_ret1 rfl rfl [] rfl (fun K h => by rw [← e] at h; exact h)

theorem New_c (L : List Int) : Con Try.prog 6 [.cell (.list (L.map Irow))] [] (fun K => ∀ b, K (Ptr b) [Dk b L]) := by
  refine con_intro Try.func6 rfl rfl (Nat.le_of_ble_eq_true rfl) (fun c hc => ?_)
  refine jc_seq ?_
  refine jc_region ?_
  refine jl_op ?_ (nb rfl)
  refine ow_assign rfl ?_
  refine jl_nil ?_
  refine jq_then ?_
  refine jc_seq ?_
  refine jc_region ?_
  refine jl_op ?_ (nb rfl)
  refine ow_move rfl ?_
  refine jl_op ?_ (nb rfl)
  refine ow_build rfl rfl rfl rfl rfl ?_
  refine jl_op ?_ (nb rfl)
  refine ow_box rfl (fun bx => ?_)
  refine jl_op ?_ (nb rfl)
  refine ow_assign rfl ?_
  refine jl_nil ?_
  refine jq_then ?_
  refine jc_ret ?_
  refine jq_row 0 (DkRow L) rfl (.cons (.refl _) (.cons (.ex (fun i : Fin (L.length + 1) => .val (.int .i64 (i.1 : Int))) ⟨0, by omega⟩) .nil)) ?_
  refine jq_ret1 rfl rfl [0] rfl (fun K h => h bx)

/-- A number from 0 to n - 1; 0 where n is less. -/
abbrev Upto (n : Int) : S := .ex (fun i : {i : Int // 0 ≤ i ∧ (i < n ∨ i = 0)} => In .i64 i.1)
theorem Next_c (L : List Int) (b : Nat) (n : Int) (hL : ∀ x ∈ L, -9223372036854775808 ≤ x ∧ x ≤ 9223372036854775807) (hlen : L.length ≤ 400) (hn : n ≤ 1000000000) :
    Con Try.prog 18 [Ptr b, In .i64 n] [Dk b L] (fun K => K (Upto n) [Dk b L]) := by
  refine con_intro Try.func18 rfl rfl (Nat.le_of_ble_eq_true rfl) (fun c hc => ?_)
  refine jc_open 0 rfl (.there .here) (fun i => ?_)
  obtain ⟨i, hi⟩ := i
  dsimp only
  have fin : ∀ k : Nat, k ≤ L.length → RowLe [.list (L.map Irow), .val (.int .i64 (k : Int))] (DkRow L) := fun k hk => .cons (.refl _) (.cons (.ex (fun i : Fin (L.length + 1) => .val (.int .i64 (i.1 : Int))) ⟨k, by omega⟩) .nil)
  have up : ∀ k, 0 ≤ k ∧ (k < n ∨ k = 0) → SLe (In .i64 k) (Upto n) := fun k hk => SLe.ex (fun i : {i : Int // 0 ≤ i ∧ (i < n ∨ i = 0)} => In .i64 i.1) ⟨k, hk⟩
  by_cases hge : (((L.map Irow).length : Nat) : Int) ≤ (i : Int)
  · refine jc_seq ?_
    refine jc_region ?_
    refine jl_op ?_ (nb rfl)
    refine ow_assign rfl ?_
    refine jl_nil ?_
    refine jq_then ?_
    refine jc_seq ?_
    refine jc_seq ?_
    refine jc_any rfl rfl (by kernel_rfl) (by kernel_rfl) ?_
    refine any_op (fun c => ow_move rfl ⟨rfl, List.Perm.refl _⟩) ?_
    refine any_op (fun c => ow_nilCheck rfl ⟨rfl, List.Perm.refl _⟩) ?_
    refine any_op (fun c => ow_fieldAddr rfl rfl rfl (nb rfl) ⟨rfl, List.Perm.refl _⟩) ?_
    refine any_op (fun c => ow_load 0 rfl rfl rfl rfl ⟨rfl, List.Perm.refl _⟩) ?_
    refine any_op (fun c => ow_move rfl ⟨rfl, List.Perm.refl _⟩) ?_
    refine any_op (fun c => ow_nilCheck rfl ⟨rfl, List.Perm.refl _⟩) ?_
    refine any_op (fun c => ow_fieldAddr rfl rfl rfl (nb rfl) ⟨rfl, List.Perm.refl _⟩) ?_
    refine any_op (fun c => ow_load 0 rfl rfl rfl rfl ⟨rfl, List.Perm.refl _⟩) ?_
    refine any_op (fun c => ow_len rfl (fun hlen => ⟨rfl, List.Perm.refl _⟩)) ?_
    refine any_op (fun c => ow_geq rfl rfl ⟨rfl, List.Perm.refl _⟩) ?_
    refine any_op (fun c => ow_move rfl ⟨rfl, List.Perm.refl _⟩) ?_
    refine any_guardN rfl (by first | assumption | exact decide_eq_true (by first | assumption | omega) | exact decide_eq_false (by first | assumption | omega) | with_reducible rfl) ?_
    refine any_guardN rfl (by first | assumption | exact decide_eq_true (by first | assumption | omega) | exact decide_eq_false (by first | assumption | omega) | with_reducible rfl) ?_
    refine any_op (fun c => ow_pickT rfl (by first | assumption | exact decide_eq_true (by first | assumption | omega) | exact decide_eq_false (by first | assumption | omega) | with_reducible rfl) rfl ⟨rfl, List.Perm.refl _⟩) ?_
    refine any_nil ?_
    refine jq_then ?_
    refine jc_cond rfl (fun _ => ?_) (fun h => by cases h)
    refine jc_seq ?_
    refine jc_region ?_
    refine jl_op ?_ (nb rfl)
    refine ow_assign rfl ?_
    refine jl_nil ?_
    refine jq_then ?_
    refine jc_ret ?_
    refine jq_then_ret ?_
    refine jq_row 0 _ rfl (fin i (by omega)) (jq_sle 4 rfl (up 0 (by omega)) ?_)
    refine jq_ret1 rfl rfl [0] rfl (fun K h => h)
  · by_cases hn1 : n ≤ 1
    · refine jc_seq ?_
      refine jc_region ?_
      refine jl_op ?_ (nb rfl)
      refine ow_assign rfl ?_
      refine jl_nil ?_
      refine jq_then ?_
      refine jc_seq ?_
      refine jc_seq ?_
      refine jc_any rfl rfl (by kernel_rfl) (by kernel_rfl) ?_
      refine any_op (fun c => ow_move rfl ⟨rfl, List.Perm.refl _⟩) ?_
      refine any_op (fun c => ow_nilCheck rfl ⟨rfl, List.Perm.refl _⟩) ?_
      refine any_op (fun c => ow_fieldAddr rfl rfl rfl (nb rfl) ⟨rfl, List.Perm.refl _⟩) ?_
      refine any_op (fun c => ow_load 0 rfl rfl rfl rfl ⟨rfl, List.Perm.refl _⟩) ?_
      refine any_op (fun c => ow_move rfl ⟨rfl, List.Perm.refl _⟩) ?_
      refine any_op (fun c => ow_nilCheck rfl ⟨rfl, List.Perm.refl _⟩) ?_
      refine any_op (fun c => ow_fieldAddr rfl rfl rfl (nb rfl) ⟨rfl, List.Perm.refl _⟩) ?_
      refine any_op (fun c => ow_load 0 rfl rfl rfl rfl ⟨rfl, List.Perm.refl _⟩) ?_
      refine any_op (fun c => ow_len rfl (fun hlen => ⟨rfl, List.Perm.refl _⟩)) ?_
      refine any_op (fun c => ow_geq rfl rfl ⟨rfl, List.Perm.refl _⟩) ?_
      refine any_op (fun c => ow_move rfl ⟨rfl, List.Perm.refl _⟩) ?_
      refine any_guardY rfl (by first | assumption | exact decide_eq_true (by first | assumption | omega) | exact decide_eq_false (by first | assumption | omega) | with_reducible rfl) (fun c => ow_move rfl ⟨rfl, List.Perm.refl _⟩) ?_
      refine any_guardY rfl (by first | assumption | exact decide_eq_true (by first | assumption | omega) | exact decide_eq_false (by first | assumption | omega) | with_reducible rfl) (fun c => ow_leq rfl rfl ⟨rfl, List.Perm.refl _⟩) ?_
      refine any_op (fun c => ow_pickF rfl (by first | assumption | exact decide_eq_true (by first | assumption | omega) | exact decide_eq_false (by first | assumption | omega) | with_reducible rfl) rfl ⟨rfl, List.Perm.refl _⟩) ?_
      refine any_nil ?_
      refine jq_then ?_
      refine jc_condd rfl (fun _ => ?_) (fun h => absurd hn1 h)
      refine jc_seq ?_
      refine jc_region ?_
      refine jl_op ?_ (nb rfl)
      refine ow_assign rfl ?_
      refine jl_nil ?_
      refine jq_then ?_
      refine jc_ret ?_
      refine jq_then_ret ?_
      refine jq_row 0 _ rfl (fin i (by omega)) (jq_sle 4 rfl (up 0 (by omega)) ?_)
      refine jq_ret1 rfl rfl [0] rfl (fun K h => h)
    · have hlt : i < L.length := by simp at hge; omega
      have hlt2 : ((i : Int) + 1 - 1).toNat < L.length := by omega
      have hr := hL L[((i : Int) + 1 - 1).toNat] (List.getElem_mem hlt2)
      have hm := Int.emod_nonneg L[((i : Int) + 1 - 1).toNat] (show n ≠ 0 by omega)
      have hm2 := Int.emod_lt_of_pos L[((i : Int) + 1 - 1).toNat] (show 0 < n by omega)
      refine jc_seq ?_
      refine jc_region ?_
      refine jl_op ?_ (nb rfl)
      refine ow_assign rfl ?_
      refine jl_nil ?_
      refine jq_then ?_
      refine jc_seq ?_
      refine jc_seq ?_
      refine jc_any rfl rfl (by kernel_rfl) (by kernel_rfl) ?_
      refine any_op (fun c => ow_move rfl ⟨rfl, List.Perm.refl _⟩) ?_
      refine any_op (fun c => ow_nilCheck rfl ⟨rfl, List.Perm.refl _⟩) ?_
      refine any_op (fun c => ow_fieldAddr rfl rfl rfl (nb rfl) ⟨rfl, List.Perm.refl _⟩) ?_
      refine any_op (fun c => ow_load 0 rfl rfl rfl rfl ⟨rfl, List.Perm.refl _⟩) ?_
      refine any_op (fun c => ow_move rfl ⟨rfl, List.Perm.refl _⟩) ?_
      refine any_op (fun c => ow_nilCheck rfl ⟨rfl, List.Perm.refl _⟩) ?_
      refine any_op (fun c => ow_fieldAddr rfl rfl rfl (nb rfl) ⟨rfl, List.Perm.refl _⟩) ?_
      refine any_op (fun c => ow_load 0 rfl rfl rfl rfl ⟨rfl, List.Perm.refl _⟩) ?_
      refine any_op (fun c => ow_len rfl (fun hlen => ⟨rfl, List.Perm.refl _⟩)) ?_
      refine any_op (fun c => ow_geq rfl rfl ⟨rfl, List.Perm.refl _⟩) ?_
      refine any_op (fun c => ow_move rfl ⟨rfl, List.Perm.refl _⟩) ?_
      refine any_guardY rfl (by first | assumption | exact decide_eq_true (by first | assumption | omega) | exact decide_eq_false (by first | assumption | omega) | with_reducible rfl) (fun c => ow_move rfl ⟨rfl, List.Perm.refl _⟩) ?_
      refine any_guardY rfl (by first | assumption | exact decide_eq_true (by first | assumption | omega) | exact decide_eq_false (by first | assumption | omega) | with_reducible rfl) (fun c => ow_leq rfl rfl ⟨rfl, List.Perm.refl _⟩) ?_
      refine any_op (fun c => ow_pickF rfl (by first | assumption | exact decide_eq_true (by first | assumption | omega) | exact decide_eq_false (by first | assumption | omega) | with_reducible rfl) rfl ⟨rfl, List.Perm.refl _⟩) ?_
      refine any_nil ?_
      refine jq_then ?_
      refine jc_condd rfl (fun h => absurd h hn1) (fun _ => ?_)
      refine jc_skip ?_
      refine jq_then ?_
      refine jc_seq ?_
      refine jc_region ?_
      refine jl_op ?_ (nb rfl)
      refine ow_move rfl ?_
      refine jl_op ?_ (nb rfl)
      refine ow_nilCheck rfl ?_
      refine jl_op ?_ (nb rfl)
      refine ow_fieldAddr rfl rfl rfl (nb rfl) ?_
      refine jl_op ?_ (nb rfl)
      refine ow_load 0 rfl rfl rfl rfl ?_
      refine jl_op ?_ (nb rfl)
      refine ow_add64 rfl rfl (by omega) ?_
      refine jl_op ?_ (nb rfl)
      refine ow_nilCheck rfl ?_
      refine jl_op ?_ (nb rfl)
      refine ow_fieldAddr rfl rfl rfl (nb rfl) ?_
      refine jl_op0 ?_
      refine ow_store1 0 rfl rfl rfl rfl (nb rfl) ?_
      refine jl_nil ?_
      refine jq_then ?_
      refine jc_seq ?_
      refine jc_any rfl rfl (by kernel_rfl) (by kernel_rfl) ?_
      refine any_op (fun c => ow_move rfl ⟨rfl, List.Perm.refl _⟩) ?_
      refine any_op (fun c => ow_nilCheck rfl ⟨rfl, List.Perm.refl _⟩) ?_
      refine any_op (fun c => ow_fieldAddr rfl rfl rfl (nb rfl) ⟨rfl, List.Perm.refl _⟩) ?_
      refine any_op (fun c => ow_load 0 rfl rfl rfl rfl ⟨rfl, List.Perm.refl _⟩) ?_
      refine any_op (fun c => ow_move rfl ⟨rfl, List.Perm.refl _⟩) ?_
      refine any_op (fun c => ow_nilCheck rfl ⟨rfl, List.Perm.refl _⟩) ?_
      refine any_op (fun c => ow_fieldAddr rfl rfl rfl (nb rfl) ⟨rfl, List.Perm.refl _⟩) ?_
      refine any_op (fun c => ow_load 0 rfl rfl rfl rfl ⟨rfl, List.Perm.refl _⟩) ?_
      refine any_op (fun c => ow_sub64 rfl rfl (by omega) ⟨rfl, List.Perm.refl _⟩) ?_
      refine any_op (fun c => ow_indexAddrMapI rfl rfl (by omega) (by omega) rfl rfl (nb rfl) ⟨rfl, List.Perm.refl _⟩) ?_
      refine any_op (fun c => ow_loadPlace rfl rfl ⟨rfl, List.Perm.refl _⟩) ?_
      refine any_op (fun c => ow_move rfl ⟨rfl, List.Perm.refl _⟩) ?_
      refine any_op (fun c => ow_call0 rfl (Mod_c _ _ (by omega) hr) ⟨rfl, List.Perm.refl _⟩) ?_
      refine any_op (fun c => ow_assign rfl ⟨rfl, List.Perm.refl _⟩) ?_
      refine any_nil ?_
      refine jq_then ?_
      refine jc_ret ?_
      refine jq_row 0 _ rfl (fin (i + 1) (by omega)) (jq_sle 4 rfl (up _ ⟨hm, .inl hm2⟩) ?_)
      refine jq_ret1 rfl rfl [0] rfl (fun K h => h)

theorem Num_c (n : Int) : Con Try.prog 8 [In .i64 n] [] (fun K => K (.row (Ex.row' ⟨1, n, ⟨#[]⟩, 0, []⟩)) []) := by
  refine con_intro Try.func8 rfl rfl (Nat.le_of_ble_eq_true rfl) (fun c hc => ?_)
  refine jc_seq ?_
  refine jc_region ?_
  refine jl_op ?_ (nb rfl)
  refine ow_alloc rfl rfl (fun bl => ?_)
  refine jl_nil ?_
  refine jq_then ?_
  refine jc_seq ?_
  refine jc_region ?_
  refine jl_op ?_ (nb rfl)
  refine ow_move rfl ?_
  refine jl_op ?_ (nb rfl)
  refine ow_build rfl rfl rfl rfl rfl ?_
  refine jl_op0 ?_
  refine ow_storeAll 0 rfl rfl rfl rfl rfl rfl ?_
  refine jl_nil ?_
  refine jq_then ?_
  refine jc_ret ?_
  refine jq_row 0 (Ex.row' ⟨1, n, ⟨#[]⟩, 0, []⟩) rfl ?_ ?_
  · (repeat (first | exact RowLe.nil | refine RowLe.cons (CLe.refl _) ?_ | refine RowLe.cons CLe.nil ?_))
  · refine jq_retRow rfl rfl rfl rfl 0 rfl [] rfl (fun K h => h)
theorem Name_c (s : ByteArray) : Con Try.prog 11 [Str s] [] (fun K => K (.row (Ex.row' ⟨2, 0, s, 0, []⟩)) []) := by
  refine con_intro Try.func11 rfl rfl (Nat.le_of_ble_eq_true rfl) (fun c hc => ?_)
  refine jc_seq ?_
  refine jc_region ?_
  refine jl_op ?_ (nb rfl)
  refine ow_alloc rfl rfl (fun bl => ?_)
  refine jl_nil ?_
  refine jq_then ?_
  refine jc_seq ?_
  refine jc_region ?_
  refine jl_op ?_ (nb rfl)
  refine ow_move rfl ?_
  refine jl_op ?_ (nb rfl)
  refine ow_build rfl rfl rfl rfl rfl ?_
  refine jl_op0 ?_
  refine ow_storeAll 0 rfl rfl rfl rfl rfl rfl ?_
  refine jl_nil ?_
  refine jq_then ?_
  refine jc_ret ?_
  refine jq_row 0 (Ex.row' ⟨2, 0, s, 0, []⟩) rfl ?_ ?_
  · (repeat (first | exact RowLe.nil | refine RowLe.cons (CLe.refl _) ?_ | refine RowLe.cons CLe.nil ?_))
  · refine jq_retRow rfl rfl rfl rfl 0 rfl [] rfl (fun K h => h)
theorem Bin_c (o : Int) (a b : Ex) : Con Try.prog 12 [In .i64 o, .row a.row', .row b.row'] [] (fun K => K (.row (Ex.row' ⟨4, 0, ⟨#[]⟩, o, [a, b]⟩)) []) := by
  refine con_intro Try.func12 rfl rfl (Nat.le_of_ble_eq_true rfl) (fun c hc => ?_)
  refine jc_seq ?_
  refine jc_region ?_
  refine jl_op ?_ (nb rfl)
  refine ow_box rfl (fun bx => ?_)
  refine jl_op ?_ (nb rfl)
  refine ow_box rfl (fun bx => ?_)
  refine jl_op ?_ (nb rfl)
  refine ow_alloc rfl rfl (fun bl => ?_)
  refine jl_nil ?_
  refine jq_then ?_
  refine jc_seq ?_
  refine jc_region ?_
  refine jl_op ?_ (nb rfl)
  refine ow_move rfl ?_
  refine jl_op ?_ (nb rfl)
  refine ow_loadAll 2 rfl rfl rfl rfl ?_
  refine jl_op ?_ (nb rfl)
  refine ow_loadAll 1 rfl rfl rfl rfl ?_
  refine jl_op ?_ (nb rfl)
  refine ow_buildSlice rfl rfl (nb rfl) rfl rfl (nb rfl) ?_
  refine jl_op ?_ (nb rfl)
  refine ow_build rfl rfl rfl rfl rfl ?_
  refine jl_op0 ?_
  refine ow_storeAll 0 rfl rfl rfl rfl rfl rfl ?_
  refine jl_nil ?_
  refine jq_then ?_
  refine jc_ret ?_
  refine jq_row 0 (Ex.row' ⟨4, 0, ⟨#[]⟩, o, [a, b]⟩) rfl ?_ ?_
  · (repeat (first | exact RowLe.nil | refine RowLe.cons (CLe.refl _) ?_ | refine RowLe.cons CLe.nil ?_))
    exact RowLe.cons (CLe.eq (by simp [Ex.row_eq, Ex.args])) .nil
  · refine jq_retRow rfl rfl rfl rfl 0 rfl [] rfl (fun K h => h)
end Go.Proofs.Ytfnephpolfnmoaa
