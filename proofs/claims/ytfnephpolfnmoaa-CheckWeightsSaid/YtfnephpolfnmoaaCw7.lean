import Derived.Test.YtfnephpolfnmoaaCw6
namespace Go.Proofs.Ytfnephpolfnmoaa
open Go.Vc
attribute [local irreducible] JL JC JQ OpWp Con ConN

section
variable {L : List Int} {bm bd : Nat} {V A LS : List ByteArray} {lv : Value} {Sh : List Shd} {hs : ByteArray} {lab st il : Int}

theorem usable_c (hA : A.length ≤ 100) (hSh : Sh.length ≤ 100) :
    Con Try.prog 31 [Ptr bm] [Mk bm bd V lv A Sh hs lab st il] (fun K => ∀ l : List ByteArray, l.length ≤ 200 → K (.cell (.list (l.map Srow))) [Mk bm bd V lv A Sh hs lab st il]) := by
  refine con_intro Try.func31 rfl rfl (Nat.le_of_ble_eq_true rfl) (fun c hc => ?_)
  refine jc_seq ?_
  refine jc_region ?_
  refine jl_op ?_ (nb rfl)
  refine ow_assign rfl ?_
  refine jl_nil ?_
  refine jq_then ?_
  refine jc_seq ?_
  refine jc_region ?_
  refine jl_op (ow_buildSliceOwn rfl rfl (nb rfl) rfl rfl (nb rfl) (fun v0 hv0 fv0 => ?_)) (nb rfl)
  refine jl_op ?_ (nb rfl)
  refine ow_move rfl ?_
  refine jl_op ?_ (nb rfl)
  refine ow_nilCheck rfl ?_
  refine jl_op ?_ (nb rfl)
  refine ow_fieldAddr rfl rfl rfl (nb rfl) ?_
  refine jl_op ?_ (nb rfl)
  refine ow_load 1 rfl rfl rfl rfl ?_
  refine jl_op (ow_appendM (f := Srow) (l1 := []) (l2 := A) 0 rfl rfl rfl rfl rfl rfl rfl (fun _ => rfl) (by show (0 + _) * 16 ≤ _; omega) (by simp; omega) (fun v1 hv1 => ?_)) (nb rfl)
  refine jl_op ?_ (nb rfl)
  refine ow_assign rfl ?_
  refine jl_nil ?_
  refine jq_then ?_
  refine jc_seq ?_
  refine jc_seq ?_
  refine jc_region ?_
  refine jl_op ?_ (nb rfl)
  refine ow_assign rfl ?_
  refine jl_nil ?_
  refine jq_then ?_
  refine jc_block ?_
  refine jc_loop (ι := Nat × Value × List ByteArray) [0] (fun i => i.1 ≤ Sh.length ∧ i.2.2.length ≤ A.length + i.1) (fun i => [(3, .cell (.val i.2.1)), (4, In .i64 (i.1 : Int))]) (fun i => [.own i.2.1 9 1 (i.2.2.map Srow), Mk bm bd V lv A Sh hs lab st il]) (fun i => Sh.length - i.1) (0, v1, A) [0, 0] ⟨Nat.zero_le _, by simp⟩ rfl ?_ ?_
  · (repeat (first | exact True.intro | refine ⟨rfl, ?_⟩))
  · rintro ⟨k, v, l⟩ ⟨hk, hl⟩
    dsimp only at hk hl ⊢
    refine jc_seq ?_
    refine jc_seq ?_
    refine jc_region ?_
    refine jl_op ?_ (nb rfl)
    refine ow_move rfl ?_
    refine jl_op ?_ (nb rfl)
    refine ow_move rfl ?_
    refine jl_op ?_ (nb rfl)
    refine ow_nilCheck rfl ?_
    refine jl_op ?_ (nb rfl)
    refine ow_fieldAddr rfl rfl rfl (nb rfl) ?_
    refine jl_op ?_ (nb rfl)
    refine ow_load 1 rfl rfl rfl rfl ?_
    refine jl_op ?_ (nb rfl)
    refine ow_len rfl (fun hlen => ?_)
    refine jl_op ?_ (nb rfl)
    refine ow_lss rfl rfl ?_
    refine jl_nil ?_
    refine jq_then ?_
    refine jc_condd rfl (fun hlt => ?_) (fun hge => ?_)
    · simp only [List.length_map, Int.ofNat_lt] at hlt
      refine jc_skip ?_
      refine jq_then ?_
      refine jc_seq ?_
      refine jc_block ?_
      refine jc_seq ?_
      refine jc_any rfl rfl (by kernel_rfl) (by kernel_rfl) ?_
      refine any_op (fun c => ow_move rfl ⟨rfl, List.Perm.refl _⟩) ?_
      refine any_op (fun c => ow_nilCheck rfl ⟨rfl, List.Perm.refl _⟩) ?_
      refine any_op (fun c => ow_fieldAddr rfl rfl rfl (nb rfl) ⟨rfl, List.Perm.refl _⟩) ?_
      refine any_op (fun c => ow_load 1 rfl rfl rfl rfl ⟨rfl, List.Perm.refl _⟩) ?_
      refine any_op (fun c => ow_move rfl ⟨rfl, List.Perm.refl _⟩) ?_
      refine any_op (fun c => ow_indexAddrMapE rfl rfl (by omega) rfl rfl (nb rfl) ⟨rfl, List.Perm.refl _⟩) ?_
      refine any_op (fun c => ow_fieldAddrPlace rfl rfl rfl (nb rfl) rfl (nb rfl) ⟨rfl, List.Perm.refl _⟩) ?_
      refine any_op (fun c => ow_loadPlace rfl rfl ⟨rfl, List.Perm.refl _⟩) ?_
      refine any_op (fun c => ow_move rfl ⟨rfl, List.Perm.refl _⟩) ?_
      refine any_op (fun c => ow_nilCheck rfl ⟨rfl, List.Perm.refl _⟩) ?_
      refine any_op (fun c => ow_fieldAddr rfl rfl rfl (nb rfl) ⟨rfl, List.Perm.refl _⟩) ?_
      refine any_op (fun c => ow_load 1 rfl rfl rfl rfl ⟨rfl, List.Perm.refl _⟩) ?_
      refine any_op (fun c => ow_streql rfl rfl ⟨rfl, List.Perm.refl _⟩) ?_
      refine any_nil ?_
      refine jq_then ?_
      refine jc_condd rfl (fun he => ?_) (fun hne => ?_)
      · refine jc_region ?_
        refine jl_op ?_ (nb rfl)
        refine ow_move rfl ?_
        refine jl_op ?_ (nb rfl)
        refine ow_move rfl ?_
        refine jl_op ?_ (nb rfl)
        refine ow_nilCheck rfl ?_
        refine jl_op ?_ (nb rfl)
        refine ow_fieldAddr rfl rfl rfl (nb rfl) ?_
        refine jl_op ?_ (nb rfl)
        refine ow_load 1 rfl rfl rfl rfl ?_
        refine jl_op ?_ (nb rfl)
        refine ow_move rfl ?_
        refine jl_op ?_ (nb rfl)
        refine ow_indexAddrMapE rfl rfl (by omega) rfl rfl (nb rfl) ?_
        refine jl_op ?_ (nb rfl)
        refine ow_fieldAddrPlace rfl rfl rfl (nb rfl) rfl (nb rfl) ?_
        refine jl_op ?_ (nb rfl)
        refine ow_fieldAddrPlace rfl rfl rfl (nb rfl) rfl (nb rfl) ?_
        refine jl_op ?_ (nb rfl)
        refine ow_loadPlace rfl rfl ?_
        refine jl_op ?_ (nb rfl)
        refine ow_buildSlice rfl rfl (nb rfl) rfl rfl (nb rfl) ?_
        refine jl_op (ow_append1 0 (Sh[k].1) rfl rfl rfl rfl rfl rfl rfl (fun _ => rfl) (by show (_ + _) * 16 ≤ _; first | omega | (simp only [List.length_append]; omega)) (by first | omega | (simp only [List.length_append]; omega)) (fun v2 hv2 => ?_)) (nb rfl)
        refine jl_op ?_ (nb rfl)
        refine ow_assign rfl ?_
        refine jl_nil ?_
        refine jq_block ?_
        refine jq_then ?_
        refine jc_region ?_
        refine jl_op ?_ (nb rfl)
        refine ow_move rfl ?_
        refine jl_op ?_ (nb rfl)
        refine ow_add64 rfl rfl (by omega) ?_
        refine jl_op ?_ (nb rfl)
        refine ow_assign rfl ?_
        refine jl_nil ?_
        refine jq_again (i := (k, v, l)) (k + 1, v2, l ++ [Sh[k].1]) [0, 0] ⟨hlt, by simp; omega⟩ (by dsimp only; omega) rfl ?_
        (repeat (first | exact True.intro | refine ⟨rfl, ?_⟩))
      · refine jc_skip ?_
        refine jq_block ?_
        refine jq_then ?_
        refine jc_region ?_
        refine jl_op ?_ (nb rfl)
        refine ow_move rfl ?_
        refine jl_op ?_ (nb rfl)
        refine ow_add64 rfl rfl (by omega) ?_
        refine jl_op ?_ (nb rfl)
        refine ow_assign rfl ?_
        refine jl_nil ?_
        refine jq_again (i := (k, v, l)) (k + 1, v, l) [0, 0] ⟨hlt, by dsimp only; omega⟩ (by dsimp only; omega) rfl ?_
        (repeat (first | exact True.intro | refine ⟨rfl, ?_⟩))
    · refine jc_exit ?_
      refine jq_then_exit ?_
      refine jq_then_exit ?_
      refine jq_block_exit ?_
      refine jq_then ?_
      refine jc_seq ?_
      refine jc_region ?_
      refine jl_op ?_ (nb rfl)
      refine ow_move rfl ?_
      refine jl_op ?_ (nb rfl)
      refine ow_assign rfl ?_
      refine jl_nil ?_
      refine jq_then ?_
      refine jc_ret ?_
      refine jq_freeze 2 0 rfl rfl (by rw [hc]; simp [hb]) ?_
      refine jq_ret1 rfl rfl [0] rfl (fun K h => h l (by omega))

theorem target_c (hL : InR L) (hLn : L.length ≤ 400) (hV0 : 0 < V.length) (hV : V.length ≤ 100) (hLS : LS.length ≤ 100) :
    Con Try.prog 36 [Ptr bm] [Mk bm bd V lv A Sh hs lab st il, Dk bd L, .own lv 9 1 (LS.map Srow)] (fun K => ∀ s : ByteArray, True → K (Str s) [Mk bm bd V lv A Sh hs lab st il, Dk bd L, .own lv 9 1 (LS.map Srow)]) := by
  have eV : (V.map Srow).length = V.length := List.length_map _
  refine con_intro Try.func36 rfl rfl (Nat.le_of_ble_eq_true rfl) (fun c hc => ?_)
  refine jc_seq ?_
  refine jc_region ?_
  refine jl_op ?_ (nb rfl)
  refine ow_assign rfl ?_
  refine jl_nil ?_
  refine jq_then ?_
  refine jc_seq ?_
  refine jc_region ?_
  refine jl_op ?_ (nb rfl)
  refine ow_move rfl ?_
  refine jl_op ?_ (nb rfl)
  refine ow_move rfl ?_
  refine jl_op ?_ (nb rfl)
  refine ow_nilCheck rfl ?_
  refine jl_op ?_ (nb rfl)
  refine ow_fieldAddr rfl rfl rfl (nb rfl) ?_
  refine jl_op ?_ (nb rfl)
  refine ow_load 0 rfl rfl rfl rfl ?_
  refine jl_op (ow_callP [0, 0] rfl rfl (name_c hL hLn V hV0 (by omega)) (fun s hs1 => ?_)) (nb rfl)
  refine jl_op ?_ (nb rfl)
  refine ow_assign rfl ?_
  refine jl_nil ?_
  refine jq_then ?_
  refine jc_seq ?_
  refine jc_seq ?_
  refine jc_region ?_
  refine jl_op ?_ (nb rfl)
  refine ow_assign rfl ?_
  refine jl_nil ?_
  refine jq_then ?_
  refine jc_block ?_
  refine jc_loop [0, 3] (fun k => k ≤ LS.length) (fun k => [(4, In .i64 (k : Int))]) (fun _ => [Mk bm bd V lv A Sh hs lab st il, Dk bd L, .own lv 9 1 (LS.map Srow)]) (fun k => LS.length - k) 0 [0, 0, 0] (Nat.zero_le _) rfl ?_ ?_
  · (repeat (first | exact True.intro | refine ⟨rfl, ?_⟩))
  · intro k hk
    refine jc_seq ?_
    refine jc_seq ?_
    refine jc_region ?_
    refine jl_op ?_ (nb rfl)
    refine ow_move rfl ?_
    refine jl_op ?_ (nb rfl)
    refine ow_move rfl ?_
    refine jl_op ?_ (nb rfl)
    refine ow_nilCheck rfl ?_
    refine jl_op ?_ (nb rfl)
    refine ow_fieldAddr rfl rfl rfl (nb rfl) ?_
    refine jl_op ?_ (nb rfl)
    refine ow_load 0 rfl rfl rfl rfl ?_
    refine jl_op ?_ (nb rfl)
    refine ow_lenown 2 rfl rfl (fun hlen => ?_)
    refine jl_op ?_ (nb rfl)
    refine ow_lss rfl rfl ?_
    refine jl_nil ?_
    refine jq_then ?_
    refine jc_condd rfl (fun hlt => ?_) (fun hge => ?_)
    · simp only [List.length_map, Int.ofNat_lt] at hlt
      refine jc_skip ?_
      refine jq_then ?_
      refine jc_seq ?_
      refine jc_block ?_
      refine jc_seq ?_
      refine jc_region ?_
      refine jl_op ?_ (nb rfl)
      refine ow_move rfl ?_
      refine jl_op ?_ (nb rfl)
      refine ow_nilCheck rfl ?_
      refine jl_op ?_ (nb rfl)
      refine ow_fieldAddr rfl rfl rfl (nb rfl) ?_
      refine jl_op ?_ (nb rfl)
      refine ow_load 0 rfl rfl rfl rfl ?_
      refine jl_op ?_ (nb rfl)
      refine ow_move rfl ?_
      refine jl_op ?_ (nb rfl)
      refine ow_indexOwn 2 rfl rfl rfl (by omega) (by simp only [List.length_map]; omega) rfl ?_
      refine jl_op ?_ (nb rfl)
      refine ow_loadInn1 2 rfl rfl rfl (by omega) rfl ?_
      refine jl_op ?_ (nb rfl)
      refine ow_move rfl ?_
      refine jl_op ?_ (nb rfl)
      refine ow_streql rfl rfl ?_
      refine jl_nil ?_
      refine jq_then ?_
      refine jc_condd rfl (fun he => ?_) (fun hne => ?_)
      · refine jc_seq ?_
        refine jc_any rfl rfl (by kernel_rfl) (by kernel_rfl) ?_
        refine any_op (fun c => ow_move rfl ⟨rfl, List.Perm.refl _⟩) ?_
        refine any_op (fun c => ow_nilCheck rfl ⟨rfl, List.Perm.refl _⟩) ?_
        refine any_op (fun c => ow_fieldAddr rfl rfl rfl (nb rfl) ⟨rfl, List.Perm.refl _⟩) ?_
        refine any_op (fun c => ow_load 0 rfl rfl rfl rfl ⟨rfl, List.Perm.refl _⟩) ?_
        refine any_op (fun c => ow_move rfl ⟨rfl, List.Perm.refl _⟩) ?_
        refine any_op (fun c => ow_nilCheck rfl ⟨rfl, List.Perm.refl _⟩) ?_
        refine any_op (fun c => ow_fieldAddr rfl rfl rfl (nb rfl) ⟨rfl, List.Perm.refl _⟩) ?_
        refine any_op (fun c => ow_load 0 rfl rfl rfl rfl ⟨rfl, List.Perm.refl _⟩) ?_
        refine any_op (fun c => ow_len rfl (fun hlen => ⟨rfl, List.Perm.refl _⟩)) ?_
        refine any_op (fun c => ow_sub64 rfl rfl (by omega) ⟨rfl, List.Perm.refl _⟩) ?_
        refine any_op (fun c => ow_indexAddrMapI rfl rfl (by omega) (by omega) rfl rfl (nb rfl) ⟨rfl, List.Perm.refl _⟩) ?_
        refine any_op (fun c => ow_loadPlace rfl rfl ⟨rfl, List.Perm.refl _⟩) ?_
        refine any_op (fun c => ow_assign rfl ⟨rfl, List.Perm.refl _⟩) ?_
        refine any_nil ?_
        refine jq_then ?_
        refine jc_ret ?_
        refine jq_block_ret ?_
        refine jq_then_ret ?_
        refine jq_then_ret ?_
        refine jq_block_ret ?_
        refine jq_then_ret ?_
        refine jq_ret1 rfl rfl [0, 0, 0] rfl (fun K h => h _ trivial)
      · refine jc_skip ?_
        refine jq_block ?_
        refine jq_then ?_
        refine jc_region ?_
        refine jl_op ?_ (nb rfl)
        refine ow_move rfl ?_
        refine jl_op ?_ (nb rfl)
        refine ow_add64 rfl rfl (by omega) ?_
        refine jl_op ?_ (nb rfl)
        refine ow_assign rfl ?_
        refine jl_nil ?_
        refine jq_again (k + 1) [0, 0, 0] hlt (by omega) rfl ?_
        (repeat (first | exact True.intro | refine ⟨rfl, ?_⟩))
    · refine jc_exit ?_
      refine jq_then_exit ?_
      refine jq_then_exit ?_
      refine jq_block_exit ?_
      refine jq_then ?_
      refine jc_seq ?_
      refine jc_region ?_
      refine jl_op ?_ (nb rfl)
      refine ow_move rfl ?_
      refine jl_op ?_ (nb rfl)
      refine ow_assign rfl ?_
      refine jl_nil ?_
      refine jq_then ?_
      refine jc_ret ?_
      refine jq_ret1 rfl rfl [0, 0, 0] rfl (fun K h => h _ trivial)

theorem expr_step (hL : InR L) (hLn : L.length ≤ 400) (hV0 : 0 < V.length) (hV : V.length ≤ 100) (hA : A.length ≤ 100) (hSh : Sh.length ≤ 100) (d : Int) (hd0 : -100 ≤ d) (hd1 : d ≤ 100)
    (ih : 0 < d → Con Try.prog 33 [Ptr bm, In .i64 (d - 1)] [Mk bm bd V lv A Sh hs lab st il, Dk bd L] (fun K => ∀ e : Ex, True → K (.row e.row') [Mk bm bd V lv A Sh hs lab st il, Dk bd L])) :
    Con Try.prog 33 [Ptr bm, In .i64 d] [Mk bm bd V lv A Sh hs lab st il, Dk bd L] (fun K => ∀ e : Ex, True → K (.row e.row') [Mk bm bd V lv A Sh hs lab st il, Dk bd L]) := by
  refine con_intro Try.func33 rfl rfl (Nat.le_of_ble_eq_true rfl) (fun c hc => ?_)
  refine jc_seq ?_
  refine jc_region ?_
  refine jl_op ?_ (nb rfl)
  refine ow_alloc rfl rfl (fun bl => ?_)
  refine jl_nil ?_
  refine jq_then ?_
  refine jc_seq ?_
  refine jc_region ?_
  refine jl_op ?_ (nb rfl)
  refine ow_move rfl ?_
  refine jl_op ?_ (nb rfl)
  refine ow_nilCheck rfl ?_
  refine jl_op ?_ (nb rfl)
  refine ow_fieldAddr rfl rfl rfl (nb rfl) ?_
  refine jl_op ?_ (nb rfl)
  refine ow_load 1 rfl rfl rfl rfl ?_
  refine jl_op (ow_callP [2] rfl rfl (Nx_c _ hL hLn (by omega)) (fun k0 hk0 => ?_)) (nb rfl)
  refine jl_op ?_ (nb rfl)
  refine ow_assign rfl ?_
  refine jl_nil ?_
  refine jq_then ?_
  refine jc_seq ?_
  refine jc_seq ?_
  refine jc_region ?_
  refine jl_op ?_ (nb rfl)
  refine ow_move rfl ?_
  refine jl_op ?_ (nb rfl)
  refine ow_leq rfl rfl ?_
  refine jl_nil ?_
  refine jq_then ?_
  have ht : 0 ≤ k0.tmod 3 ∧ k0.tmod 3 ≤ 2 := by rw [Int.tmod_eq_emod_of_nonneg hk0.1]; omega
  refine jc_cut (ι := Int) [0, 1, 4] (fun k => 0 ≤ k ∧ k ≤ 5 ∧ (d ≤ 0 → k ≤ 2)) (fun k => [(5, In .i64 k)]) (fun _ => [Mk bm bd V lv A Sh hs lab st il, Dk bd L, .blk bl 42 [.val (.int .i64 0), .val (.int .i64 0), .val (.string ⟨#[]⟩), .val (.int .i64 0), .val (.slice none 0 0)]]) ?_ ?_
  · refine jc_condd rfl (fun hd => ?_) (fun hd => ?_)
    · refine jc_region ?_
      refine jl_op ?_ (nb rfl)
      refine ow_move rfl ?_
      refine jl_op ?_ (nb rfl)
      refine ow_rem rfl rfl (by omega) ?_
      refine jl_op ?_ (nb rfl)
      refine ow_assign rfl ?_
      refine jl_nil ?_
      refine jq_cut (k0.tmod 3) [2, 0, 0] ⟨ht.1, by omega, fun _ => ht.2⟩ rfl ?_
      (repeat (first | exact True.intro | refine ⟨rfl, ?_⟩))
    · refine jc_skip ?_
      refine jq_cut k0 [2, 0, 0] ⟨hk0.1, by omega, fun h => absurd h hd⟩ rfl ?_
      (repeat (first | exact True.intro | refine ⟨rfl, ?_⟩))
  · intro k ⟨hka, hkb, hkd⟩
    refine jc_seq ?_
    refine jc_seq ?_
    refine jc_region ?_
    refine jl_op ?_ (nb rfl)
    refine ow_move rfl ?_
    refine jl_nil ?_
    refine jq_then ?_
    refine jc_block ?_
    refine jc_seq ?_
    refine jc_region ?_
    refine jl_op ?_ (nb rfl)
    refine ow_eql rfl rfl ?_
    refine jl_op ?_ (nb rfl)
    refine ow_assign rfl ?_
    refine jl_nil ?_
    refine jq_then ?_
    refine jc_condd rfl (fun h0 => ?_) (fun h0 => ?_)
    · refine jc_seq ?_
      refine jc_region ?_
      refine jl_op ?_ (nb rfl)
      refine ow_move rfl ?_
      refine jl_op ?_ (nb rfl)
      refine ow_nilCheck rfl ?_
      refine jl_op ?_ (nb rfl)
      refine ow_fieldAddr rfl rfl rfl (nb rfl) ?_
      refine jl_op ?_ (nb rfl)
      refine ow_load 0 rfl rfl rfl rfl ?_
      refine jl_op (ow_callP [1] rfl rfl (Nx_c _ hL hLn (by omega)) (fun n1 hn1 => ?_)) (nb rfl)
      refine jl_op ?_ (nb rfl)
      refine ow_assign rfl ?_
      refine jl_nil ?_
      refine jq_then ?_
      refine jc_seq ?_
      refine jc_seq ?_
      refine jc_region ?_
      refine jl_op ?_ (nb rfl)
      refine ow_move rfl ?_
      refine jl_op ?_ (nb rfl)
      refine ow_nilCheck rfl ?_
      refine jl_op ?_ (nb rfl)
      refine ow_fieldAddr rfl rfl rfl (nb rfl) ?_
      refine jl_op ?_ (nb rfl)
      refine ow_load 1 rfl rfl rfl rfl ?_
      refine jl_op (ow_callP [0] rfl rfl (Nx_c _ hL hLn (by omega)) (fun n2 hn2 => ?_)) (nb rfl)
      refine jl_op ?_ (nb rfl)
      refine ow_eql rfl rfl ?_
      refine jl_nil ?_
      refine jq_then ?_
      refine jc_cut (ι := Int) [0, 1, 4] (fun _ => True) (fun k => [(6, In .i64 k)]) (fun _ => [Mk bm bd V lv A Sh hs lab st il, Dk bd L, .blk bl 42 [.val (.int .i64 0), .val (.int .i64 0), .val (.string ⟨#[]⟩), .val (.int .i64 0), .val (.slice none 0 0)]]) ?_ ?_
      · refine jc_condd rfl (fun _ => ?_) (fun _ => ?_)
        · refine jc_region ?_
          refine jl_op ?_ (nb rfl)
          refine ow_move rfl ?_
          refine jl_op ?_ (nb rfl)
          refine ow_nilCheck rfl ?_
          refine jl_op ?_ (nb rfl)
          refine ow_fieldAddr rfl rfl rfl (nb rfl) ?_
          refine jl_op ?_ (nb rfl)
          refine ow_load 1 rfl rfl rfl rfl ?_
          refine jl_op (ow_callP [0] rfl rfl (Word_c hL hLn) (fun n3 hn3 => ?_)) (nb rfl)
          refine jl_op ?_ (nb rfl)
          refine ow_max2 rfl rfl ?_
          refine jl_op ?_ (nb rfl)
          refine ow_assign rfl ?_
          refine jl_nil ?_
          refine jq_cut (max (-2147483647) n3) [1, 0, 0] trivial rfl ?_
          (repeat (first | exact True.intro | refine ⟨rfl, ?_⟩))
        · refine jc_skip ?_
          refine jq_cut n1 [1, 0, 0] trivial rfl ?_
          (repeat (first | exact True.intro | refine ⟨rfl, ?_⟩))
      · intro n3 _
        refine jc_seq ?_
        refine jc_region ?_
        refine jl_op ?_ (nb rfl)
        refine ow_move rfl ?_
        refine jl_op ?_ (nb rfl)
        refine ow_call0 rfl (Num_c _) ?_
        refine jl_op0 ?_
        refine ow_storeAll 2 rfl rfl rfl rfl rfl rfl ?_
        refine jl_nil ?_
        refine jq_then ?_
        refine jc_ret ?_
        refine jq_block_ret ?_
        refine jq_then_ret ?_
        refine jq_retRow rfl rfl rfl rfl 0 rfl [1, 1] rfl (fun K h => h _ trivial)
    · refine jc_seq ?_
      refine jc_region ?_
      refine jl_op ?_ (nb rfl)
      refine ow_eql rfl rfl ?_
      refine jl_op ?_ (nb rfl)
      refine ow_assign rfl ?_
      refine jl_nil ?_
      refine jq_then ?_
      refine jc_condd rfl (fun h3 => ?_) (fun h3 => ?_)
      · refine jc_seq ?_
        refine jc_region ?_
        refine jl_op ?_ (nb rfl)
        refine ow_move rfl ?_
        refine jl_op (ow_callP [0] rfl rfl (usable_c hA hSh) (fun l hl => ?_)) (nb rfl)
        refine jl_op ?_ (nb rfl)
        refine ow_assign rfl ?_
        refine jl_nil ?_
        refine jq_then ?_
        refine jc_seq ?_
        refine jc_region ?_
        refine jl_op ?_ (nb rfl)
        refine ow_move rfl ?_
        refine jl_op ?_ (nb rfl)
        refine ow_len rfl (fun hlen => ?_)
        refine jl_op ?_ (nb rfl)
        refine ow_gtr rfl rfl ?_
        refine jl_nil ?_
        refine jq_then ?_
        refine jc_condd rfl (fun hp => ?_) (fun hp => ?_)
        · simp only [List.length_map] at hp
          refine jc_seq ?_
          refine jc_region ?_
          refine jl_op ?_ (nb rfl)
          refine ow_move rfl ?_
          refine jl_op ?_ (nb rfl)
          refine ow_move rfl ?_
          refine jl_op (ow_callP [0, 0] rfl rfl (name_c hL hLn l (by omega) (by omega)) (fun s hs1 => ?_)) (nb rfl)
          refine jl_op ?_ (nb rfl)
          refine ow_move rfl ?_
          refine jl_op ?_ (nb rfl)
          refine ow_move rfl ?_
          refine jl_op ?_ (nb rfl)
          refine ow_sub64 rfl rfl (by omega) ?_
          refine jl_op (ow_callP [0, 0] rfl rfl (ih (by omega)) (fun e1 he1 => ?_)) (nb rfl)
          refine jl_op ?_ (nb rfl)
          refine ow_buildSlice rfl rfl (nb rfl) rfl rfl (nb rfl) ?_
          refine jl_op ?_ (nb rfl)
          refine ow_build rfl rfl rfl rfl rfl ?_
          refine jl_op0 ?_
          refine ow_storeAll 2 rfl rfl rfl rfl rfl rfl ?_
          refine jl_nil ?_
          refine jq_then ?_
          refine jc_ret ?_
          refine jq_block_ret ?_
          refine jq_then_ret ?_
          refine jq_row 0 (Ex.row' ⟨3, 0, s, 0, [e1]⟩) rfl ?_ ?_
          · (repeat (first | exact RowLe.nil | refine RowLe.cons (CLe.refl _) ?_ | refine RowLe.cons CLe.nil ?_))
            exact RowLe.cons (CLe.eq (by simp [Ex.row_eq, Ex.args])) .nil
          · refine jq_retRow rfl rfl rfl rfl 0 rfl [1, 1] rfl (fun K h => h _ trivial)
        · refine jc_skip ?_
          refine jq_block ?_
          refine jq_then ?_
          refine jc_seq ?_
          refine jc_region ?_
          refine jl_op ?_ (nb rfl)
          refine ow_move rfl ?_
          refine jl_op ?_ (nb rfl)
          refine ow_move rfl ?_
          refine jl_op ?_ (nb rfl)
          refine ow_nilCheck rfl ?_
          refine jl_op ?_ (nb rfl)
          refine ow_fieldAddr rfl rfl rfl (nb rfl) ?_
          refine jl_op ?_ (nb rfl)
          refine ow_load 0 rfl rfl rfl rfl ?_
          refine jl_op (ow_callP [0, 0] rfl rfl (name_c hL hLn V hV0 (by omega)) (fun s hs1 => ?_)) (nb rfl)
          refine jl_op ?_ (nb rfl)
          refine ow_call0 rfl (Name_c _) ?_
          refine jl_op0 ?_
          refine ow_storeAll 2 rfl rfl rfl rfl rfl rfl ?_
          refine jl_nil ?_
          refine jq_then ?_
          refine jc_ret ?_
          refine jq_retRow rfl rfl rfl rfl 0 rfl [1, 1] rfl (fun K h => h _ trivial)
      · refine jc_seq ?_
        refine jc_seq ?_
        refine jc_region ?_
        refine jl_op ?_ (nb rfl)
        refine ow_eql rfl rfl ?_
        refine jl_op ?_ (nb rfl)
        refine ow_assign rfl ?_
        refine jl_nil ?_
        refine jq_then ?_
        refine jc_condd rfl (fun h4 => ?_) (fun h4 => ?_)
        · refine jc_skip ?_
          refine jq_then ?_
          refine jc_condd rfl (fun _ => ?_) (fun h => absurd h4 h)
          refine jc_seq ?_
          refine jc_region ?_
          refine jl_op ?_ (nb rfl)
          refine ow_move rfl ?_
          refine jl_op ?_ (nb rfl)
          refine ow_nilCheck rfl ?_
          refine jl_op ?_ (nb rfl)
          refine ow_fieldAddr rfl rfl rfl (nb rfl) ?_
          refine jl_op ?_ (nb rfl)
          refine ow_load 0 rfl rfl rfl rfl ?_
          refine jl_op (ow_callP [1] rfl rfl (Op_c hL hLn) (fun o ho => ?_)) (nb rfl)
          refine jl_op ?_ (nb rfl)
          refine ow_move rfl ?_
          refine jl_op ?_ (nb rfl)
          refine ow_move rfl ?_
          refine jl_op ?_ (nb rfl)
          refine ow_sub64 rfl rfl (by omega) ?_
          refine jl_op (ow_callP [1, 0] rfl rfl (ih (by omega)) (fun e1 he1 => ?_)) (nb rfl)
          refine jl_op ?_ (nb rfl)
          refine ow_move rfl ?_
          refine jl_op ?_ (nb rfl)
          refine ow_move rfl ?_
          refine jl_op ?_ (nb rfl)
          refine ow_sub64 rfl rfl (by omega) ?_
          refine jl_op (ow_callP [0, 0] rfl rfl (ih (by omega)) (fun e2 he2 => ?_)) (nb rfl)
          refine jl_op ?_ (nb rfl)
          refine ow_call0 rfl (Bin_c _ _ _) ?_
          refine jl_op0 ?_
          refine ow_storeAll 2 rfl rfl rfl rfl rfl rfl ?_
          refine jl_nil ?_
          refine jq_then ?_
          refine jc_ret ?_
          refine jq_block_ret ?_
          refine jq_then_ret ?_
          refine jq_retRow rfl rfl rfl rfl 0 rfl [1, 1] rfl (fun K h => h _ trivial)
        · refine jc_region ?_
          refine jl_op ?_ (nb rfl)
          refine ow_eql rfl rfl ?_
          refine jl_op ?_ (nb rfl)
          refine ow_assign rfl ?_
          refine jl_nil ?_
          refine jq_then ?_
          refine jc_condd rfl (fun h5 => ?_) (fun h5 => ?_)
          · refine jc_seq ?_
            refine jc_region ?_
            refine jl_op ?_ (nb rfl)
            refine ow_move rfl ?_
            refine jl_op ?_ (nb rfl)
            refine ow_nilCheck rfl ?_
            refine jl_op ?_ (nb rfl)
            refine ow_fieldAddr rfl rfl rfl (nb rfl) ?_
            refine jl_op ?_ (nb rfl)
            refine ow_load 0 rfl rfl rfl rfl ?_
            refine jl_op (ow_callP [1] rfl rfl (Op_c hL hLn) (fun o ho => ?_)) (nb rfl)
            refine jl_op ?_ (nb rfl)
            refine ow_move rfl ?_
            refine jl_op ?_ (nb rfl)
            refine ow_move rfl ?_
            refine jl_op ?_ (nb rfl)
            refine ow_sub64 rfl rfl (by omega) ?_
            refine jl_op (ow_callP [1, 0] rfl rfl (ih (by omega)) (fun e1 he1 => ?_)) (nb rfl)
            refine jl_op ?_ (nb rfl)
            refine ow_move rfl ?_
            refine jl_op ?_ (nb rfl)
            refine ow_move rfl ?_
            refine jl_op ?_ (nb rfl)
            refine ow_sub64 rfl rfl (by omega) ?_
            refine jl_op (ow_callP [0, 0] rfl rfl (ih (by omega)) (fun e2 he2 => ?_)) (nb rfl)
            refine jl_op ?_ (nb rfl)
            refine ow_call0 rfl (Bin_c _ _ _) ?_
            refine jl_op0 ?_
            refine ow_storeAll 2 rfl rfl rfl rfl rfl rfl ?_
            refine jl_nil ?_
            refine jq_then ?_
            refine jc_ret ?_
            refine jq_block_ret ?_
            refine jq_then_ret ?_
            refine jq_retRow rfl rfl rfl rfl 0 rfl [1, 1] rfl (fun K h => h _ trivial)
          · refine jc_skip ?_
            refine jq_block ?_
            refine jq_then ?_
            refine jc_seq ?_
            refine jc_region ?_
            refine jl_op ?_ (nb rfl)
            refine ow_move rfl ?_
            refine jl_op ?_ (nb rfl)
            refine ow_move rfl ?_
            refine jl_op ?_ (nb rfl)
            refine ow_nilCheck rfl ?_
            refine jl_op ?_ (nb rfl)
            refine ow_fieldAddr rfl rfl rfl (nb rfl) ?_
            refine jl_op ?_ (nb rfl)
            refine ow_load 0 rfl rfl rfl rfl ?_
            refine jl_op (ow_callP [0, 0] rfl rfl (name_c hL hLn V hV0 (by omega)) (fun s hs1 => ?_)) (nb rfl)
            refine jl_op ?_ (nb rfl)
            refine ow_call0 rfl (Name_c _) ?_
            refine jl_op0 ?_
            refine ow_storeAll 2 rfl rfl rfl rfl rfl rfl ?_
            refine jl_nil ?_
            refine jq_then ?_
            refine jc_ret ?_
            refine jq_retRow rfl rfl rfl rfl 0 rfl [1, 1] rfl (fun K h => h _ trivial)

theorem expr_c (hL : InR L) (hLn : L.length ≤ 400) (hV0 : 0 < V.length) (hV : V.length ≤ 100) (hA : A.length ≤ 100) (hSh : Sh.length ≤ 100) : ∀ (n : Nat) (d : Int), d ≤ n → -100 ≤ d → n ≤ 100 →
    Con Try.prog 33 [Ptr bm, In .i64 d] [Mk bm bd V lv A Sh hs lab st il, Dk bd L] (fun K => ∀ e : Ex, True → K (.row e.row') [Mk bm bd V lv A Sh hs lab st il, Dk bd L])
  | 0, d, h1, h2, _ => expr_step hL hLn hV0 hV hA hSh d h2 (by omega) (fun h => by omega)
  | n + 1, d, h1, h2, h3 => expr_step hL hLn hV0 hV hA hSh d h2 (by omega) (fun h => expr_c hL hLn hV0 hV hA hSh n (d - 1) (by omega) (by omega) (by omega))
end
end Go.Proofs.Ytfnephpolfnmoaa
