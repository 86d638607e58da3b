import Derived.Test.YtfnephpolfnmoaaCwd
import Derived.Test.YtfnephpolfnmoaaVcc
namespace Go.Proofs.Ytfnephpolfnmoaa
open Go.Vc
set_option maxHeartbeats 4000000
attribute [local irreducible] JL JC JQ OpWp Con ConN

abbrev Inp := ByteArray × Int × Int
abbrev Inrow (s : Inp) : List C := [.val (.string s.1), .val (.int .i64 s.2.1), .val (.int .i64 s.2.2)]
abbrev InOk (l : List Inp) : Prop := l.length ≤ 3 ∧ ∀ x ∈ l, -2 ≤ x.2.1 ∧ x.2.1 ≤ x.2.2 ∧ x.2.2 ≤ 20
abbrev NilC : C := .val (.slice none 0 0)
abbrev Trow (l : List Sm) : List C := [.any, .any, .any, .any, .any, .any, .any, .any, .any, .any, .list (l.map Sm.row)]
abbrev Zt : List C := [.val (.string ⟨#[]⟩), .val (.int .i64 0), .val (.int .i64 0), .val (.int .i64 0), .val (.int .i64 0), NilC, NilC, NilC, NilC, NilC, NilC]
abbrev T0 (v : Value) : List C := [.any, .any, .any, .any, .any, .val v, NilC, NilC, NilC, NilC, NilC]
abbrev M0 (bd : Nat) (v : Value) (Sh : List Shd) (N : Int) : List C := [.val (.pointer (some ⟨bd, 0, none⟩)), .val v, NilC, NilC, .list (Sh.map Shrow), .val (.string ⟨#[]⟩), .val (.int .i64 0), .val (.int .i64 N), .val (.int .i64 0)]

theorem pow_bd (i : Int) (h : i.toNat ≤ 30) : (0 : Int) ≤ 1 * 2 ^ i.toNat ∧ (1 : Int) * 2 ^ i.toNat ≤ 1073741824 := by
  have h6 : (2 : Nat) ^ i.toNat ≤ 2 ^ 30 := Nat.pow_le_pow_right (by omega) h
  have h7 : ((2 ^ i.toNat : Nat) : Int) = (2 : Int) ^ i.toNat := by simp
  have h8 : (0 : Int) ≤ (2 : Int) ^ i.toNat := h7 ▸ Int.natCast_nonneg _
  omega
abbrev Clm := Int × Int
abbrev Crow (s : Clm) : List C := [.val (.int .i64 s.1), .val (.int .i64 s.2)]

abbrev Et3 (bd : Nat) (W : Int) (br bt : Nat) : Env := [(0, Ptr bd), (3, In .i64 W), (10, Ptr br), (11, Ptr bt)]
abbrev Et (bd : Nat) (W : Int) (br bt bx : Nat) : Env := [(0, Ptr bd), (3, In .i64 W), (10, Ptr br), (11, Ptr bt), (12, Ptr bx)]

section
variable {L : List Int} {bd : Nat} {Sh : List Shd}

theorem task_c (hL : InR L) (hLn : L.length ≤ 400) (hSh : Sh.length ≤ 100) (nm : ByteArray) (W N : Int) (hW : 0 ≤ W ∧ W ≤ 1000000) (hN : 0 ≤ N ∧ N ≤ 14) :
    Con Try.prog 19 [Ptr bd, Str nm, .cell (.list (Sh.map Shrow)), In .i64 W, In .i64 N] [Dk bd L] (fun K => ∀ l : List Sm, Good W l → K (.row (Trow l)) [Dk bd L]) := by
  refine con_intro Try.func19 rfl rfl (Nat.le_of_ble_eq_true rfl) (fun c hc => ?_)
  refine jc_seq ?_
  refine jc_region ?_
  refine jl_op (ow_alloc rfl rfl (fun br => ?_)) (nb rfl)
  refine jl_nil ?_
  refine jq_then ?_
  refine jc_seq ?_
  refine jc_region ?_
  refine jl_op ?_ (nb rfl)
  refine ow_move rfl ?_
  refine jl_op ?_ (nb rfl)
  refine ow_move rfl ?_
  refine jl_op (ow_callP [1] rfl rfl (Nx_c _ hL hLn (by omega)) (fun k1 hk1 => ?_)) (nb rfl)
  refine jl_op ?_ (nb rfl)
  refine ow_mul64 rfl rfl (by omega) ?_
  refine jl_op ?_ (nb rfl)
  refine ow_add64 rfl rfl (by omega) ?_
  refine jl_op ?_ (nb rfl)
  refine ow_move rfl ?_
  refine jl_op (ow_callP [0] rfl rfl (Nx_c _ hL hLn (by omega)) (fun k2 hk2 => ?_)) (nb rfl)
  refine jl_op ?_ (nb rfl)
  refine ow_add64 rfl rfl (by omega) ?_
  refine jl_op ?_ (nb rfl)
  refine ow_move rfl ?_
  refine jl_op (ow_callP [0] rfl rfl (Nx_c _ hL hLn (by omega)) (fun k3 hk3 => ?_)) (nb rfl)
  refine jl_op ?_ (nb rfl)
  refine ow_mul64 rfl rfl (by omega) ?_
  refine jl_op ?_ (nb rfl)
  refine ow_build rfl rfl rfl rfl rfl ?_
  refine jl_op (ow_alloc rfl rfl (fun bt => ?_)) (nb rfl)
  refine jl_op0 ?_
  refine ow_storeAll 0 rfl rfl rfl rfl rfl rfl ?_
  refine jl_nil ?_
  refine jq_then ?_
  refine jc_seq ?_
  refine jc_anyB 6 none rfl (by kernel_rfl) (by kernel_rfl) ?_
  refine any_op (fun c => ow_fieldAddr rfl rfl rfl (nb rfl) ⟨rfl, List.Perm.refl _⟩) ?_
  refine any_op (fun c => ow_load 0 rfl rfl rfl rfl ⟨rfl, List.Perm.refl _⟩) ?_
  refine any_op (fun c => ow_move rfl ⟨rfl, List.Perm.refl _⟩) ?_
  refine any_op (fun c => ow_callA [1] rfl rfl (Next_c L _ _ hL hLn (by omega))) ?_
  refine any_op (fun c => ow_exarg 35 rfl (fun i => ow_mul64 rfl rfl (by have := i.2; omega) ⟨rfl, .refl _⟩)) ?_
  refine any_op (fun c => ow_exarg 36 rfl (fun i => ow_sub64 rfl rfl (by have := i.2; omega) ⟨rfl, .refl _⟩)) ?_
  refine any_nil (afin_none ?_)
  refine jl_slot 37 rfl (fun dl => ?_)
  refine jl_op ?_ (nb rfl)
  refine ow_fieldAddr rfl rfl rfl (nb rfl) ?_
  refine jl_op0 ?_
  refine ow_store1 0 rfl rfl rfl rfl (nb rfl) ?_
  refine jl_nil ?_
  refine jq_then ?_
  refine jc_seq ?_
  refine jc_region ?_
  refine jl_op ?_ (nb rfl)
  refine ow_move rfl ?_
  refine jl_op ?_ (nb rfl)
  refine ow_move rfl ?_
  refine jl_op ?_ (nb rfl)
  refine ow_move rfl ?_
  refine jl_op ?_ (nb rfl)
  refine ow_build rfl rfl rfl rfl rfl ?_
  refine jl_op ?_ (nb rfl)
  refine ow_box rfl (fun bx => ?_)
  refine jl_op ?_ (nb rfl)
  refine ow_assign rfl ?_
  refine jl_nil ?_
  refine jq_then ?_
  refine jc_seq ?_
  refine jc_seq ?_
  refine jc_region ?_
  refine jl_op ?_ (nb rfl)
  refine ow_assign rfl ?_
  refine jl_nil ?_
  refine jq_then ?_
  refine jc_ownNil 9 1 (by omega) ?_
  refine jc_ownNil 72 3 (by omega) ?_
  (first | refine jc_row 3 (T0 (.slice none 0 0)) rfl (.cons (.any _) (.cons (.any _) (.cons (.any _) (.cons (.any _) (.cons (.any _) (.refl _)))))) ?_ | refine jc_row 4 (T0 (.slice none 0 0)) rfl (.cons (.any _) (.cons (.any _) (.cons (.any _) (.cons (.any _) (.cons (.any _) (.refl _)))))) ?_ | refine jc_row 5 (T0 (.slice none 0 0)) rfl (.cons (.any _) (.cons (.any _) (.cons (.any _) (.cons (.any _) (.cons (.any _) (.refl _)))))) ?_)
  refine jc_cut (ι := (Value × List Inp) × (Value × List ByteArray)) [] (fun i => (c.Fresh i.1.1 ∧ c.Fresh i.2.1) ∧ InOk i.1.2 ∧ i.2.2.length ≤ 3) (fun _ => Et bd W br bt bx)
    (fun i => [.blk bt 34 (T0 i.1.1), .blk bx 70 (M0 bd i.2.1 Sh N), .own i.1.1 72 3 (i.1.2.map Inrow), .own i.2.1 9 1 (i.2.2.map Srow), Dk bd L, .blk br 34 Zt]) ?_ ?_
  · refine jc_block ?_
    refine jc_loopS (ι := Nat × (Value × List Inp) × (Value × List ByteArray)) [] (fun i => i.1 ≤ 2 ∧ (c.Fresh i.2.1.1 ∧ c.Fresh i.2.2.1) ∧ i.2.1.2.length ≤ i.1 ∧ InOk i.2.1.2 ∧ i.2.2.2.length ≤ i.1) (fun i => (13, In .i64 (i.1 : Int)) :: Et bd W br bt bx)
      (fun i => [.blk bt 34 (T0 i.2.1.1), .blk bx 70 (M0 bd i.2.2.1 Sh N), .own i.2.1.1 72 3 (i.2.1.2.map Inrow), .own i.2.2.1 9 1 (i.2.2.2.map Srow), Dk bd L, .blk br 34 Zt]) (fun i => 3 - i.1) (0, (.slice none 0 0, []), (.slice none 0 0, [])) ⟨by omega, ⟨fresh_nil, fresh_nil⟩, by simp, ⟨by simp, by simp⟩, by simp⟩ ?_ ?_ ?_
    · refine sub_step 0 rfl ?_
      refine sub_step 2 rfl ?_
      refine sub_step 0 rfl ?_
      refine sub_step 0 rfl ?_
      refine sub_step 0 rfl ?_
      refine sub_step 0 rfl ?_
      exact sub_end
    · (repeat (first | exact True.intro | refine ⟨rfl, ?_⟩))
    · rintro ⟨k, ⟨vI, lI⟩, vV, lV⟩ ⟨hk, ⟨hfI, hfV⟩, hlI, hokI, hlV⟩
      dsimp only at hk hfI hfV hlI hokI hlV ⊢
      refine jc_seq ?_
      refine jc_seq ?_
      refine jc_region ?_
      refine jl_op ?_ (nb rfl)
      refine ow_move rfl ?_
      refine jl_op ?_ (nb rfl)
      refine ow_move rfl ?_
      refine jl_op (ow_callP [4] rfl rfl (Nx_c _ hL hLn (by omega)) (fun k4 hk4 => ?_)) (nb rfl)
      refine jl_op ?_ (nb rfl)
      refine ow_lss rfl rfl ?_
      refine jl_nil ?_
      refine jq_then ?_
      refine jc_condd rfl (fun hlt => ?_) (fun hge => ?_)
      · refine jc_skip ?_
        refine jq_then ?_
        refine jc_seq ?_
        refine jc_block ?_
        refine jc_seq ?_
        refine jc_cut (ι := ByteArray) [] (fun _ => True) (fun s => (14, Str s) :: ((13, In .i64 (k : Int)) :: Et bd W br bt bx)) (fun _ => [.blk bt 34 (T0 vI), .blk bx 70 (M0 bd vV Sh N), .own vI 72 3 (lI.map Inrow), .own vV 9 1 (lV.map Srow), Dk bd L, .blk br 34 Zt]) ?_ ?_
        · have hk3 : k = 0 ∨ k = 1 ∨ k = 2 := by omega
          rcases hk3 with rfl | rfl | rfl
          · refine jc_region ?_
            refine jl_op ?_ (nb rfl)
            refine ow_buildSlice rfl rfl (nb rfl) rfl rfl (nb rfl) ?_
            refine jl_op ?_ (nb rfl)
            refine ow_move rfl ?_
            refine jl_op ?_ (nb rfl)
            refine ow_rem rfl rfl (by omega) ?_
            refine jl_op (ow_indexAddr rfl rfl (by decide) rfl rfl (nb rfl) ?_) (nb rfl)
            refine jl_op ?_ (nb rfl)
            refine ow_loadPlace rfl rfl ?_
            refine jl_op ?_ (nb rfl)
            refine ow_assign rfl ?_
            refine jl_nil ?_
            refine jq_cutS (⟨#[120]⟩ : ByteArray) trivial ?_ ?_
            · refine sub_step 1 rfl ?_
              refine sub_step 1 rfl ?_
              refine sub_step 1 rfl ?_
              refine sub_step 1 rfl ?_
              refine sub_step 0 rfl ?_
              refine sub_step 0 rfl ?_
              exact sub_end
            · (repeat (first | exact True.intro | refine ⟨rfl, ?_⟩))
          · refine jc_region ?_
            refine jl_op ?_ (nb rfl)
            refine ow_buildSlice rfl rfl (nb rfl) rfl rfl (nb rfl) ?_
            refine jl_op ?_ (nb rfl)
            refine ow_move rfl ?_
            refine jl_op ?_ (nb rfl)
            refine ow_rem rfl rfl (by omega) ?_
            refine jl_op (ow_indexAddr rfl rfl (by decide) rfl rfl (nb rfl) ?_) (nb rfl)
            refine jl_op ?_ (nb rfl)
            refine ow_loadPlace rfl rfl ?_
            refine jl_op ?_ (nb rfl)
            refine ow_assign rfl ?_
            refine jl_nil ?_
            refine jq_cutS (⟨#[121]⟩ : ByteArray) trivial ?_ ?_
            · refine sub_step 1 rfl ?_
              refine sub_step 1 rfl ?_
              refine sub_step 1 rfl ?_
              refine sub_step 1 rfl ?_
              refine sub_step 0 rfl ?_
              refine sub_step 0 rfl ?_
              exact sub_end
            · (repeat (first | exact True.intro | refine ⟨rfl, ?_⟩))
          · refine jc_region ?_
            refine jl_op ?_ (nb rfl)
            refine ow_buildSlice rfl rfl (nb rfl) rfl rfl (nb rfl) ?_
            refine jl_op ?_ (nb rfl)
            refine ow_move rfl ?_
            refine jl_op ?_ (nb rfl)
            refine ow_rem rfl rfl (by omega) ?_
            refine jl_op (ow_indexAddr rfl rfl (by decide) rfl rfl (nb rfl) ?_) (nb rfl)
            refine jl_op ?_ (nb rfl)
            refine ow_loadPlace rfl rfl ?_
            refine jl_op ?_ (nb rfl)
            refine ow_assign rfl ?_
            refine jl_nil ?_
            refine jq_cutS (⟨#[120]⟩ : ByteArray) trivial ?_ ?_
            · refine sub_step 1 rfl ?_
              refine sub_step 1 rfl ?_
              refine sub_step 1 rfl ?_
              refine sub_step 1 rfl ?_
              refine sub_step 0 rfl ?_
              refine sub_step 0 rfl ?_
              exact sub_end
            · (repeat (first | exact True.intro | refine ⟨rfl, ?_⟩))
        intro s _
        refine jc_seq ?_
        refine jc_seq ?_
        refine jc_region ?_
        refine jl_op ?_ (nb rfl)
        refine ow_move rfl ?_
        refine jl_op ?_ (nb rfl)
        refine ow_gtr rfl rfl ?_
        refine jl_nil ?_
        refine jq_then ?_
        refine jc_condd rfl (fun h1 => ?_) (fun h1 => ?_)
        · refine jc_exit ?_
          refine jq_then_exit ?_
          refine jq_block_other rfl ?_
          refine jq_then_exit ?_
          refine jq_then_exit ?_
          refine jq_block_exit ?_
          refine jq_cutS ((vI, lI), (vV, lV)) ⟨⟨hfI, hfV⟩, hokI, by dsimp only; omega⟩ ?_ ?_
          · refine sub_step 0 rfl ?_
            refine sub_step 0 rfl ?_
            refine sub_step 0 rfl ?_
            refine sub_step 0 rfl ?_
            refine sub_step 0 rfl ?_
            refine sub_step 0 rfl ?_
            exact sub_end
          · (repeat (first | exact True.intro | refine ⟨rfl, ?_⟩))
        · refine jc_skip ?_
          refine jq_then ?_
          refine jc_seq ?_
          refine jc_region ?_
          refine jl_op ?_ (nb rfl)
          refine ow_move rfl ?_
          refine jl_op (ow_callP [4] rfl rfl (Nx_c _ hL hLn (by omega)) (fun k5 hk5 => ?_)) (nb rfl)
          refine jl_op ?_ (nb rfl)
          refine ow_sub64 rfl rfl (by omega) ?_
          refine jl_op ?_ (nb rfl)
          refine ow_assign rfl ?_
          refine jl_nil ?_
          refine jq_then ?_
          refine jc_seq ?_
          refine jc_anyB 10 none rfl (by kernel_rfl) (by kernel_rfl) ?_
          refine any_op (fun c => ow_fieldAddr rfl rfl rfl (nb rfl) ⟨rfl, List.Perm.refl _⟩) ?_
          refine any_op (fun c => ow_load 1 rfl rfl rfl rfl ⟨rfl, List.Perm.refl _⟩) ?_
          refine any_op (fun c => ow_move rfl ⟨rfl, List.Perm.refl _⟩) ?_
          refine any_op (fun c => ow_move rfl ⟨rfl, List.Perm.refl _⟩) ?_
          refine any_op (fun c => ow_move rfl ⟨rfl, List.Perm.refl _⟩) ?_
          refine any_op (fun c => ow_move rfl ⟨rfl, List.Perm.refl _⟩) ?_
          refine any_op (fun c => ow_callA [0] rfl rfl (Next_c L _ _ hL hLn (by omega))) ?_
          refine any_op (fun c => ow_exarg 66 rfl (fun i => ow_add64 rfl rfl (by have := i.2; omega) ⟨rfl, .refl _⟩)) ?_
          refine any_op (fun c => ow_exarg 67 rfl (fun i => ow_build rfl rfl rfl rfl rfl ⟨rfl, .refl _⟩)) ?_
          refine any_op (fun c => ow_exarg 68 rfl (fun i => ow_buildSlice rfl rfl (nb rfl) rfl rfl (nb rfl) ⟨rfl, .refl _⟩)) ?_
          refine any_nil (afin_none ?_)
          refine jl_slot 69 rfl (fun n => ?_)
          (first | refine jl_op (ow_append1F 3 ((s, k5 - 2, k5 - 2 + n.1)) rfl rfl rfl rfl rfl rfl rfl (fun _ => rfl) (by show (_ + _) * 32 ≤ _; first | omega | (simp only [List.length_append]; omega)) (by first | omega | (simp only [List.length_append]; omega)) (fun vI1 hvI1 fvI1 => ?_)) (nb rfl) | refine jl_op (ow_append1F 2 ((s, k5 - 2, k5 - 2 + n.1)) rfl rfl rfl rfl rfl rfl rfl (fun _ => rfl) (by show (_ + _) * 32 ≤ _; first | omega | (simp only [List.length_append]; omega)) (by first | omega | (simp only [List.length_append]; omega)) (fun vI1 hvI1 fvI1 => ?_)) (nb rfl) | refine jl_op (ow_append1F 4 ((s, k5 - 2, k5 - 2 + n.1)) rfl rfl rfl rfl rfl rfl rfl (fun _ => rfl) (by show (_ + _) * 32 ≤ _; first | omega | (simp only [List.length_append]; omega)) (by first | omega | (simp only [List.length_append]; omega)) (fun vI1 hvI1 fvI1 => ?_)) (nb rfl))
          refine jl_op ?_ (nb rfl)
          refine ow_fieldAddr rfl rfl rfl (nb rfl) ?_
          refine jl_op0 ?_
          refine ow_store1 2 rfl rfl rfl rfl (nb rfl) ?_
          refine jl_nil ?_
          refine jq_then ?_
          refine jc_region ?_
          refine jl_op ?_ (nb rfl)
          refine ow_move rfl ?_
          refine jl_op ?_ (nb rfl)
          refine ow_move rfl ?_
          refine jl_op ?_ (nb rfl)
          refine ow_nilCheck rfl ?_
          refine jl_op ?_ (nb rfl)
          refine ow_fieldAddr rfl rfl rfl (nb rfl) ?_
          refine jl_op ?_ (nb rfl)
          refine ow_load 3 rfl rfl rfl rfl ?_
          refine jl_op ?_ (nb rfl)
          refine ow_move rfl ?_
          refine jl_op ?_ (nb rfl)
          refine ow_buildSlice rfl rfl (nb rfl) rfl rfl (nb rfl) ?_
          (first | refine jl_op (ow_append1F 3 (s) rfl rfl rfl rfl rfl rfl rfl (fun _ => rfl) (by show (_ + _) * 16 ≤ _; first | omega | (simp only [List.length_append]; omega)) (by first | omega | (simp only [List.length_append]; omega)) (fun vV1 hvV1 fvV1 => ?_)) (nb rfl) | refine jl_op (ow_append1F 2 (s) rfl rfl rfl rfl rfl rfl rfl (fun _ => rfl) (by show (_ + _) * 16 ≤ _; first | omega | (simp only [List.length_append]; omega)) (by first | omega | (simp only [List.length_append]; omega)) (fun vV1 hvV1 fvV1 => ?_)) (nb rfl) | refine jl_op (ow_append1F 4 (s) rfl rfl rfl rfl rfl rfl rfl (fun _ => rfl) (by show (_ + _) * 16 ≤ _; first | omega | (simp only [List.length_append]; omega)) (by first | omega | (simp only [List.length_append]; omega)) (fun vV1 hvV1 fvV1 => ?_)) (nb rfl))
          refine jl_op ?_ (nb rfl)
          refine ow_nilCheck rfl ?_
          refine jl_op ?_ (nb rfl)
          refine ow_fieldAddr rfl rfl rfl (nb rfl) ?_
          refine jl_op0 ?_
          refine ow_store1 4 rfl rfl rfl rfl (nb rfl) ?_
          refine jl_nil ?_
          refine jq_block ?_
          refine jq_then ?_
          refine jc_region ?_
          refine jl_op ?_ (nb rfl)
          refine ow_move rfl ?_
          refine jl_op ?_ (nb rfl)
          refine ow_add64 rfl rfl (by omega) ?_
          refine jl_op ?_ (nb rfl)
          refine ow_assign rfl ?_
          refine jl_nil ?_
          refine jq_againS (i := (k, (vI, lI), (vV, lV))) (k + 1, (vI1, lI ++ [(s, k5 - 2, k5 - 2 + n.1)]), (vV1, lV ++ [s])) ⟨by dsimp only; omega, ⟨fvI1 hfI, fvV1 hfV⟩, by simpa using hlI, ⟨by simp only [List.length_append, List.length_cons, List.length_nil]; omega, ?_⟩, by simpa using hlV⟩ (by dsimp only; omega) ?_ ?_
          · intro x hx
            rcases List.mem_append.1 hx with hx | hx
            · exact hokI.2 x hx
            · rw [List.mem_singleton.1 hx]
              have := n.2
              dsimp only
              omega
          · refine sub_step 2 rfl ?_
            refine sub_step 0 rfl ?_
            refine sub_step 1 rfl ?_
            refine sub_step 0 rfl ?_
            refine sub_step 0 rfl ?_
            refine sub_step 0 rfl ?_
            exact sub_end
          · (repeat (first | exact True.intro | refine ⟨rfl, ?_⟩))
      · refine jc_exit ?_
        refine jq_then_exit ?_
        refine jq_then_exit ?_
        refine jq_block_exit ?_
        refine jq_cutS ((vI, lI), (vV, lV)) ⟨⟨hfI, hfV⟩, hokI, by dsimp only; omega⟩ ?_ ?_
        · refine sub_step 1 rfl ?_
          refine sub_step 1 rfl ?_
          refine sub_step 1 rfl ?_
          refine sub_step 1 rfl ?_
          refine sub_step 0 rfl ?_
          refine sub_step 0 rfl ?_
          exact sub_end
        · (repeat (first | exact True.intro | refine ⟨rfl, ?_⟩))
  rintro ⟨⟨vI, lI⟩, vV, lV⟩ ⟨⟨hfI, hfV⟩, hokI, hlV⟩
  dsimp only at hfI hfV hokI hlV ⊢
  refine jc_freezeB 2 0 5 rfl rfl hfI ?_
  refine jc_seq ?_
  refine jc_region ?_
  refine jl_op ?_ (nb rfl)
  refine ow_buildSlice rfl rfl (nb rfl) rfl rfl (nb rfl) ?_
  refine jl_op ?_ (nb rfl)
  refine ow_fieldAddr rfl rfl rfl (nb rfl) ?_
  refine jl_op0 ?_
  refine ow_store1 0 rfl rfl rfl rfl (nb rfl) ?_
  refine jl_nil ?_
  refine jq_then ?_
  refine jc_seq ?_
  refine jc_anyF 7 none [0] rfl (by kernel_rfl) (by kernel_rfl) (by kernel_rfl) ?_
  refine any_op (fun c => ow_move rfl ⟨rfl, List.Perm.refl _⟩) ?_
  refine any_op (fun c => ow_move rfl ⟨rfl, List.Perm.refl _⟩) ?_
  refine any_op (fun c => ow_nilCheck rfl ⟨rfl, List.Perm.refl _⟩) ?_
  refine any_op (fun c => ow_fieldAddr rfl rfl rfl (nb rfl) ⟨rfl, List.Perm.refl _⟩) ?_
  refine any_op (fun c => ow_load 1 rfl rfl rfl rfl ⟨rfl, List.Perm.refl _⟩) ?_
  refine any_op (fun c => ow_fieldAddr rfl rfl rfl (nb rfl) ⟨rfl, List.Perm.refl _⟩) ?_
  refine any_op (fun c => ow_load 0 rfl rfl rfl rfl ⟨rfl, List.Perm.refl _⟩) ?_
  refine any_nil ?_
  refine afin_none ?_
  (first | refine jl_op (ow_appendMF (f := Srow) (l1 := lV) (l2 := [⟨#[105]⟩, ⟨#[107]⟩, ⟨#[110]⟩]) 2 rfl rfl rfl rfl rfl rfl rfl (fun _ => rfl) (by show (_ + 3) * 16 ≤ _; omega) (by simp; omega) (fun vV1 hvV1 fvV1 => ?_)) (nb rfl) | refine jl_op (ow_appendMF (f := Srow) (l1 := lV) (l2 := [⟨#[105]⟩, ⟨#[107]⟩, ⟨#[110]⟩]) 3 rfl rfl rfl rfl rfl rfl rfl (fun _ => rfl) (by show (_ + 3) * 16 ≤ _; omega) (by simp; omega) (fun vV1 hvV1 fvV1 => ?_)) (nb rfl))
  refine jl_freezeF 91 0 rfl rfl (fvV1 hfV) ?_
  generalize hVe : lV ++ [⟨#[105]⟩, ⟨#[107]⟩, ⟨#[110]⟩] = V
  have hV0 : 0 < V.length := by rw [← hVe]; simp
  have hV : V.length ≤ 100 := by rw [← hVe]; simp; omega
  clear hVe
  refine jl_op ?_ (nb rfl)
  refine ow_nilCheck rfl ?_
  refine jl_op ?_ (nb rfl)
  refine ow_fieldAddr rfl rfl rfl (nb rfl) ?_
  refine jl_op0 ?_
  refine ow_store1 1 rfl rfl rfl rfl (nb rfl) ?_
  refine jl_nil ?_
  refine jq_np ?_
  refine jq_then ?_
  refine jc_seq ?_
  have hMk : RowLe [.val (.pointer (some ⟨bd, 0, none⟩)), .list (V.map Srow), NilC, NilC, .list (Sh.map Shrow), .val (.string ⟨#[]⟩), .val (.int .i64 0), .val (.int .i64 N), .val (.int .i64 0)] (MkRow bd V (.slice none 0 0) [] Sh ⟨#[]⟩ 0 N 0) :=
    .cons (.refl _) (.cons (.refl _) (.cons (.refl _) (.cons .nil (.refl _))))
  (first | refine jc_row 0 _ rfl hMk ?_ | refine jc_row 1 _ rfl hMk ?_ | refine jc_row 2 _ rfl hMk ?_)
  refine jc_cut (ι := List ByteArray) [] (fun A => A.length ≤ 1) (fun _ => Et bd W br bt bx) (fun A => [.blk bt 34 [.any, .any, .any, .any, .any, .list (lI.map Inrow), .any, .any, NilC, NilC, NilC], Mk bx bd V (.slice none 0 0) A Sh ⟨#[]⟩ 0 N 0, Dk bd L, .blk br 34 Zt]) ?_ ?_
  · refine jc_seq ?_
    refine jc_region ?_
    refine jl_op ?_ (nb rfl)
    refine ow_move rfl ?_
    refine jl_op (ow_callP [2] rfl rfl (Nx_c _ hL hLn (by omega)) (fun k6 hk6 => ?_)) (nb rfl)
    refine jl_op ?_ (nb rfl)
    refine ow_eql rfl rfl ?_
    refine jl_nil ?_
    refine jq_then ?_
    refine jc_condd rfl (fun h1 => ?_) (fun h1 => ?_)
    · refine jc_seq ?_
      refine jc_region ?_
      refine jl_op ?_ (nb rfl)
      refine ow_move rfl ?_
      refine jl_op (ow_callP [0] rfl rfl (Nx_c _ hL hLn (by omega)) (fun k7 hk7 => ?_)) (nb rfl)
      have h5 := pow_bd k7 (by omega)
      refine jl_op ?_ (nb rfl)
      refine ow_convU64 rfl rfl rfl (by omega) ?_
      refine jl_op ?_ (nb rfl)
      refine ow_shl64 rfl rfl (by omega) (by omega) ?_
      refine jl_op ?_ (nb rfl)
      refine ow_build rfl rfl rfl rfl rfl ?_
      refine jl_op ?_ (nb rfl)
      refine ow_buildSlice rfl rfl (nb rfl) rfl rfl (nb rfl) ?_
      refine jl_op ?_ (nb rfl)
      refine ow_fieldAddr rfl rfl rfl (nb rfl) ?_
      refine jl_op0 ?_
      refine ow_store1 2 rfl rfl rfl rfl (nb rfl) ?_
      refine jl_nil ?_
      refine jq_then ?_
      refine jc_region ?_
      refine jl_op ?_ (nb rfl)
      refine ow_move rfl ?_
      refine jl_op ?_ (nb rfl)
      refine ow_buildSlice rfl rfl (nb rfl) rfl rfl (nb rfl) ?_
      refine jl_op ?_ (nb rfl)
      refine ow_nilCheck rfl ?_
      refine jl_op ?_ (nb rfl)
      refine ow_fieldAddr rfl rfl rfl (nb rfl) ?_
      refine jl_op0 ?_
      refine ow_store1 2 rfl rfl rfl rfl (nb rfl) ?_
      refine jl_nil ?_
      (first | refine jq_row 0 [.any, .any, .any, .any, .any, .list (lI.map Inrow), .any, .any, NilC, NilC, NilC] rfl (.cons (.refl _) (.cons (.refl _) (.cons (.refl _) (.cons (.refl _) (.cons (.refl _) (.cons (.refl _) (.cons (.any _) (.cons (.any _) (.refl _))))))))) ?_ | refine jq_row 1 [.any, .any, .any, .any, .any, .list (lI.map Inrow), .any, .any, NilC, NilC, NilC] rfl (.cons (.refl _) (.cons (.refl _) (.cons (.refl _) (.cons (.refl _) (.cons (.refl _) (.cons (.refl _) (.cons (.any _) (.cons (.any _) (.refl _))))))))) ?_ | refine jq_row 2 [.any, .any, .any, .any, .any, .list (lI.map Inrow), .any, .any, NilC, NilC, NilC] rfl (.cons (.refl _) (.cons (.refl _) (.cons (.refl _) (.cons (.refl _) (.cons (.refl _) (.cons (.refl _) (.cons (.any _) (.cons (.any _) (.refl _))))))))) ?_ | refine jq_row 3 [.any, .any, .any, .any, .any, .list (lI.map Inrow), .any, .any, NilC, NilC, NilC] rfl (.cons (.refl _) (.cons (.refl _) (.cons (.refl _) (.cons (.refl _) (.cons (.refl _) (.cons (.refl _) (.cons (.any _) (.cons (.any _) (.refl _))))))))) ?_ | refine jq_row 4 [.any, .any, .any, .any, .any, .list (lI.map Inrow), .any, .any, NilC, NilC, NilC] rfl (.cons (.refl _) (.cons (.refl _) (.cons (.refl _) (.cons (.refl _) (.cons (.refl _) (.cons (.refl _) (.cons (.any _) (.cons (.any _) (.refl _))))))))) ?_)
      (first | refine jq_row 0 (MkRow bd V (.slice none 0 0) [⟨#[97]⟩] Sh ⟨#[]⟩ 0 N 0) rfl (.refl _) ?_ | refine jq_row 1 (MkRow bd V (.slice none 0 0) [⟨#[97]⟩] Sh ⟨#[]⟩ 0 N 0) rfl (.refl _) ?_ | refine jq_row 2 (MkRow bd V (.slice none 0 0) [⟨#[97]⟩] Sh ⟨#[]⟩ 0 N 0) rfl (.refl _) ?_ | refine jq_row 3 (MkRow bd V (.slice none 0 0) [⟨#[97]⟩] Sh ⟨#[]⟩ 0 N 0) rfl (.refl _) ?_)
      refine jq_cutS [(⟨#[97]⟩ : ByteArray)] (by simp) ?_ ?_
      · refine sub_step 1 rfl ?_
        refine sub_step 0 rfl ?_
        refine sub_step 0 rfl ?_
        refine sub_step 0 rfl ?_
        exact sub_end
      · (repeat (first | exact True.intro | refine ⟨rfl, ?_⟩))
    · refine jc_skip ?_
      (first | refine jq_row 0 [.any, .any, .any, .any, .any, .list (lI.map Inrow), .any, .any, NilC, NilC, NilC] rfl (.cons (.refl _) (.cons (.refl _) (.cons (.refl _) (.cons (.refl _) (.cons (.refl _) (.cons (.refl _) (.cons (.any _) (.cons (.any _) (.refl _))))))))) ?_ | refine jq_row 1 [.any, .any, .any, .any, .any, .list (lI.map Inrow), .any, .any, NilC, NilC, NilC] rfl (.cons (.refl _) (.cons (.refl _) (.cons (.refl _) (.cons (.refl _) (.cons (.refl _) (.cons (.refl _) (.cons (.any _) (.cons (.any _) (.refl _))))))))) ?_ | refine jq_row 2 [.any, .any, .any, .any, .any, .list (lI.map Inrow), .any, .any, NilC, NilC, NilC] rfl (.cons (.refl _) (.cons (.refl _) (.cons (.refl _) (.cons (.refl _) (.cons (.refl _) (.cons (.refl _) (.cons (.any _) (.cons (.any _) (.refl _))))))))) ?_ | refine jq_row 3 [.any, .any, .any, .any, .any, .list (lI.map Inrow), .any, .any, NilC, NilC, NilC] rfl (.cons (.refl _) (.cons (.refl _) (.cons (.refl _) (.cons (.refl _) (.cons (.refl _) (.cons (.refl _) (.cons (.any _) (.cons (.any _) (.refl _))))))))) ?_ | refine jq_row 4 [.any, .any, .any, .any, .any, .list (lI.map Inrow), .any, .any, NilC, NilC, NilC] rfl (.cons (.refl _) (.cons (.refl _) (.cons (.refl _) (.cons (.refl _) (.cons (.refl _) (.cons (.refl _) (.cons (.any _) (.cons (.any _) (.refl _))))))))) ?_)
      refine jq_cutS ([] : List ByteArray) (by simp) ?_ ?_
      · refine sub_step 0 rfl ?_
        refine sub_step 1 rfl ?_
        refine sub_step 0 rfl ?_
        refine sub_step 0 rfl ?_
        exact sub_end
      · (repeat (first | exact True.intro | refine ⟨rfl, ?_⟩))
  intro A hA
  refine jc_seq ?_
  refine jc_cut (ι := Unit) [] (fun _ => True) (fun _ => Et bd W br bt bx) (fun _ => [.blk bt 34 [.any, .any, .any, .any, .any, .list (lI.map Inrow), .any, .any, .any, NilC, NilC], Mk bx bd V (.slice none 0 0) A Sh ⟨#[]⟩ 0 N 0, Dk bd L, .blk br 34 Zt]) ?_ ?_
  · refine jc_seq ?_
    refine jc_cut (ι := Bool) [] (fun b => b = true → 0 < lI.length) (fun b => (116, Bl b) :: Et bd W br bt bx) (fun _ => [.blk bt 34 [.any, .any, .any, .any, .any, .list (lI.map Inrow), .any, .any, NilC, NilC, NilC], Mk bx bd V (.slice none 0 0) A Sh ⟨#[]⟩ 0 N 0, Dk bd L, .blk br 34 Zt]) ?_ ?_
    · by_cases hl : (0 : Int) < ((lI.map Inrow).length : Int)
      · refine jc_region ?_
        refine jl_op ?_ (nb rfl)
        refine ow_fieldAddr rfl rfl rfl (nb rfl) ?_
        refine jl_op ?_ (nb rfl)
        refine ow_load 0 rfl rfl rfl rfl ?_
        refine jl_op ?_ (nb rfl)
        refine ow_len rfl (fun hlen => ?_)
        refine jl_op ?_ (nb rfl)
        refine ow_gtr rfl rfl ?_
        refine jl_op ?_ (nb rfl)
        refine ow_move rfl ?_
        refine jl_guardY rfl (by first | assumption | exact decide_eq_true (by first | assumption | omega) | exact decide_eq_false (by first | assumption | omega) | with_reducible rfl) (nb rfl) ?_
        refine ow_move rfl ?_
        refine jl_guardY rfl (by (first | assumption | exact decide_eq_true (by first | assumption | omega) | exact decide_eq_false (by first | assumption | omega) | with_reducible rfl)) (nb rfl) (ow_callP [2] rfl rfl (Nx_c _ hL hLn (by omega)) (fun k8 hk8 => ?_))
        refine jl_guardY rfl (by first | assumption | exact decide_eq_true (by first | assumption | omega) | exact decide_eq_false (by first | assumption | omega) | with_reducible rfl) (nb rfl) ?_
        refine ow_eql rfl rfl ?_
        refine jl_op ?_ (nb rfl)
        refine ow_pickT rfl (by first | assumption | exact decide_eq_true (by first | assumption | omega) | exact decide_eq_false (by first | assumption | omega) | with_reducible rfl) rfl ?_
        refine jl_nil ?_
        refine jq_cutS (decide (k8 = 1)) (fun _ => by simp at hl; omega) ?_ ?_
        · refine sub_step 1 rfl ?_
          refine sub_step 1 rfl ?_
          refine sub_step 0 rfl ?_
          refine sub_step 0 rfl ?_
          exact sub_end
        · (repeat (first | exact True.intro | refine ⟨rfl, ?_⟩))
      · refine jc_region ?_
        refine jl_op ?_ (nb rfl)
        refine ow_fieldAddr rfl rfl rfl (nb rfl) ?_
        refine jl_op ?_ (nb rfl)
        refine ow_load 0 rfl rfl rfl rfl ?_
        refine jl_op ?_ (nb rfl)
        refine ow_len rfl (fun hlen => ?_)
        refine jl_op ?_ (nb rfl)
        refine ow_gtr rfl rfl ?_
        refine jl_op ?_ (nb rfl)
        refine ow_move rfl ?_
        refine jl_guardN rfl (by first | assumption | exact decide_eq_true (by first | assumption | omega) | exact decide_eq_false (by first | assumption | omega) | with_reducible rfl) (nb rfl) ?_
        refine jl_guardN rfl (by first | assumption | exact decide_eq_true (by first | assumption | omega) | exact decide_eq_false (by first | assumption | omega) | with_reducible rfl) (nb rfl) ?_
        refine jl_guardN rfl (by first | assumption | exact decide_eq_true (by first | assumption | omega) | exact decide_eq_false (by first | assumption | omega) | with_reducible rfl) (nb rfl) ?_
        refine jl_op ?_ (nb rfl)
        refine ow_pickF rfl (by first | assumption | exact decide_eq_true (by first | assumption | omega) | exact decide_eq_false (by first | assumption | omega) | with_reducible rfl) rfl ?_
        refine jl_nil ?_
        refine jq_cutS false (by simp) ?_ ?_
        · refine sub_step 0 rfl ?_
          refine sub_step 0 rfl ?_
          refine sub_step 0 rfl ?_
          refine sub_step 0 rfl ?_
          exact sub_end
        · (repeat (first | exact True.intro | refine ⟨rfl, ?_⟩))
    intro b hb
    refine jc_cond rfl (fun hbt => ?_) (fun hbt => ?_)
    · have hl0 := hb hbt
      have hx := hokI.2 lI[0] (List.getElem_mem _)
      refine jc_seq ?_
      refine jc_region ?_
      refine jl_op ?_ (nb rfl)
      refine ow_fieldAddr rfl rfl rfl (nb rfl) ?_
      refine jl_op ?_ (nb rfl)
      refine ow_load 0 rfl rfl rfl rfl ?_
      refine jl_op (ow_indexAddrMapE (k := 0) rfl rfl hl0 rfl rfl (nb rfl) ?_) (nb rfl)
      refine jl_op ?_ (nb rfl)
      refine ow_loadPlaceN rfl rfl rfl ?_
      refine jl_op ?_ (nb rfl)
      refine ow_alloc rfl rfl (fun bl => ?_)
      refine jl_op0 ?_
      refine ow_storeAll 0 rfl rfl rfl rfl rfl rfl ?_
      refine jl_nil ?_
      refine jq_then ?_
      refine jc_seq ?_
      refine jc_any rfl rfl (by kernel_rfl) (by kernel_rfl) ?_
      refine any_op (fun c => ow_fieldAddr rfl rfl rfl (nb rfl) ⟨rfl, List.Perm.refl _⟩) ?_
      refine any_op (fun c => ow_load 0 rfl rfl rfl rfl ⟨rfl, List.Perm.refl _⟩) ?_
      refine any_op (fun c => ow_move rfl ⟨rfl, List.Perm.refl _⟩) ?_
      refine any_op (fun c => ow_fieldAddr rfl rfl rfl (nb rfl) ⟨rfl, List.Perm.refl _⟩) ?_
      refine any_op (fun c => ow_load 0 rfl rfl rfl rfl ⟨rfl, List.Perm.refl _⟩) ?_
      refine any_op (fun c => ow_fieldAddr rfl rfl rfl (nb rfl) ⟨rfl, List.Perm.refl _⟩) ?_
      refine any_op (fun c => ow_load 0 rfl rfl rfl rfl ⟨rfl, List.Perm.refl _⟩) ?_
      refine any_op (fun c => ow_sub64 rfl rfl (by omega) ⟨rfl, List.Perm.refl _⟩) ?_
      refine any_op (fun c => ow_add64 rfl rfl (by omega) ⟨rfl, List.Perm.refl _⟩) ?_
      refine any_op (fun c => ow_callA [3] rfl rfl (Next_c L _ (lI[0].2.2 - lI[0].2.1 + 1) hL hLn (by omega))) ?_
      refine any_op (fun c => ow_exarg 130 rfl (fun i => ow_add64 rfl rfl (by have := i.2; omega) ⟨rfl, .refl _⟩)) ?_
      refine any_op (fun c => ow_exarg 131 rfl (fun i => ow_assign rfl ⟨rfl, .refl _⟩)) ?_
      refine any_nil ?_
      refine jq_slot 17 rfl (fun lo => ?_)
      have hlo := lo.2
      refine jq_then ?_
      refine jc_anyB 14 none rfl (by kernel_rfl) (by kernel_rfl) ?_
      refine any_op (fun c => ow_fieldAddr rfl rfl rfl (nb rfl) ⟨rfl, List.Perm.refl _⟩) ?_
      refine any_op (fun c => ow_load 0 rfl rfl rfl rfl ⟨rfl, List.Perm.refl _⟩) ?_
      refine any_op (fun c => ow_move rfl ⟨rfl, List.Perm.refl _⟩) ?_
      refine any_op (fun c => ow_move rfl ⟨rfl, List.Perm.refl _⟩) ?_
      refine any_op (fun c => ow_move rfl ⟨rfl, List.Perm.refl _⟩) ?_
      refine any_op (fun c => ow_fieldAddr rfl rfl rfl (nb rfl) ⟨rfl, List.Perm.refl _⟩) ?_
      refine any_op (fun c => ow_load 0 rfl rfl rfl rfl ⟨rfl, List.Perm.refl _⟩) ?_
      refine any_op (fun c => ow_move rfl ⟨rfl, List.Perm.refl _⟩) ?_
      refine any_op (fun c => ow_sub64 rfl rfl (by omega) ⟨rfl, List.Perm.refl _⟩) ?_
      refine any_op (fun c => ow_add64 rfl rfl (by omega) ⟨rfl, List.Perm.refl _⟩) ?_
      refine any_op (fun c => ow_callA [3] rfl rfl (Next_c L _ (lI[0].2.2 - (lI[0].2.1 + lo.1) + 1) hL hLn (by omega))) ?_
      refine any_op (fun c => ow_exarg 142 rfl (fun i => ow_add64 rfl rfl (by have := i.2; omega) ⟨rfl, .refl _⟩)) ?_
      refine any_op (fun c => ow_exarg 143 rfl (fun i => ow_build rfl rfl rfl rfl rfl ⟨rfl, .refl _⟩)) ?_
      refine any_op (fun c => ow_exarg 144 rfl (fun i => ow_buildSlice rfl rfl (nb rfl) rfl rfl (nb rfl) ⟨rfl, .refl _⟩)) ?_
      refine any_nil (afin_none ?_)
      refine jl_slot 145 rfl (fun n => ?_)
      refine jl_op ?_ (nb rfl)
      refine ow_fieldAddr rfl rfl rfl (nb rfl) ?_
      refine jl_op0 ?_
      refine ow_store1 1 rfl rfl rfl rfl (nb rfl) ?_
      refine jl_nil ?_
      (first | refine jq_row 0 [.any, .any, .any, .any, .any, .list (lI.map Inrow), .any, .any, .any, NilC, NilC] rfl (.cons (.refl _) (.cons (.refl _) (.cons (.refl _) (.cons (.refl _) (.cons (.refl _) (.cons (.refl _) (.cons (.refl _) (.cons (.refl _) (.cons (.any _) (.refl _)))))))))) ?_ | refine jq_row 1 [.any, .any, .any, .any, .any, .list (lI.map Inrow), .any, .any, .any, NilC, NilC] rfl (.cons (.refl _) (.cons (.refl _) (.cons (.refl _) (.cons (.refl _) (.cons (.refl _) (.cons (.refl _) (.cons (.refl _) (.cons (.refl _) (.cons (.any _) (.refl _)))))))))) ?_ | refine jq_row 2 [.any, .any, .any, .any, .any, .list (lI.map Inrow), .any, .any, .any, NilC, NilC] rfl (.cons (.refl _) (.cons (.refl _) (.cons (.refl _) (.cons (.refl _) (.cons (.refl _) (.cons (.refl _) (.cons (.refl _) (.cons (.refl _) (.cons (.any _) (.refl _)))))))))) ?_ | refine jq_row 3 [.any, .any, .any, .any, .any, .list (lI.map Inrow), .any, .any, .any, NilC, NilC] rfl (.cons (.refl _) (.cons (.refl _) (.cons (.refl _) (.cons (.refl _) (.cons (.refl _) (.cons (.refl _) (.cons (.refl _) (.cons (.refl _) (.cons (.any _) (.refl _)))))))))) ?_ | refine jq_row 4 [.any, .any, .any, .any, .any, .list (lI.map Inrow), .any, .any, .any, NilC, NilC] rfl (.cons (.refl _) (.cons (.refl _) (.cons (.refl _) (.cons (.refl _) (.cons (.refl _) (.cons (.refl _) (.cons (.refl _) (.cons (.refl _) (.cons (.any _) (.refl _)))))))))) ?_)
      refine jq_cutS () trivial ?_ ?_
      · refine sub_step 0 rfl ?_
        refine sub_step 1 rfl ?_
        refine sub_step 1 rfl ?_
        refine sub_step 1 rfl ?_
        exact sub_end
      · (repeat (first | exact True.intro | refine ⟨rfl, ?_⟩))
    · refine jc_skip ?_
      (first | refine jq_row 0 [.any, .any, .any, .any, .any, .list (lI.map Inrow), .any, .any, .any, NilC, NilC] rfl (.cons (.refl _) (.cons (.refl _) (.cons (.refl _) (.cons (.refl _) (.cons (.refl _) (.cons (.refl _) (.cons (.refl _) (.cons (.refl _) (.cons (.any _) (.refl _)))))))))) ?_ | refine jq_row 1 [.any, .any, .any, .any, .any, .list (lI.map Inrow), .any, .any, .any, NilC, NilC] rfl (.cons (.refl _) (.cons (.refl _) (.cons (.refl _) (.cons (.refl _) (.cons (.refl _) (.cons (.refl _) (.cons (.refl _) (.cons (.refl _) (.cons (.any _) (.refl _)))))))))) ?_ | refine jq_row 2 [.any, .any, .any, .any, .any, .list (lI.map Inrow), .any, .any, .any, NilC, NilC] rfl (.cons (.refl _) (.cons (.refl _) (.cons (.refl _) (.cons (.refl _) (.cons (.refl _) (.cons (.refl _) (.cons (.refl _) (.cons (.refl _) (.cons (.any _) (.refl _)))))))))) ?_ | refine jq_row 3 [.any, .any, .any, .any, .any, .list (lI.map Inrow), .any, .any, .any, NilC, NilC] rfl (.cons (.refl _) (.cons (.refl _) (.cons (.refl _) (.cons (.refl _) (.cons (.refl _) (.cons (.refl _) (.cons (.refl _) (.cons (.refl _) (.cons (.any _) (.refl _)))))))))) ?_ | refine jq_row 4 [.any, .any, .any, .any, .any, .list (lI.map Inrow), .any, .any, .any, NilC, NilC] rfl (.cons (.refl _) (.cons (.refl _) (.cons (.refl _) (.cons (.refl _) (.cons (.refl _) (.cons (.refl _) (.cons (.refl _) (.cons (.refl _) (.cons (.any _) (.refl _)))))))))) ?_)
      refine jq_cutS () trivial ?_ ?_
      · refine sub_step 0 rfl ?_
        refine sub_step 0 rfl ?_
        refine sub_step 0 rfl ?_
        refine sub_step 0 rfl ?_
        exact sub_end
      · (repeat (first | exact True.intro | refine ⟨rfl, ?_⟩))
  intro _ _
  have gv : Gv L V A Sh := ⟨hL, hLn, hV0, hV, by omega, hSh⟩
  have hblk := (maker_c (bm := bx) (bd := bd) gv 3 (by omega)).2.1
  refine jc_ownNil 9 1 (by omega) ?_
  refine jc_seq ?_
  refine jc_region ?_
  refine jl_op ?_ (nb rfl)
  refine ow_move rfl ?_
  have con := hblk ⟨.slice none 0 0, ⟨#[]⟩, 0, N⟩ 0 [] 3 5 ⟨⟨by dsimp only; omega, by dsimp only; omega⟩, hN.1, hN.2⟩ (by omega) (by omega) (by simp) rfl (by omega) (by omega)
  dsimp only at con
  refine jl_op (ow_callNP [2, 2, 0] rfl rfl (con) (fun r n hn hr => ?_)) (nb rfl)
  obtain ⟨⟨lv2, hs2, lab2, st2⟩, v2, l2⟩ := r
  obtain ⟨hok2, hf2, hl2, hsh2⟩ := hr
  dsimp only at hl2 hsh2 hf2 ⊢
  refine jl_freezeF 148 0 rfl rfl (hf2.mono hn) ?_
  have hifs := ifs_len (l := l2) (by omega) hsh2
  refine jl_op ?_ (nb rfl)
  refine ow_fieldAddr rfl rfl rfl (nb rfl) ?_
  refine jl_op0 ?_
  refine ow_store1 3 rfl rfl rfl rfl (nb rfl) ?_
  refine jl_nil ?_
  refine jq_then ?_
  refine jc_seq ?_
  refine jc_region ?_
  refine jl_op ?_ (nb rfl)
  refine ow_fieldAddr rfl rfl rfl (nb rfl) ?_
  refine jl_op ?_ (nb rfl)
  refine ow_load 0 rfl rfl rfl rfl ?_
  refine jl_op ?_ (nb rfl)
  refine ow_call0 rfl (Ifs_c _ (by omega)) ?_
  refine jl_op ?_ (nb rfl)
  refine ow_assign rfl ?_
  refine jl_nil ?_
  refine jq_then ?_
  (first | refine jc_row 0 [.any, .any, .any, .any, .any, .any, .any, .any, .any, NilC, .list (l2.map Sm.row)] rfl (.cons (.any _) (.cons (.any _) (.cons (.any _) (.cons (.any _) (.cons (.any _) (.cons (.any _) (.cons (.any _) (.cons (.any _) (.cons (.any _) (.refl _)))))))))) ?_ | refine jc_row 1 [.any, .any, .any, .any, .any, .any, .any, .any, .any, NilC, .list (l2.map Sm.row)] rfl (.cons (.any _) (.cons (.any _) (.cons (.any _) (.cons (.any _) (.cons (.any _) (.cons (.any _) (.cons (.any _) (.cons (.any _) (.cons (.any _) (.refl _)))))))))) ?_ | refine jc_row 2 [.any, .any, .any, .any, .any, .any, .any, .any, .any, NilC, .list (l2.map Sm.row)] rfl (.cons (.any _) (.cons (.any _) (.cons (.any _) (.cons (.any _) (.cons (.any _) (.cons (.any _) (.cons (.any _) (.cons (.any _) (.cons (.any _) (.refl _)))))))))) ?_ | refine jc_row 3 [.any, .any, .any, .any, .any, .any, .any, .any, .any, NilC, .list (l2.map Sm.row)] rfl (.cons (.any _) (.cons (.any _) (.cons (.any _) (.cons (.any _) (.cons (.any _) (.cons (.any _) (.cons (.any _) (.cons (.any _) (.cons (.any _) (.refl _)))))))))) ?_ | refine jc_row 4 [.any, .any, .any, .any, .any, .any, .any, .any, .any, NilC, .list (l2.map Sm.row)] rfl (.cons (.any _) (.cons (.any _) (.cons (.any _) (.cons (.any _) (.cons (.any _) (.cons (.any _) (.cons (.any _) (.cons (.any _) (.cons (.any _) (.refl _)))))))))) ?_)
  refine jc_seq ?_
  refine jc_cut (ι := List Clm) [] (fun _ => True) (fun _ => ((18, .cell (.list ((ifsOf l2).map Irow))) :: Et3 bd W br bt)) (fun cl => [.blk bt 34 [.any, .any, .any, .any, .any, .any, .any, .any, .any, .list (cl.map Crow), .list (l2.map Sm.row)], Dk bd L, .blk br 34 Zt]) ?_ ?_
  · refine jc_seq ?_
    refine jc_cut (ι := Bool) [] (fun b => b = true → 1 < (ifsOf l2).length) (fun b => (160, Bl b) :: ((18, .cell (.list ((ifsOf l2).map Irow))) :: Et3 bd W br bt)) (fun _ => [.blk bt 34 [.any, .any, .any, .any, .any, .any, .any, .any, .any, NilC, .list (l2.map Sm.row)], Dk bd L, .blk br 34 Zt]) ?_ ?_
    · by_cases hl : (1 : Int) < (((ifsOf l2).map Irow).length : Int)
      · refine jc_region ?_
        refine jl_op ?_ (nb rfl)
        refine ow_move rfl ?_
        refine jl_op ?_ (nb rfl)
        refine ow_len rfl (fun hlen => ?_)
        refine jl_op ?_ (nb rfl)
        refine ow_gtr rfl rfl ?_
        refine jl_op ?_ (nb rfl)
        refine ow_move rfl ?_
        refine jl_guardY rfl (by first | assumption | exact decide_eq_true (by first | assumption | omega) | exact decide_eq_false (by first | assumption | omega) | with_reducible rfl) (nb rfl) ?_
        refine ow_move rfl ?_
        refine jl_guardY rfl (by (first | assumption | exact decide_eq_true (by first | assumption | omega) | exact decide_eq_false (by first | assumption | omega) | with_reducible rfl)) (nb rfl) (ow_callP [2] rfl rfl (Nx_c _ hL hLn (by omega)) (fun k9 hk9 => ?_))
        refine jl_guardY rfl (by first | assumption | exact decide_eq_true (by first | assumption | omega) | exact decide_eq_false (by first | assumption | omega) | with_reducible rfl) (nb rfl) ?_
        refine ow_eql rfl rfl ?_
        refine jl_op ?_ (nb rfl)
        refine ow_pickT rfl (by first | assumption | exact decide_eq_true (by first | assumption | omega) | exact decide_eq_false (by first | assumption | omega) | with_reducible rfl) rfl ?_
        refine jl_nil ?_
        refine jq_cutS (decide (k9 = 1)) (fun _ => by simp at hl; omega) ?_ ?_
        · refine sub_step 1 rfl ?_
          refine sub_step 0 rfl ?_
          refine sub_step 2 rfl ?_
          exact sub_end
        · (repeat (first | exact True.intro | refine ⟨rfl, ?_⟩))
      · refine jc_region ?_
        refine jl_op ?_ (nb rfl)
        refine ow_move rfl ?_
        refine jl_op ?_ (nb rfl)
        refine ow_len rfl (fun hlen => ?_)
        refine jl_op ?_ (nb rfl)
        refine ow_gtr rfl rfl ?_
        refine jl_op ?_ (nb rfl)
        refine ow_move rfl ?_
        refine jl_guardN rfl (by first | assumption | exact decide_eq_true (by first | assumption | omega) | exact decide_eq_false (by first | assumption | omega) | with_reducible rfl) (nb rfl) ?_
        refine jl_guardN rfl (by first | assumption | exact decide_eq_true (by first | assumption | omega) | exact decide_eq_false (by first | assumption | omega) | with_reducible rfl) (nb rfl) ?_
        refine jl_guardN rfl (by first | assumption | exact decide_eq_true (by first | assumption | omega) | exact decide_eq_false (by first | assumption | omega) | with_reducible rfl) (nb rfl) ?_
        refine jl_op ?_ (nb rfl)
        refine ow_pickF rfl (by first | assumption | exact decide_eq_true (by first | assumption | omega) | exact decide_eq_false (by first | assumption | omega) | with_reducible rfl) rfl ?_
        refine jl_nil ?_
        refine jq_cutS false (by simp) ?_ ?_
        · refine sub_step 0 rfl ?_
          refine sub_step 1 rfl ?_
          refine sub_step 2 rfl ?_
          exact sub_end
        · (repeat (first | exact True.intro | refine ⟨rfl, ?_⟩))
    intro b hb
    refine jc_cond rfl (fun hbt => ?_) (fun hbt => ?_)
    · have hl1 := hb hbt
      have eI : ((ifsOf l2).map Irow).length = (ifsOf l2).length := List.length_map _
      refine jc_seq ?_
      refine jc_region ?_
      refine jl_op ?_ (nb rfl)
      refine ow_move rfl ?_
      refine jl_op ?_ (nb rfl)
      refine ow_move rfl ?_
      refine jl_op ?_ (nb rfl)
      refine ow_len rfl (fun hlen => ?_)
      refine jl_op (ow_callP [1] rfl rfl (Nx_c _ hL hLn (by omega)) (fun k10 hk10 => ?_)) (nb rfl)
      refine jl_op ?_ (nb rfl)
      refine ow_assign rfl ?_
      refine jl_nil ?_
      refine jq_then ?_
      refine jc_anyB 20 none rfl (by kernel_rfl) (by kernel_rfl) ?_
      refine any_op (fun c => ow_move rfl ⟨rfl, List.Perm.refl _⟩) ?_
      refine any_op (fun c => ow_move rfl ⟨rfl, List.Perm.refl _⟩) ?_
      refine any_op (fun c => ow_indexAddrMapI rfl rfl (by omega) (by omega) rfl rfl (nb rfl) ⟨rfl, List.Perm.refl _⟩) ?_
      refine any_op (fun c => ow_loadPlace rfl rfl ⟨rfl, List.Perm.refl _⟩) ?_
      refine any_op (fun c => ow_move rfl ⟨rfl, List.Perm.refl _⟩) ?_
      refine any_op (fun c => ow_move rfl ⟨rfl, List.Perm.refl _⟩) ?_
      refine any_op (fun c => ow_add64 rfl rfl (by omega) ⟨rfl, List.Perm.refl _⟩) ?_
      refine any_op (fun c => ow_move rfl ⟨rfl, List.Perm.refl _⟩) ?_
      refine any_op (fun c => ow_move rfl ⟨rfl, List.Perm.refl _⟩) ?_
      refine any_op (fun c => ow_len rfl (fun hlen => ⟨rfl, List.Perm.refl _⟩)) ?_
      refine any_op (fun c => ow_sub64 rfl rfl (by omega) ⟨rfl, List.Perm.refl _⟩) ?_
      refine any_op (fun c => ow_callA [0] rfl rfl (Next_c L _ _ hL hLn (by omega))) ?_
      refine any_op (fun c => ow_exarg 176 rfl (fun i => ow_add64 rfl rfl (by have := i.2; omega) ⟨rfl, .refl _⟩)) ?_
      refine any_op (fun c => ow_move rfl ⟨rfl, List.Perm.refl _⟩) ?_
      refine any_op (fun c => ow_len rfl (fun hlen => ⟨rfl, List.Perm.refl _⟩)) ?_
      refine any_op (fun c => ow_exarg 177 rfl (fun i => ow_rem rfl rfl (by omega) ⟨rfl, .refl _⟩)) ?_
      have hrem : ∀ i : {i : Int // 0 ≤ i ∧ (i < (((ifsOf l2).map Irow).length : Int) - 1 ∨ i = 0)}, 0 ≤ (k10 + 1 + i.1).tmod (((ifsOf l2).map Irow).length : Int) ∧ ((k10 + 1 + i.1).tmod (((ifsOf l2).map Irow).length : Int)).toNat < (ifsOf l2).length := by
        intro i
        have h1 := Int.tmod_nonneg (((ifsOf l2).map Irow).length : Int) (show 0 ≤ k10 + 1 + i.1 by have := i.2; omega)
        have h2 := Int.tmod_lt_of_pos (k10 + 1 + i.1) (show (0 : Int) < (((ifsOf l2).map Irow).length : Int) by omega)
        omega
      refine any_op (fun c => ow_exarg 180 rfl (fun i => ow_indexAddrMapI rfl rfl (hrem i).1 (hrem i).2 rfl rfl (nb rfl) ⟨rfl, .refl _⟩)) ?_
      refine any_op (fun c => ow_exarg 181 rfl (fun i => ow_loadPlace rfl rfl ⟨rfl, .refl _⟩)) ?_
      refine any_op (fun c => ow_exarg 182 rfl (fun i => ow_build rfl rfl rfl rfl rfl ⟨rfl, .refl _⟩)) ?_
      refine any_op (fun c => ow_exarg 183 rfl (fun i => ow_buildSlice rfl rfl (nb rfl) rfl rfl (nb rfl) ⟨rfl, .refl _⟩)) ?_
      refine any_nil (afin_none ?_)
      refine jl_slot 184 rfl (fun i => ?_)
      refine jl_op ?_ (nb rfl)
      refine ow_fieldAddr rfl rfl rfl (nb rfl) ?_
      refine jl_op0 ?_
      refine ow_store1 1 rfl rfl rfl rfl (nb rfl) ?_
      refine jl_nil ?_
      refine jq_cutS ([((ifsOf l2)[k10.toNat]'(by omega), (ifsOf l2)[((k10 + 1 + i.1).tmod (((ifsOf l2).map Irow).length : Int)).toNat]'(hrem i).2)] : List Clm) trivial ?_ ?_
      · refine sub_step 0 rfl ?_
        refine sub_step 0 rfl ?_
        refine sub_step 0 rfl ?_
        exact sub_end
      · (repeat (first | exact True.intro | refine ⟨rfl, ?_⟩))
    · refine jc_skip ?_
      (first | refine jq_row 0 [.any, .any, .any, .any, .any, .any, .any, .any, .any, .list (([] : List Clm).map Crow), .list (l2.map Sm.row)] rfl (.cons (.refl _) (.cons (.refl _) (.cons (.refl _) (.cons (.refl _) (.cons (.refl _) (.cons (.refl _) (.cons (.refl _) (.cons (.refl _) (.cons (.refl _) (.cons .nil (.refl _))))))))))) ?_ | refine jq_row 1 [.any, .any, .any, .any, .any, .any, .any, .any, .any, .list (([] : List Clm).map Crow), .list (l2.map Sm.row)] rfl (.cons (.refl _) (.cons (.refl _) (.cons (.refl _) (.cons (.refl _) (.cons (.refl _) (.cons (.refl _) (.cons (.refl _) (.cons (.refl _) (.cons (.refl _) (.cons .nil (.refl _))))))))))) ?_ | refine jq_row 2 [.any, .any, .any, .any, .any, .any, .any, .any, .any, .list (([] : List Clm).map Crow), .list (l2.map Sm.row)] rfl (.cons (.refl _) (.cons (.refl _) (.cons (.refl _) (.cons (.refl _) (.cons (.refl _) (.cons (.refl _) (.cons (.refl _) (.cons (.refl _) (.cons (.refl _) (.cons .nil (.refl _))))))))))) ?_ | refine jq_row 3 [.any, .any, .any, .any, .any, .any, .any, .any, .any, .list (([] : List Clm).map Crow), .list (l2.map Sm.row)] rfl (.cons (.refl _) (.cons (.refl _) (.cons (.refl _) (.cons (.refl _) (.cons (.refl _) (.cons (.refl _) (.cons (.refl _) (.cons (.refl _) (.cons (.refl _) (.cons .nil (.refl _))))))))))) ?_ | refine jq_row 4 [.any, .any, .any, .any, .any, .any, .any, .any, .any, .list (([] : List Clm).map Crow), .list (l2.map Sm.row)] rfl (.cons (.refl _) (.cons (.refl _) (.cons (.refl _) (.cons (.refl _) (.cons (.refl _) (.cons (.refl _) (.cons (.refl _) (.cons (.refl _) (.cons (.refl _) (.cons .nil (.refl _))))))))))) ?_)
      refine jq_cutS ([] : List Clm) trivial ?_ ?_
      · refine sub_step 0 rfl ?_
        refine sub_step 0 rfl ?_
        refine sub_step 0 rfl ?_
        exact sub_end
      · (repeat (first | exact True.intro | refine ⟨rfl, ?_⟩))
  intro cl _
  refine jc_seq ?_
  refine jc_cut (ι := List Sm × List Clm) [] (fun i => (i.1.length ≤ 10 ∧ ∀ s ∈ i.1, Shal 3 s) ∧ weightOf i.1 ≤ W) (fun _ => ((18, .cell (.list ((ifsOf l2).map Irow))) :: Et3 bd W br bt)) (fun i => [.blk bt 34 [.any, .any, .any, .any, .any, .any, .any, .any, .any, .list (i.2.map Crow), .list (i.1.map Sm.row)], Dk bd L, .blk br 34 Zt]) ?_ ?_
  · refine jc_block ?_
    refine jc_loopS (ι := List Sm × List Clm) [] (fun i => i.1.length ≤ 10 ∧ ∀ s ∈ i.1, Shal 3 s) (fun _ => ((18, .cell (.list ((ifsOf l2).map Irow))) :: Et3 bd W br bt)) (fun i => [.blk bt 34 [.any, .any, .any, .any, .any, .any, .any, .any, .any, .list (i.2.map Crow), .list (i.1.map Sm.row)], Dk bd L, .blk br 34 Zt]) (fun i => i.1.length) (l2, cl) ⟨by dsimp only; omega, hsh2⟩ ?_ ?_ ?_
    · refine sub_step 0 rfl ?_
      refine sub_step 0 rfl ?_
      refine sub_step 0 rfl ?_
      exact sub_end
    · (repeat (first | exact True.intro | refine ⟨rfl, ?_⟩))
    · rintro ⟨l, cl⟩ ⟨hl10, hsh⟩
      dsimp only at hl10 hsh ⊢
      have eL : (l.map Sm.row).length = l.length := List.length_map _
      by_cases hl : (0 : Int) < ((l.map Sm.row).length : Int)
      · refine jc_seq ?_
        refine jc_seq ?_
        refine jc_region ?_
        refine jl_op ?_ (nb rfl)
        refine ow_fieldAddr rfl rfl rfl (nb rfl) ?_
        refine jl_op ?_ (nb rfl)
        refine ow_load 0 rfl rfl rfl rfl ?_
        refine jl_op ?_ (nb rfl)
        refine ow_len rfl (fun hlen => ?_)
        refine jl_op ?_ (nb rfl)
        refine ow_gtr rfl rfl ?_
        refine jl_op ?_ (nb rfl)
        refine ow_move rfl ?_
        refine jl_guardY rfl (by first | assumption | exact decide_eq_true (by first | assumption | omega) | exact decide_eq_false (by first | assumption | omega) | with_reducible rfl) (nb rfl) ?_
        refine ow_fieldAddr rfl rfl rfl (nb rfl) ?_
        refine jl_guardY rfl (by first | assumption | exact decide_eq_true (by first | assumption | omega) | exact decide_eq_false (by first | assumption | omega) | with_reducible rfl) (nb rfl) ?_
        refine ow_load 0 rfl rfl rfl rfl ?_
        refine jl_guardY rfl (by first | assumption | exact decide_eq_true (by first | assumption | omega) | exact decide_eq_false (by first | assumption | omega) | with_reducible rfl) (nb rfl) ?_
        refine ow_call0 rfl (rWeight_c _) ?_
        refine jl_guardY rfl (by first | assumption | exact decide_eq_true (by first | assumption | omega) | exact decide_eq_false (by first | assumption | omega) | with_reducible rfl) (nb rfl) ?_
        refine ow_move rfl ?_
        refine jl_guardY rfl (by first | assumption | exact decide_eq_true (by first | assumption | omega) | exact decide_eq_false (by first | assumption | omega) | with_reducible rfl) (nb rfl) ?_
        refine ow_gtr rfl rfl ?_
        refine jl_op ?_ (nb rfl)
        refine ow_pickT rfl (by first | assumption | exact decide_eq_true (by first | assumption | omega) | exact decide_eq_false (by first | assumption | omega) | with_reducible rfl) rfl ?_
        refine jl_nil ?_
        refine jq_then ?_
        refine jc_condd rfl (fun hw => ?_) (fun hw => ?_)
        · refine jc_skip ?_
          refine jq_then ?_
          refine jc_block ?_
          refine jc_region ?_
          refine jl_op ?_ (nb rfl)
          refine ow_fieldAddr rfl rfl rfl (nb rfl) ?_
          refine jl_op ?_ (nb rfl)
          refine ow_load 0 rfl rfl rfl rfl ?_
          refine jl_op ?_ (nb rfl)
          refine ow_fieldAddr rfl rfl rfl (nb rfl) ?_
          refine jl_op ?_ (nb rfl)
          refine ow_load 0 rfl rfl rfl rfl ?_
          refine jl_op ?_ (nb rfl)
          refine ow_len rfl (fun hlen => ?_)
          refine jl_op ?_ (nb rfl)
          refine ow_sub64 rfl rfl (by omega) ?_
          refine jl_op (ow_prefix rfl rfl (by omega) (by omega) ?_) (nb rfl)
          rw [show List.take ((((l.map Sm.row).length : Nat) : Int) - 1).toNat (l.map Sm.row) = (l.take (l.length - 1)).map Sm.row by
            rw [List.map_take, eL]; congr 1; omega]
          refine jl_op ?_ (nb rfl)
          refine ow_fieldAddr rfl rfl rfl (nb rfl) ?_
          refine jl_op0 ?_
          refine ow_store1 0 rfl rfl rfl rfl (nb rfl) ?_
          refine jl_op ?_ (nb rfl)
          refine ow_fieldAddr rfl rfl rfl (nb rfl) ?_
          refine jl_op0 ?_
          refine ow_store1 0 rfl rfl rfl rfl (nb rfl) ?_
          refine jl_nil ?_
          refine jq_block ?_
          (first | refine jq_row 0 [.any, .any, .any, .any, .any, .any, .any, .any, .any, .list (([] : List Clm).map Crow), .list ((l.take (l.length - 1)).map Sm.row)] rfl (.cons (.refl _) (.cons (.refl _) (.cons (.refl _) (.cons (.refl _) (.cons (.refl _) (.cons (.refl _) (.cons (.refl _) (.cons (.refl _) (.cons (.refl _) (.cons .nil (.refl _))))))))))) ?_ | refine jq_row 1 [.any, .any, .any, .any, .any, .any, .any, .any, .any, .list (([] : List Clm).map Crow), .list ((l.take (l.length - 1)).map Sm.row)] rfl (.cons (.refl _) (.cons (.refl _) (.cons (.refl _) (.cons (.refl _) (.cons (.refl _) (.cons (.refl _) (.cons (.refl _) (.cons (.refl _) (.cons (.refl _) (.cons .nil (.refl _))))))))))) ?_ | refine jq_row 2 [.any, .any, .any, .any, .any, .any, .any, .any, .any, .list (([] : List Clm).map Crow), .list ((l.take (l.length - 1)).map Sm.row)] rfl (.cons (.refl _) (.cons (.refl _) (.cons (.refl _) (.cons (.refl _) (.cons (.refl _) (.cons (.refl _) (.cons (.refl _) (.cons (.refl _) (.cons (.refl _) (.cons .nil (.refl _))))))))))) ?_ | refine jq_row 3 [.any, .any, .any, .any, .any, .any, .any, .any, .any, .list (([] : List Clm).map Crow), .list ((l.take (l.length - 1)).map Sm.row)] rfl (.cons (.refl _) (.cons (.refl _) (.cons (.refl _) (.cons (.refl _) (.cons (.refl _) (.cons (.refl _) (.cons (.refl _) (.cons (.refl _) (.cons (.refl _) (.cons .nil (.refl _))))))))))) ?_ | refine jq_row 4 [.any, .any, .any, .any, .any, .any, .any, .any, .any, .list (([] : List Clm).map Crow), .list ((l.take (l.length - 1)).map Sm.row)] rfl (.cons (.refl _) (.cons (.refl _) (.cons (.refl _) (.cons (.refl _) (.cons (.refl _) (.cons (.refl _) (.cons (.refl _) (.cons (.refl _) (.cons (.refl _) (.cons .nil (.refl _))))))))))) ?_)
          refine jq_againS (i := (l, cl)) (l.take (l.length - 1), []) ⟨by simp; omega, fun s hs => hsh s (List.mem_of_mem_take hs)⟩ (by simp; omega) ?_ ?_
          · refine sub_step 0 rfl ?_
            refine sub_step 0 rfl ?_
            refine sub_step 0 rfl ?_
            exact sub_end
          · (repeat (first | exact True.intro | refine ⟨rfl, ?_⟩))
        · refine jc_exit ?_
          refine jq_then_exit ?_
          refine jq_then_exit ?_
          refine jq_block_exit ?_
          refine jq_cutS (l, cl) ⟨⟨hl10, hsh⟩, by unfold weightOf; dsimp only; omega⟩ ?_ ?_
          · refine sub_step 0 rfl ?_
            refine sub_step 0 rfl ?_
            refine sub_step 0 rfl ?_
            exact sub_end
          · (repeat (first | exact True.intro | refine ⟨rfl, ?_⟩))
      · have hl0 : l = [] := List.eq_nil_of_length_eq_zero (by omega)
        subst hl0
        refine jc_seq ?_
        refine jc_seq ?_
        refine jc_region ?_
        refine jl_op ?_ (nb rfl)
        refine ow_fieldAddr rfl rfl rfl (nb rfl) ?_
        refine jl_op ?_ (nb rfl)
        refine ow_load 0 rfl rfl rfl rfl ?_
        refine jl_op ?_ (nb rfl)
        refine ow_len rfl (fun hlen => ?_)
        refine jl_op ?_ (nb rfl)
        refine ow_gtr rfl rfl ?_
        refine jl_op ?_ (nb rfl)
        refine ow_move rfl ?_
        refine jl_guardN rfl (by first | assumption | exact decide_eq_true (by first | assumption | omega) | exact decide_eq_false (by first | assumption | omega) | with_reducible rfl) (nb rfl) ?_
        refine jl_guardN rfl (by first | assumption | exact decide_eq_true (by first | assumption | omega) | exact decide_eq_false (by first | assumption | omega) | with_reducible rfl) (nb rfl) ?_
        refine jl_guardN rfl (by first | assumption | exact decide_eq_true (by first | assumption | omega) | exact decide_eq_false (by first | assumption | omega) | with_reducible rfl) (nb rfl) ?_
        refine jl_guardN rfl (by first | assumption | exact decide_eq_true (by first | assumption | omega) | exact decide_eq_false (by first | assumption | omega) | with_reducible rfl) (nb rfl) ?_
        refine jl_guardN rfl (by first | assumption | exact decide_eq_true (by first | assumption | omega) | exact decide_eq_false (by first | assumption | omega) | with_reducible rfl) (nb rfl) ?_
        refine jl_op ?_ (nb rfl)
        refine ow_pickF rfl (by first | assumption | exact decide_eq_true (by first | assumption | omega) | exact decide_eq_false (by first | assumption | omega) | with_reducible rfl) rfl ?_
        refine jl_nil ?_
        refine jq_then ?_
        refine jc_cond rfl (fun h => by cases h) (fun _ => ?_)
        refine jc_exit ?_
        refine jq_then_exit ?_
        refine jq_then_exit ?_
        refine jq_block_exit ?_
        refine jq_cutS ([], cl) ⟨⟨hl10, hsh⟩, by simp only [weightOf, wAll]; omega⟩ ?_ ?_
        · refine sub_step 0 rfl ?_
          refine sub_step 0 rfl ?_
          refine sub_step 0 rfl ?_
          exact sub_end
        · (repeat (first | exact True.intro | refine ⟨rfl, ?_⟩))
  rintro ⟨l, cl⟩ ⟨⟨hl10, hsh⟩, hwt⟩
  dsimp only at hl10 hsh hwt ⊢
  have hifs := ifs_len hl10 hsh
  refine jc_seq ?_
  refine jc_cut (ι := Unit) [] (fun _ => True) (fun _ => Et3 bd W br bt) (fun _ => [.blk bt 34 (Trow l), Dk bd L, .blk br 34 Zt]) ?_ ?_
  · have wk : RowLe [.any, .any, .any, .any, .any, .any, .any, .any, .any, .list (cl.map Crow), .list (l.map Sm.row)] (Trow l) := (.cons (.any _) (.cons (.any _) (.cons (.any _) (.cons (.any _) (.cons (.any _) (.cons (.any _) (.cons (.any _) (.cons (.any _) (.cons (.any _) (.cons (.any _) (.refl _)))))))))))
    have wk0 : RowLe [.any, .any, .any, .any, .any, .any, .any, .any, .any, NilC, .list (l.map Sm.row)] (Trow l) := (.cons (.any _) (.cons (.any _) (.cons (.any _) (.cons (.any _) (.cons (.any _) (.cons (.any _) (.cons (.any _) (.cons (.any _) (.cons (.any _) (.cons (.any _) (.refl _)))))))))))
    by_cases hl : (0 : Int) < ((cl.map Crow).length : Int)
    · refine jc_seq ?_
      refine jc_region ?_
      refine jl_op ?_ (nb rfl)
      refine ow_fieldAddr rfl rfl rfl (nb rfl) ?_
      refine jl_op ?_ (nb rfl)
      refine ow_load 0 rfl rfl rfl rfl ?_
      refine jl_op ?_ (nb rfl)
      refine ow_len rfl (fun hlen => ?_)
      refine jl_op ?_ (nb rfl)
      refine ow_gtr rfl rfl ?_
      refine jl_op ?_ (nb rfl)
      refine ow_move rfl ?_
      refine jl_guardY rfl (by first | assumption | exact decide_eq_true (by first | assumption | omega) | exact decide_eq_false (by first | assumption | omega) | with_reducible rfl) (nb rfl) ?_
      refine ow_fieldAddr rfl rfl rfl (nb rfl) ?_
      refine jl_guardY rfl (by first | assumption | exact decide_eq_true (by first | assumption | omega) | exact decide_eq_false (by first | assumption | omega) | with_reducible rfl) (nb rfl) ?_
      refine ow_load 0 rfl rfl rfl rfl ?_
      refine jl_guardY rfl (by first | assumption | exact decide_eq_true (by first | assumption | omega) | exact decide_eq_false (by first | assumption | omega) | with_reducible rfl) (nb rfl) ?_
      refine ow_call0 rfl (Ifs_c _ (by omega)) ?_
      refine jl_guardY rfl (by first | assumption | exact decide_eq_true (by first | assumption | omega) | exact decide_eq_false (by first | assumption | omega) | with_reducible rfl) (nb rfl) ?_
      refine ow_len rfl (fun hlen => ?_)
      refine jl_guardY rfl (by first | assumption | exact decide_eq_true (by first | assumption | omega) | exact decide_eq_false (by first | assumption | omega) | with_reducible rfl) (nb rfl) ?_
      refine ow_move rfl ?_
      refine jl_guardY rfl (by first | assumption | exact decide_eq_true (by first | assumption | omega) | exact decide_eq_false (by first | assumption | omega) | with_reducible rfl) (nb rfl) ?_
      refine ow_len rfl (fun hlen => ?_)
      refine jl_guardY rfl (by first | assumption | exact decide_eq_true (by first | assumption | omega) | exact decide_eq_false (by first | assumption | omega) | with_reducible rfl) (nb rfl) ?_
      refine ow_neq rfl rfl ?_
      refine jl_op ?_ (nb rfl)
      refine ow_pickT rfl (by first | assumption | exact decide_eq_true (by first | assumption | omega) | exact decide_eq_false (by first | assumption | omega) | with_reducible rfl) rfl ?_
      refine jl_nil ?_
      refine jq_then ?_
      refine jc_cond rfl (fun _ => ?_) (fun _ => ?_)
      · refine jc_region ?_
        refine jl_op ?_ (nb rfl)
        refine ow_fieldAddr rfl rfl rfl (nb rfl) ?_
        refine jl_op0 ?_
        refine ow_store1 0 rfl rfl rfl rfl (nb rfl) ?_
        refine jl_nil ?_
        (first | refine jq_row 0 _ rfl wk0 ?_ | refine jq_row 1 _ rfl wk0 ?_ | refine jq_row 2 _ rfl wk0 ?_)
        refine jq_cutS () trivial ?_ ?_
        · refine sub_step 0 rfl ?_
          refine sub_step 0 rfl ?_
          refine sub_step 0 rfl ?_
          exact sub_end
        · (repeat (first | exact True.intro | refine ⟨rfl, ?_⟩))
      · refine jc_skip ?_
        (first | refine jq_row 0 _ rfl wk ?_ | refine jq_row 1 _ rfl wk ?_ | refine jq_row 2 _ rfl wk ?_)
        refine jq_cutS () trivial ?_ ?_
        · refine sub_step 0 rfl ?_
          refine sub_step 0 rfl ?_
          refine sub_step 0 rfl ?_
          exact sub_end
        · (repeat (first | exact True.intro | refine ⟨rfl, ?_⟩))
    · refine jc_seq ?_
      refine jc_region ?_
      refine jl_op ?_ (nb rfl)
      refine ow_fieldAddr rfl rfl rfl (nb rfl) ?_
      refine jl_op ?_ (nb rfl)
      refine ow_load 0 rfl rfl rfl rfl ?_
      refine jl_op ?_ (nb rfl)
      refine ow_len rfl (fun hlen => ?_)
      refine jl_op ?_ (nb rfl)
      refine ow_gtr rfl rfl ?_
      refine jl_op ?_ (nb rfl)
      refine ow_move rfl ?_
      refine jl_guardN rfl (by first | assumption | exact decide_eq_true (by first | assumption | omega) | exact decide_eq_false (by first | assumption | omega) | with_reducible rfl) (nb rfl) ?_
      refine jl_guardN rfl (by first | assumption | exact decide_eq_true (by first | assumption | omega) | exact decide_eq_false (by first | assumption | omega) | with_reducible rfl) (nb rfl) ?_
      refine jl_guardN rfl (by first | assumption | exact decide_eq_true (by first | assumption | omega) | exact decide_eq_false (by first | assumption | omega) | with_reducible rfl) (nb rfl) ?_
      refine jl_guardN rfl (by first | assumption | exact decide_eq_true (by first | assumption | omega) | exact decide_eq_false (by first | assumption | omega) | with_reducible rfl) (nb rfl) ?_
      refine jl_guardN rfl (by first | assumption | exact decide_eq_true (by first | assumption | omega) | exact decide_eq_false (by first | assumption | omega) | with_reducible rfl) (nb rfl) ?_
      refine jl_guardN rfl (by first | assumption | exact decide_eq_true (by first | assumption | omega) | exact decide_eq_false (by first | assumption | omega) | with_reducible rfl) (nb rfl) ?_
      refine jl_guardN rfl (by first | assumption | exact decide_eq_true (by first | assumption | omega) | exact decide_eq_false (by first | assumption | omega) | with_reducible rfl) (nb rfl) ?_
      refine jl_op ?_ (nb rfl)
      refine ow_pickF rfl (by first | assumption | exact decide_eq_true (by first | assumption | omega) | exact decide_eq_false (by first | assumption | omega) | with_reducible rfl) rfl ?_
      refine jl_nil ?_
      refine jq_then ?_
      refine jc_cond rfl (fun h => by cases h) (fun _ => ?_)
      refine jc_skip ?_
      (first | refine jq_row 0 _ rfl wk ?_ | refine jq_row 1 _ rfl wk ?_ | refine jq_row 2 _ rfl wk ?_)
      refine jq_cutS () trivial ?_ ?_
      · refine sub_step 0 rfl ?_
        refine sub_step 0 rfl ?_
        refine sub_step 0 rfl ?_
        exact sub_end
      · (repeat (first | exact True.intro | refine ⟨rfl, ?_⟩))
  intro _ _
  refine jc_seq ?_
  refine jc_region ?_
  refine jl_op ?_ (nb rfl)
  refine ow_loadAll 0 rfl rfl rfl rfl ?_
  refine jl_op0 ?_
  refine ow_storeAll 2 rfl rfl rfl rfl rfl rfl ?_
  refine jl_nil ?_
  refine jq_then ?_
  refine jc_ret ?_
  (first | refine jq_retRowS rfl rfl rfl rfl 0 rfl (fun K h => h l ⟨hl10, hsh, hwt⟩) ?_ | refine jq_retRowS rfl rfl rfl rfl 1 rfl (fun K h => h l ⟨hl10, hsh, hwt⟩) ?_ | refine jq_retRowS rfl rfl rfl rfl 2 rfl (fun K h => h l ⟨hl10, hsh, hwt⟩) ?_)
  refine sub_step 2 rfl ?_
  exact sub_end
end
end Go.Proofs.Ytfnephpolfnmoaa
