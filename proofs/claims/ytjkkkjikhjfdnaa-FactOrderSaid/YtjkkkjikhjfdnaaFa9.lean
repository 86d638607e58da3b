import Derived.Test.YtjkkkjikhjfdnaaFa8
namespace Go.Proofs.Ytjkkkjikhjfdnaa
open Go.Vc
attribute [local irreducible] JL JC JQ OpWp Con ConN
attribute [local irreducible] isSmall isBlock
set_option maxHeartbeats 4000000

abbrev GoodA (a : List Tm) : Prop := ∀ t ∈ a, (0 ≤ t.1 ∧ t.1 < 12) ∧ -10 ≤ t.2 ∧ t.2 ≤ 10
theorem FactOrder_c (l : List Int) (turn most : Int) (hl : InR l) (hturn : 0 ≤ turn ∧ turn ≤ 255) (hmost : -32768 ≤ most ∧ most ≤ 32767) :
    Con Try.prog 4 [.cell (.list (l.map Irow)), In .u8 turn, In .i16 most] [] (fun K => K (Bl true) []) := by
  refine con_intro Try.func4 rfl rfl (Nat.le_of_ble_eq_true rfl) (fun c hc => ?_)
  refine jc_seq ?_
  refine jc_region ?_
  refine jl_op ?_ (nb rfl)
  refine ow_assign rfl ?_
  refine jl_nil ?_
  refine jq_then ?_
  refine jc_seq ?_
  refine jc_seq ?_
  refine jc_region ?_
  refine jl_op ?_ (nb rfl)
  refine ow_move rfl ?_
  refine jl_op ?_ (nb rfl)
  refine ow_call0 rfl (Few_c l) ?_
  refine jl_op ?_ (nb rfl)
  refine ow_notdec rfl ?_
  refine jl_nil ?_
  refine jq_then ?_
  refine jc_cond rfl (fun hb => ?_) (fun hb => ?_)
  · refine jc_seq ?_
    refine jc_region ?_
    refine jl_op ?_ (nb rfl)
    refine ow_call0 rfl (awake_c) ?_
    refine jl_op ?_ (nb rfl)
    refine ow_assign rfl ?_
    refine jl_nil ?_
    refine jq_then ?_
    refine jc_ret ?_
    refine jq_then_ret ?_
    refine jq_ret1 rfl rfl [] rfl (fun K h => h)
  · have hLn : l.length ≤ 400 := by simpa using hb
    refine jc_skip ?_
    refine jq_then ?_
    refine jc_seq ?_
    refine jc_region ?_
    refine jl_op ?_ (nb rfl)
    refine ow_move rfl ?_
    refine jl_op (ow_call [] rfl rfl (New_c l) (fun b => ?_)) (nb rfl)
    refine jl_op ?_ (nb rfl)
    refine ow_assign rfl ?_
    refine jl_nil ?_
    refine jq_then ?_
    refine jc_seq ?_
    refine jc_region ?_
    refine jl_op ?_ (nb rfl)
    refine ow_assign rfl ?_
    refine jl_op ?_ (nb rfl)
    refine ow_assign rfl ?_
    refine jl_nil ?_
    refine jq_then ?_
    refine jc_seq ?_
    refine jc_seq ?_
    refine jc_region ?_
    refine jl_op ?_ (nb rfl)
    refine ow_move rfl ?_
    refine jl_op (ow_callP [0] rfl rfl (Nx_c _ hl hLn (by omega)) (fun n0 hn0 => ?_)) (nb rfl)
    refine jl_op ?_ (nb rfl)
    refine ow_assign rfl ?_
    refine jl_nil ?_
    refine jq_then ?_
    refine jc_block ?_
    refine jc_ownNil 44 2 (by omega) ?_
    refine jc_loopS (ι := Int × Value × List Tm) [] (fun i => 0 ≤ i.1 ∧ i.2.2.length + i.1 ≤ 29 ∧ i.2.1.oneCell' = true ∧ GoodA i.2.2) (fun i => [(1, In .u8 turn), (2, In .i16 most), (7, Ptr b), (8, .cell (.val i.2.1)), (9, .cell (.val (.slice none 0 0))), (10, In .i64 i.1)]) (fun i => [Ow i.2.1 i.2.2, Dk b l]) (fun i => i.1.toNat) (n0, .slice none 0 0, []) ⟨by dsimp only; omega, by dsimp only [List.length_nil]; omega, rfl, fun t h => by cases h⟩ ?_ ?_ ?_
    · refine sub_step 0 rfl ?_
      refine sub_step 0 rfl ?_
      exact sub_end
    · (repeat (first | exact True.intro | refine ⟨rfl, ?_⟩))
    · rintro ⟨n, W, a⟩ ⟨hn, han, hW, ha⟩
      dsimp only at hn han hW ha ⊢
      refine jc_reset [(1, In .u8 turn), (2, In .i16 most), (7, Ptr b), (8, .cell (.val W)), (9, .cell (.val (.slice none 0 0))), (10, In .i64 n)] [Ow W a, Dk b l] ?_ ⟨[0, 0], [], rfl⟩ ?_
      · (repeat (first | exact True.intro | refine ⟨rfl, ?_⟩))
      have eA : (a.map TR).length = a.length := List.length_map _
      refine jc_seq ?_
      refine jc_seq ?_
      refine jc_region ?_
      refine jl_op ?_ (nb rfl)
      refine ow_move rfl ?_
      refine jl_op ?_ (nb rfl)
      refine ow_gtr rfl rfl ?_
      refine jl_nil ?_
      refine jq_then ?_
      refine jc_condd rfl (fun hgt => ?_) (fun hle => ?_)
      · refine jc_skip ?_
        refine jq_then ?_
        refine jc_seq ?_
        refine jc_block ?_
        refine jc_region ?_
        refine jl_op ?_ (nb rfl)
        refine ow_move rfl ?_
        refine jl_op ?_ (nb rfl)
        refine ow_move rfl ?_
        refine jl_op (ow_callP [1] rfl rfl (Nx_c _ hl hLn (by omega)) (fun x hx => ?_)) (nb rfl)
        refine jl_op ?_ (nb rfl)
        refine ow_move rfl ?_
        refine jl_op (ow_callP [0] rfl rfl (Nx_c _ hl hLn (by omega)) (fun y hy => ?_)) (nb rfl)
        refine jl_op ?_ (nb rfl)
        refine ow_sub64 rfl rfl (by omega) ?_
        refine jl_op ?_ (nb rfl)
        refine ow_build rfl rfl rfl rfl rfl ?_
        refine jl_op ?_ (nb rfl)
        refine ow_buildSlice rfl rfl (nb rfl) rfl rfl (nb rfl) ?_
        refine jl_op (ow_append1 1 ((x, y - 10)) rfl rfl rfl rfl rfl rfl rfl (fun _ => rfl) (by show (_ + _) * 16 ≤ _; first | omega | (simp only [List.length_append]; omega)) (by first | omega | (simp only [List.length_append]; omega)) (fun W2 hW2 => ?_)) (nb rfl)
        refine jl_op ?_ (nb rfl)
        refine ow_assign rfl ?_
        refine jl_nil ?_
        refine jq_block ?_
        refine jq_then ?_
        refine jc_region ?_
        refine jl_op ?_ (nb rfl)
        refine ow_move rfl ?_
        refine jl_op ?_ (nb rfl)
        refine ow_sub64 rfl rfl (by omega) ?_
        refine jl_op ?_ (nb rfl)
        refine ow_assign rfl ?_
        refine jl_nil ?_
        refine jq_againS (i := (n, W, a)) (n - 1, W2, a ++ [(x, y - 10)]) ⟨by dsimp only; omega, by dsimp only; rw [List.length_append]; simp; omega, hW2, fun t ht => ?_⟩ (by dsimp only; omega) ?_ ?_
        · rcases List.mem_append.1 ht with h | h
          · exact ha t h
          · obtain rfl := List.mem_singleton.1 h
            dsimp only
            omega
        · dsimp only
          refine sub_step 0 rfl ?_
          refine sub_step 0 rfl ?_
          exact sub_end
        · (repeat (first | exact True.intro | refine ⟨rfl, ?_⟩))
      · have ha29 : a.length ≤ 29 := by omega
        clear hle eA
        refine jc_freeze 8 0 rfl rfl (by rw [hc]; simp [Vc.hb]) ?_
        have eA : (a.map TR).length = a.length := List.length_map _
        refine jc_exit ?_
        refine jq_then_exit ?_
        refine jq_then_exit ?_
        refine jq_block_exit ?_
        refine jq_then ?_
        refine jc_seq ?_
        refine jc_seq ?_
        refine jc_region ?_
        refine jl_op ?_ (nb rfl)
        refine ow_assign rfl ?_
        refine jl_nil ?_
        refine jq_then ?_
        refine jc_block ?_
        refine jc_ownNil 44 2 (by omega) ?_
        let rr := (turn % (a.length : Int)).toNat
        have hrl := rotL_len a rr
        refine jc_loopS (ι := Nat × Value) [] (fun i => i.1 ≤ a.length ∧ i.2.oneCell' = true) (fun i => [(1, In .u8 turn), (2, In .i16 most), (8, .cell (.list (a.map TR))), (9, .cell (.val i.2)), (11, In .i64 (i.1 : Int))]) (fun i => [Ow i.2 ((rotL a rr).take i.1)]) (fun i => a.length - i.1) (0, .slice none 0 0) ⟨Nat.zero_le _, rfl⟩ ?_ ?_ ?_
        · show Vc.Sub _ (Ow _ ((rotL a rr).take 0) :: _)
          rw [List.take_zero]
          refine sub_step 0 rfl ?_
          exact sub_end
        · (repeat (first | exact True.intro | refine ⟨rfl, ?_⟩))
        · rintro ⟨k, V⟩ ⟨hk, hV⟩
          dsimp only at hk hV ⊢
          refine jc_reset [(1, In .u8 turn), (2, In .i16 most), (8, .cell (.list (a.map TR))), (9, .cell (.val V)), (11, In .i64 (k : Int))] [Ow V ((rotL a rr).take k)] ?_ ⟨[0], [], rfl⟩ ?_
          · (repeat (first | exact True.intro | refine ⟨rfl, ?_⟩))
          have eT : ((rotL a rr).take k).length ≤ a.length := by rw [List.length_take]; omega
          have eT2 : (((rotL a rr).take k).map TR).length = ((rotL a rr).take k).length := List.length_map _
          refine jc_seq ?_
          refine jc_seq ?_
          refine jc_region ?_
          refine jl_op ?_ (nb rfl)
          refine ow_move rfl ?_
          refine jl_op ?_ (nb rfl)
          refine ow_move rfl ?_
          refine jl_op ?_ (nb rfl)
          refine ow_len rfl (fun hlen => ?_)
          refine jl_op ?_ (nb rfl)
          refine ow_lss rfl rfl ?_
          refine jl_nil ?_
          refine jq_then ?_
          refine jc_condd rfl (fun hlt => ?_) (fun hge => ?_)
          · have hlt' : k < a.length := by omega
            have h0 := Int.emod_nonneg ((k : Int) + turn) (show ((a.map TR).length : Int) ≠ 0 by omega)
            have h1 := Int.emod_lt_of_pos ((k : Int) + turn) (show 0 < ((a.map TR).length : Int) by omega)
            have hix : (((k : Int) + turn) % ((a.map TR).length : Int)).toNat < a.length := by omega
            have hat : (rotL a rr).take (k + 1) = (rotL a rr).take k ++ [a[(((k : Int) + turn) % ((a.map TR).length : Int)).toNat]] := by
              have hr0 := Int.emod_nonneg turn (show (a.length : Int) ≠ 0 by omega)
              have hr1 := Int.emod_lt_of_pos turn (show 0 < (a.length : Int) by omega)
              have hrr : (rr : Int) = turn % (a.length : Int) := Int.toNat_of_nonneg hr0
              have hrl2 : rr < a.length := by omega
              have e : (((k : Int) + turn) % ((a.map TR).length : Int)).toNat = (k + rr) % a.length := by
                rw [eA, Int.add_emod, ← Int.emod_emod_of_dvd turn (Int.dvd_refl (a.length : Int)), ← Int.add_emod, ← hrr]
                have : (((k + rr) % a.length : Nat) : Int) = ((k : Int) + (rr : Int)) % (a.length : Int) := by simp
                omega
              rw [List.take_succ_eq_append_getElem (by omega), rotL_at hlt' hrl2 (by omega) (Nat.mod_lt _ (by omega))]
              congr 3
              exact e.symm
            generalize (rotL a rr).take k = O at hat eT eT2 ⊢
            refine jc_skip ?_
            refine jq_then ?_
            refine jc_seq ?_
            refine jc_block ?_
            refine jc_region ?_
            refine jl_op ?_ (nb rfl)
            refine ow_move rfl ?_
            refine jl_op ?_ (nb rfl)
            refine ow_move rfl ?_
            refine jl_op ?_ (nb rfl)
            refine ow_move rfl ?_
            refine jl_op ?_ (nb rfl)
            refine ow_move rfl ?_
            refine jl_op ?_ (nb rfl)
            refine ow_convI64 rfl rfl rfl (by omega) ?_
            refine jl_op ?_ (nb rfl)
            refine ow_add64 rfl rfl (by omega) ?_
            refine jl_op ?_ (nb rfl)
            refine ow_move rfl ?_
            refine jl_op ?_ (nb rfl)
            refine ow_len rfl (fun hlen => ?_)
            refine jl_op ?_ (nb rfl)
            refine ow_rem64 rfl rfl (by omega) (by omega) ?_
            refine jl_op ?_ (nb rfl)
            refine ow_indexAddrMapI rfl rfl (by omega) (by omega) rfl rfl (nb rfl) ?_
            refine jl_op ?_ (nb rfl)
            refine ow_loadPlaceN rfl rfl rfl ?_
            refine jl_op ?_ (nb rfl)
            refine ow_buildSlice rfl rfl (nb rfl) rfl rfl (nb rfl) ?_
            refine jl_op (ow_append1 0 ((a[(Int.emod ((k : Int) + turn) ((a.map TR).length : Int)).toNat]'hix)) rfl rfl rfl rfl rfl rfl rfl (fun _ => rfl) (by show (_ + _) * 16 ≤ _; first | omega | (simp only [List.length_append]; omega)) (by first | omega | (simp only [List.length_append]; omega)) (fun V2 hV2 => ?_)) (nb rfl)
            refine jl_op ?_ (nb rfl)
            refine ow_assign rfl ?_
            refine jl_nil ?_
            refine jq_block ?_
            refine jq_then ?_
            refine jc_region ?_
            refine jl_op ?_ (nb rfl)
            refine ow_move rfl ?_
            refine jl_op ?_ (nb rfl)
            refine ow_add64 rfl rfl (by omega) ?_
            refine jl_op ?_ (nb rfl)
            refine ow_assign rfl ?_
            refine jl_nil ?_
            refine jq_againS (i := (k, V)) (k + 1, V2) ⟨by dsimp only; omega, hV2⟩ (by dsimp only; omega) ?_ ?_
            · dsimp only
              rw [hat]
              refine sub_step 0 rfl ?_
              exact sub_end
            · (repeat (first | exact True.intro | refine ⟨rfl, ?_⟩))
          · obtain rfl : k = a.length := by omega
            rw [List.take_of_length_le (by omega)]
            refine jc_freeze 9 0 rfl rfl (by rw [hc]; simp [Vc.hb]) ?_
            refine jc_exit ?_
            refine jq_then_exit ?_
            refine jq_then_exit ?_
            refine jq_block_exit ?_
            refine jq_then ?_
            refine jc_seq ?_
            refine jc_region ?_
            refine jl_op ?_ (nb rfl)
            refine ow_assign rfl ?_
            refine jl_nil ?_
            refine jq_then ?_
            refine jc_seq ?_
            refine jc_seq ?_
            refine jc_region ?_
            refine jl_op ?_ (nb rfl)
            refine ow_assign rfl ?_
            refine jl_nil ?_
            refine jq_then ?_
            refine jc_block ?_
            refine jc_ownNil 44 2 (by omega) ?_
            have hr2 : (rotL a rr).length ≤ 29 := by omega
            have hgr : GoodA (rotL a rr) := fun t ht => ha t (rotL_mem ht)
            have hcr : canon (rotL a rr) = canon a := canon_eq (rotL_cof a rr)
            clear hge eT eT2 hk hrl
            generalize rotL a rr = r at hr2 hgr hcr ⊢
            refine jc_loopS (ι := Nat × Value) [] (fun i => i.1 ≤ a.length ∧ i.2.oneCell' = true) (fun i => [(2, In .i16 most), (8, .cell (.list (a.map TR))), (9, .cell (.list (r.map TR))), (12, .cell (.val i.2)), (13, In .i64 (i.1 : Int))]) (fun i => [Ow i.2 (dbl (a.take i.1))]) (fun i => a.length - i.1) (0, .slice none 0 0) ⟨Nat.zero_le _, rfl⟩ ?_ ?_ ?_
            · show Vc.Sub _ (Ow _ (dbl (a.take 0)) :: _)
              rw [List.take_zero]
              refine sub_step 0 rfl ?_
              exact sub_end
            · (repeat (first | exact True.intro | refine ⟨rfl, ?_⟩))
            · rintro ⟨k, V3⟩ ⟨hk, hV3⟩
              dsimp only at hk hV3 ⊢
              refine jc_reset [(2, In .i16 most), (8, .cell (.list (a.map TR))), (9, .cell (.list (r.map TR))), (12, .cell (.val V3)), (13, In .i64 (k : Int))] [Ow V3 (dbl (a.take k))] ?_ ⟨[0], [], rfl⟩ ?_
              · (repeat (first | exact True.intro | refine ⟨rfl, ?_⟩))
              have eT := dbl_len (a.take k)
              rw [List.length_take] at eT
              have eT2 : ((dbl (a.take k)).map TR).length = (dbl (a.take k)).length := List.length_map _
              refine jc_seq ?_
              refine jc_seq ?_
              refine jc_region ?_
              refine jl_op ?_ (nb rfl)
              refine ow_move rfl ?_
              refine jl_op ?_ (nb rfl)
              refine ow_move rfl ?_
              refine jl_op ?_ (nb rfl)
              refine ow_len rfl (fun hlen => ?_)
              refine jl_op ?_ (nb rfl)
              refine ow_lss rfl rfl ?_
              refine jl_nil ?_
              refine jq_then ?_
              refine jc_condd rfl (fun hlt => ?_) (fun hge => ?_)
              · have hlt' : k < a.length := by omega
                have hak := ha a[k] (List.getElem_mem hlt')
                have hat : dbl (a.take (k + 1)) = dbl (a.take k) ++ [a[k], (a[k].1, -a[k].2)] := by rw [List.take_succ_eq_append_getElem hlt', dbl_snoc]
                generalize dbl (a.take k) = O at hat eT eT2 ⊢
                refine jc_skip ?_
                refine jq_then ?_
                refine jc_seq ?_
                refine jc_block ?_
                refine jc_anyB 18 none rfl (by kernel_rfl) (by kernel_rfl) ?_
                refine any_op (fun c => ow_move rfl ⟨rfl, List.Perm.refl _⟩) ?_
                refine any_op (fun c => ow_move rfl ⟨rfl, List.Perm.refl _⟩) ?_
                refine any_op (fun c => ow_move rfl ⟨rfl, List.Perm.refl _⟩) ?_
                refine any_op (fun c => ow_indexAddrMapE rfl rfl (by omega) rfl rfl (nb rfl) ⟨rfl, List.Perm.refl _⟩) ?_
                refine any_op (fun c => ow_loadPlaceN rfl rfl rfl ⟨rfl, List.Perm.refl _⟩) ?_
                refine any_op (fun c => ow_move rfl ⟨rfl, List.Perm.refl _⟩) ?_
                refine any_op (fun c => ow_move rfl ⟨rfl, List.Perm.refl _⟩) ?_
                refine any_op (fun c => ow_indexAddrMapE rfl rfl (by omega) rfl rfl (nb rfl) ⟨rfl, List.Perm.refl _⟩) ?_
                refine any_op (fun c => ow_fieldAddrPlace rfl rfl rfl (nb rfl) rfl (nb rfl) ⟨rfl, List.Perm.refl _⟩) ?_
                refine any_op (fun c => ow_loadPlace rfl rfl ⟨rfl, List.Perm.refl _⟩) ?_
                refine any_op (fun c => ow_move rfl ⟨rfl, List.Perm.refl _⟩) ?_
                refine any_op (fun c => ow_move rfl ⟨rfl, List.Perm.refl _⟩) ?_
                refine any_op (fun c => ow_indexAddrMapE rfl rfl (by omega) rfl rfl (nb rfl) ⟨rfl, List.Perm.refl _⟩) ?_
                refine any_op (fun c => ow_fieldAddrPlace rfl rfl rfl (nb rfl) rfl (nb rfl) ⟨rfl, List.Perm.refl _⟩) ?_
                refine any_op (fun c => ow_loadPlace rfl rfl ⟨rfl, List.Perm.refl _⟩) ?_
                refine any_op (fun c => ow_neg64 rfl (by omega) ⟨rfl, List.Perm.refl _⟩) ?_
                refine any_op (fun c => ow_build rfl rfl rfl rfl rfl ⟨rfl, List.Perm.refl _⟩) ?_
                refine any_op (fun c => ow_buildSlice rfl rfl (nb rfl) rfl rfl (nb rfl) ⟨rfl, List.Perm.refl _⟩) ?_
                refine any_nil ?_
                refine afin_none ?_
                skip
                refine jl_op (ow_appendM (f := TR) (l2 := [a[k], (a[k].1, -a[k].2)]) 0 rfl rfl rfl rfl rfl rfl rfl (fun _ => rfl) (by show (_ + 2) * 16 ≤ _; omega) (by show _ + 2 ≤ _; omega) (fun V4 hV4 => ?_)) (nb rfl)
                refine jl_op ?_ (nb rfl)
                refine ow_assign rfl ?_
                refine jl_nil ?_
                refine jq_block ?_
                refine jq_then ?_
                refine jc_region ?_
                refine jl_op ?_ (nb rfl)
                refine ow_move rfl ?_
                refine jl_op ?_ (nb rfl)
                refine ow_add64 rfl rfl (by omega) ?_
                refine jl_op ?_ (nb rfl)
                refine ow_assign rfl ?_
                refine jl_nil ?_
                refine jq_againS (i := (k, V3)) (k + 1, V4) ⟨by dsimp only; omega, hV4⟩ (by dsimp only; omega) ?_ ?_
                · dsimp only
                  rw [hat]
                  refine sub_step 0 rfl ?_
                  exact sub_end
                · (repeat (first | exact True.intro | refine ⟨rfl, ?_⟩))
              · obtain rfl : k = a.length := by omega
                rw [List.take_length]
                refine jc_freeze 12 0 rfl rfl (by rw [hc]; simp [Vc.hb]) ?_
                have hl2 := dbl_len a
                obtain ⟨oA, vA, _⟩ := of_ok (l := a) (most := most) (n := 12) (B := 10) (by omega) (by omega) (by omega) (by omega) ha (by omega) (by omega) (by omega)
                obtain ⟨oR, _, _⟩ := of_ok (l := r) (most := most) (n := 12) (B := 10) (by omega) (by omega) (by omega) (by omega) hgr (by omega) (by omega) (by omega)
                obtain ⟨oD, _, _⟩ := of_ok (l := dbl a) (most := most) (n := 12) (B := 10) (by omega) (by omega) (by omega) (by omega) (fun t ht => by
                  obtain ⟨u, hu, g1, g2⟩ := dbl_mem ht
                  have := ha u hu
                  omega) (by omega) (by omega) (by omega)
                rw [hcr] at oR
                rw [canon_dbl] at oD
                have cA := Of_c a most
                have cR := Of_c r most
                have cD := Of_c (dbl a) most
                have cF := Of_c (canon a) most
                have cK := Check_c ⟨canon a, most⟩
                have cS := Same_c ⟨canon a, most⟩ ⟨canon a, most⟩
                rw [oA] at cA
                rw [oR] at cR
                rw [oD] at cD
                rw [show ofF (canon a) most = (⟨canon a, most⟩, 0) from of_valid vA] at cF
                rw [valid_to vA] at cK
                rw [show sameF ⟨canon a, most⟩ ⟨canon a, most⟩ = true from decide_eq_true ⟨rfl, rfl⟩] at cS
                refine jc_exit ?_
                refine jq_then_exit ?_
                refine jq_then_exit ?_
                refine jq_block_exit ?_
                refine jq_then ?_
                refine jc_seq ?_
                refine jc_region ?_
                refine jl_op ?_ (nb rfl)
                refine ow_move rfl ?_
                refine jl_op ?_ (nb rfl)
                refine ow_move rfl ?_
                refine jl_op ?_ (nb rfl)
                refine ow_convI64 rfl rfl rfl (by omega) ?_
                refine jl_op ?_ (nb rfl)
                refine ow_call0 rfl (cA) ?_
                refine jl_op ?_ (nb rfl)
                refine ow_move rfl ?_
                refine jl_op ?_ (nb rfl)
                refine ow_extract rfl rfl ?_
                refine jl_op ?_ (nb rfl)
                refine ow_extract rfl rfl ?_
                refine jl_op ?_ (nb rfl)
                refine ow_alloc rfl rfl (fun bl => ?_)
                refine jl_op0 ?_
                refine ow_storeAll 0 rfl rfl rfl rfl rfl rfl ?_
                refine jl_op ?_ (nb rfl)
                refine ow_assign rfl ?_
                refine jl_nil ?_
                refine jq_then ?_
                refine jc_seq ?_
                refine jc_region ?_
                refine jl_op ?_ (nb rfl)
                refine ow_move rfl ?_
                refine jl_op ?_ (nb rfl)
                refine ow_move rfl ?_
                refine jl_op ?_ (nb rfl)
                refine ow_convI64 rfl rfl rfl (by omega) ?_
                refine jl_op ?_ (nb rfl)
                refine ow_call0 rfl (cR) ?_
                refine jl_op ?_ (nb rfl)
                refine ow_move rfl ?_
                refine jl_op ?_ (nb rfl)
                refine ow_extract rfl rfl ?_
                refine jl_op ?_ (nb rfl)
                refine ow_extract rfl rfl ?_
                refine jl_op ?_ (nb rfl)
                refine ow_alloc rfl rfl (fun bl => ?_)
                refine jl_op0 ?_
                refine ow_storeAll 0 rfl rfl rfl rfl rfl rfl ?_
                refine jl_op ?_ (nb rfl)
                refine ow_assign rfl ?_
                refine jl_nil ?_
                refine jq_then ?_
                refine jc_seq ?_
                refine jc_region ?_
                refine jl_op ?_ (nb rfl)
                refine ow_fieldAddr rfl rfl rfl (nb rfl) ?_
                refine jl_op ?_ (nb rfl)
                refine ow_load 1 rfl rfl rfl rfl ?_
                refine jl_op ?_ (nb rfl)
                refine ow_fieldAddr rfl rfl rfl (nb rfl) ?_
                refine jl_op ?_ (nb rfl)
                refine ow_load 1 rfl rfl rfl rfl ?_
                refine jl_op ?_ (nb rfl)
                refine ow_call0 rfl (cF) ?_
                refine jl_op ?_ (nb rfl)
                refine ow_move rfl ?_
                refine jl_op ?_ (nb rfl)
                refine ow_extract rfl rfl ?_
                refine jl_op ?_ (nb rfl)
                refine ow_extract rfl rfl ?_
                refine jl_op ?_ (nb rfl)
                refine ow_alloc rfl rfl (fun bl => ?_)
                refine jl_op0 ?_
                refine ow_storeAll 0 rfl rfl rfl rfl rfl rfl ?_
                refine jl_op ?_ (nb rfl)
                refine ow_assign rfl ?_
                refine jl_nil ?_
                refine jq_then ?_
                refine jc_seq ?_
                refine jc_region ?_
                refine jl_op ?_ (nb rfl)
                refine ow_move rfl ?_
                refine jl_op ?_ (nb rfl)
                refine ow_move rfl ?_
                refine jl_op ?_ (nb rfl)
                refine ow_convI64 rfl rfl rfl (by omega) ?_
                refine jl_op ?_ (nb rfl)
                refine ow_call0 rfl (cD) ?_
                refine jl_op ?_ (nb rfl)
                refine ow_move rfl ?_
                refine jl_op ?_ (nb rfl)
                refine ow_extract rfl rfl ?_
                refine jl_op ?_ (nb rfl)
                refine ow_extract rfl rfl ?_
                refine jl_op ?_ (nb rfl)
                refine ow_alloc rfl rfl (fun bl => ?_)
                refine jl_op0 ?_
                refine ow_storeAll 0 rfl rfl rfl rfl rfl rfl ?_
                refine jl_op ?_ (nb rfl)
                refine ow_assign rfl ?_
                refine jl_nil ?_
                refine jq_then ?_
                refine jc_seq ?_
                refine jc_region ?_
                refine jl_op ?_ (nb rfl)
                refine ow_move rfl ?_
                refine jl_op ?_ (nb rfl)
                refine ow_eql rfl rfl ?_
                refine jl_op ?_ (nb rfl)
                refine ow_move rfl ?_
                refine jl_guardY rfl (by first | assumption | exact decide_eq_true rfl | exact decide_eq_true (by first | assumption | omega) | exact decide_eq_false (by first | assumption | omega) | with_reducible rfl | exact (rfl : false = !true) | exact (rfl : true = !false)) (nb rfl) ?_
                refine ow_move rfl ?_
                refine jl_guardY rfl (by first | assumption | exact decide_eq_true rfl | exact decide_eq_true (by first | assumption | omega) | exact decide_eq_false (by first | assumption | omega) | with_reducible rfl | exact (rfl : false = !true) | exact (rfl : true = !false)) (nb rfl) ?_
                refine ow_eql rfl rfl ?_
                refine jl_op ?_ (nb rfl)
                refine ow_pickT rfl (by first | assumption | exact decide_eq_true rfl | exact decide_eq_true (by first | assumption | omega) | exact decide_eq_false (by first | assumption | omega) | with_reducible rfl | exact (rfl : false = !true) | exact (rfl : true = !false)) rfl ?_
                refine jl_op ?_ (nb rfl)
                refine ow_move rfl ?_
                refine jl_guardY rfl (by first | assumption | exact decide_eq_true rfl | exact decide_eq_true (by first | assumption | omega) | exact decide_eq_false (by first | assumption | omega) | with_reducible rfl | exact (rfl : false = !true) | exact (rfl : true = !false)) (nb rfl) ?_
                refine ow_move rfl ?_
                refine jl_guardY rfl (by first | assumption | exact decide_eq_true rfl | exact decide_eq_true (by first | assumption | omega) | exact decide_eq_false (by first | assumption | omega) | with_reducible rfl | exact (rfl : false = !true) | exact (rfl : true = !false)) (nb rfl) ?_
                refine ow_eql rfl rfl ?_
                refine jl_op ?_ (nb rfl)
                refine ow_pickT rfl (by first | assumption | exact decide_eq_true rfl | exact decide_eq_true (by first | assumption | omega) | exact decide_eq_false (by first | assumption | omega) | with_reducible rfl | exact (rfl : false = !true) | exact (rfl : true = !false)) rfl ?_
                refine jl_op ?_ (nb rfl)
                refine ow_move rfl ?_
                refine jl_guardY rfl (by first | assumption | exact decide_eq_true rfl | exact decide_eq_true (by first | assumption | omega) | exact decide_eq_false (by first | assumption | omega) | with_reducible rfl | exact (rfl : false = !true) | exact (rfl : true = !false)) (nb rfl) ?_
                refine ow_move rfl ?_
                refine jl_guardY rfl (by first | assumption | exact decide_eq_true rfl | exact decide_eq_true (by first | assumption | omega) | exact decide_eq_false (by first | assumption | omega) | with_reducible rfl | exact (rfl : false = !true) | exact (rfl : true = !false)) (nb rfl) ?_
                refine ow_eql rfl rfl ?_
                refine jl_op ?_ (nb rfl)
                refine ow_pickT rfl (by first | assumption | exact decide_eq_true rfl | exact decide_eq_true (by first | assumption | omega) | exact decide_eq_false (by first | assumption | omega) | with_reducible rfl | exact (rfl : false = !true) | exact (rfl : true = !false)) rfl ?_
                refine jl_op ?_ (nb rfl)
                refine ow_move rfl ?_
                refine jl_guardY rfl (by first | assumption | exact decide_eq_true rfl | exact decide_eq_true (by first | assumption | omega) | exact decide_eq_false (by first | assumption | omega) | with_reducible rfl | exact (rfl : false = !true) | exact (rfl : true = !false)) (nb rfl) ?_
                refine ow_loadAll 3 rfl rfl rfl rfl ?_
                refine jl_guardY rfl (by first | assumption | exact decide_eq_true rfl | exact decide_eq_true (by first | assumption | omega) | exact decide_eq_false (by first | assumption | omega) | with_reducible rfl | exact (rfl : false = !true) | exact (rfl : true = !false)) (nb rfl) ?_
                refine ow_call0 rfl (cK) ?_
                refine jl_guardY rfl (by first | assumption | exact decide_eq_true rfl | exact decide_eq_true (by first | assumption | omega) | exact decide_eq_false (by first | assumption | omega) | with_reducible rfl | exact (rfl : false = !true) | exact (rfl : true = !false)) (nb rfl) ?_
                refine ow_eql rfl rfl ?_
                refine jl_op ?_ (nb rfl)
                refine ow_pickT rfl (by first | assumption | exact decide_eq_true rfl | exact decide_eq_true (by first | assumption | omega) | exact decide_eq_false (by first | assumption | omega) | with_reducible rfl | exact (rfl : false = !true) | exact (rfl : true = !false)) rfl ?_
                refine jl_op ?_ (nb rfl)
                refine ow_move rfl ?_
                refine jl_guardY rfl (by first | assumption | exact decide_eq_true rfl | exact decide_eq_true (by first | assumption | omega) | exact decide_eq_false (by first | assumption | omega) | with_reducible rfl | exact (rfl : false = !true) | exact (rfl : true = !false)) (nb rfl) ?_
                refine ow_loadAll 3 rfl rfl rfl rfl ?_
                refine jl_guardY rfl (by first | assumption | exact decide_eq_true rfl | exact decide_eq_true (by first | assumption | omega) | exact decide_eq_false (by first | assumption | omega) | with_reducible rfl | exact (rfl : false = !true) | exact (rfl : true = !false)) (nb rfl) ?_
                refine ow_loadAll 2 rfl rfl rfl rfl ?_
                refine jl_guardY rfl (by first | assumption | exact decide_eq_true rfl | exact decide_eq_true (by first | assumption | omega) | exact decide_eq_false (by first | assumption | omega) | with_reducible rfl | exact (rfl : false = !true) | exact (rfl : true = !false)) (nb rfl) ?_
                refine ow_call0 rfl (cS) ?_
                refine jl_op ?_ (nb rfl)
                refine ow_pickT rfl (by first | assumption | exact decide_eq_true rfl | exact decide_eq_true (by first | assumption | omega) | exact decide_eq_false (by first | assumption | omega) | with_reducible rfl | exact (rfl : false = !true) | exact (rfl : true = !false)) rfl ?_
                refine jl_op ?_ (nb rfl)
                refine ow_move rfl ?_
                refine jl_guardY rfl (by first | assumption | exact decide_eq_true rfl | exact decide_eq_true (by first | assumption | omega) | exact decide_eq_false (by first | assumption | omega) | with_reducible rfl | exact (rfl : false = !true) | exact (rfl : true = !false)) (nb rfl) ?_
                refine ow_loadAll 3 rfl rfl rfl rfl ?_
                refine jl_guardY rfl (by first | assumption | exact decide_eq_true rfl | exact decide_eq_true (by first | assumption | omega) | exact decide_eq_false (by first | assumption | omega) | with_reducible rfl | exact (rfl : false = !true) | exact (rfl : true = !false)) (nb rfl) ?_
                refine ow_loadAll 1 rfl rfl rfl rfl ?_
                refine jl_guardY rfl (by first | assumption | exact decide_eq_true rfl | exact decide_eq_true (by first | assumption | omega) | exact decide_eq_false (by first | assumption | omega) | with_reducible rfl | exact (rfl : false = !true) | exact (rfl : true = !false)) (nb rfl) ?_
                refine ow_call0 rfl (cS) ?_
                refine jl_op ?_ (nb rfl)
                refine ow_pickT rfl (by first | assumption | exact decide_eq_true rfl | exact decide_eq_true (by first | assumption | omega) | exact decide_eq_false (by first | assumption | omega) | with_reducible rfl | exact (rfl : false = !true) | exact (rfl : true = !false)) rfl ?_
                refine jl_op ?_ (nb rfl)
                refine ow_move rfl ?_
                refine jl_guardY rfl (by first | assumption | exact decide_eq_true rfl | exact decide_eq_true (by first | assumption | omega) | exact decide_eq_false (by first | assumption | omega) | with_reducible rfl | exact (rfl : false = !true) | exact (rfl : true = !false)) (nb rfl) ?_
                refine ow_fieldAddr rfl rfl rfl (nb rfl) ?_
                refine jl_guardY rfl (by first | assumption | exact decide_eq_true rfl | exact decide_eq_true (by first | assumption | omega) | exact decide_eq_false (by first | assumption | omega) | with_reducible rfl | exact (rfl : false = !true) | exact (rfl : true = !false)) (nb rfl) ?_
                refine ow_load 0 rfl rfl rfl rfl ?_
                refine jl_guardY rfl (by first | assumption | exact decide_eq_true rfl | exact decide_eq_true (by first | assumption | omega) | exact decide_eq_false (by first | assumption | omega) | with_reducible rfl | exact (rfl : false = !true) | exact (rfl : true = !false)) (nb rfl) ?_
                refine ow_len rfl (fun hlen => ?_)
                refine jl_guardY rfl (by first | assumption | exact decide_eq_true rfl | exact decide_eq_true (by first | assumption | omega) | exact decide_eq_false (by first | assumption | omega) | with_reducible rfl | exact (rfl : false = !true) | exact (rfl : true = !false)) (nb rfl) ?_
                refine ow_eql rfl rfl ?_
                refine jl_op ?_ (nb rfl)
                refine ow_pickT rfl (by first | assumption | exact decide_eq_true rfl | exact decide_eq_true (by first | assumption | omega) | exact decide_eq_false (by first | assumption | omega) | with_reducible rfl | exact (rfl : false = !true) | exact (rfl : true = !false)) rfl ?_
                refine jl_op ?_ (nb rfl)
                refine ow_move rfl ?_
                refine jl_guardY rfl (by first | assumption | exact decide_eq_true rfl | exact decide_eq_true (by first | assumption | omega) | exact decide_eq_false (by first | assumption | omega) | with_reducible rfl | exact (rfl : false = !true) | exact (rfl : true = !false)) (nb rfl) ?_
                refine ow_fieldAddr rfl rfl rfl (nb rfl) ?_
                refine jl_guardY rfl (by first | assumption | exact decide_eq_true rfl | exact decide_eq_true (by first | assumption | omega) | exact decide_eq_false (by first | assumption | omega) | with_reducible rfl | exact (rfl : false = !true) | exact (rfl : true = !false)) (nb rfl) ?_
                refine ow_load 0 rfl rfl rfl rfl ?_
                refine jl_guardY rfl (by first | assumption | exact decide_eq_true rfl | exact decide_eq_true (by first | assumption | omega) | exact decide_eq_false (by first | assumption | omega) | with_reducible rfl | exact (rfl : false = !true) | exact (rfl : true = !false)) (nb rfl) ?_
                refine ow_move rfl ?_
                refine jl_guardY rfl (by first | assumption | exact decide_eq_true rfl | exact decide_eq_true (by first | assumption | omega) | exact decide_eq_false (by first | assumption | omega) | with_reducible rfl | exact (rfl : false = !true) | exact (rfl : true = !false)) (nb rfl) ?_
                refine ow_convI64 rfl rfl rfl (by omega) ?_
                refine jl_guardY rfl (by first | assumption | exact decide_eq_true rfl | exact decide_eq_true (by first | assumption | omega) | exact decide_eq_false (by first | assumption | omega) | with_reducible rfl | exact (rfl : false = !true) | exact (rfl : true = !false)) (nb rfl) ?_
                refine ow_eql rfl rfl ?_
                refine jl_op ?_ (nb rfl)
                refine ow_pickT rfl (by first | assumption | exact decide_eq_true rfl | exact decide_eq_true (by first | assumption | omega) | exact decide_eq_false (by first | assumption | omega) | with_reducible rfl | exact (rfl : false = !true) | exact (rfl : true = !false)) rfl ?_
                refine jl_op ?_ (nb rfl)
                refine ow_move rfl ?_
                refine jl_guardY rfl (by first | assumption | exact decide_eq_true rfl | exact decide_eq_true (by first | assumption | omega) | exact decide_eq_false (by first | assumption | omega) | with_reducible rfl | exact (rfl : false = !true) | exact (rfl : true = !false)) (nb rfl) ?_
                refine ow_call0 rfl (awake_c) ?_
                refine jl_op ?_ (nb rfl)
                refine ow_pickT rfl (by first | assumption | exact decide_eq_true rfl | exact decide_eq_true (by first | assumption | omega) | exact decide_eq_false (by first | assumption | omega) | with_reducible rfl | exact (rfl : false = !true) | exact (rfl : true = !false)) rfl ?_
                refine jl_op ?_ (nb rfl)
                refine ow_assign rfl ?_
                refine jl_nil ?_
                refine jq_then ?_
                refine jc_ret ?_
                refine jq_ret1 rfl rfl [] rfl (fun K h => h)
end Go.Proofs.Ytjkkkjikhjfdnaa
