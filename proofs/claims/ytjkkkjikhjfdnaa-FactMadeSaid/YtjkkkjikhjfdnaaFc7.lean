import Derived.Test.YtjkkkjikhjfdnaaFc6
namespace Go.Proofs.Ytjkkkjikhjfdnaa
open Go.Vc
attribute [local irreducible] JL JC JQ OpWp Con ConN
attribute [local irreducible] isSmall isBlock
set_option maxHeartbeats 4000000

theorem mapsOI_c {L : List Int} {b : Nat} (N : Int) (n : Nat) (e : N = (n : Int)) (hn : 1 ≤ n ∧ n ≤ 30) (hL : InR L) (hLn : L.length ≤ 400) :
    Con Try.prog 13 [Ptr b, In .i64 N] [Dk b L] (fun K => ∀ r : Value × Value × List Int × List (List Int), (MapsOk n (r.2.2.1 :: r.2.2.2) ∧ r.1.oneCell' = true ∧ r.2.1.oneCell' = true) → K (.cell (.val r.1)) [.own r.1 22 1 ([.val r.2.1] :: r.2.2.2.map Lrow), Ow1 r.2.1 r.2.2.1, Dk b L]) := by
  subst e
  exact mapsO_c n hn hL hLn
/-- What FactMade holds behind its switch. -/
structure Made where
  W : Value
  ft : List Tm
  fm : Int
  gm : Int
  C : Value
  cs : List Int
  V : Value
  X : Value
  x0 : List Int
  o : Bool
  tr : List (List Int)
  VP : Value
  XP : Value
  p0 : List Int
  pr : List (List Int)
theorem FactMade_c (l : List Int) (what by_ a b : Int) (hl : InR l) (hwhat : -9223372036854775808 ≤ what ∧ what ≤ 9223372036854775807) (_hby : -9223372036854775808 ≤ by_ ∧ by_ ≤ 9223372036854775807) (ha : 0 ≤ a ∧ a ≤ 255) (hb2 : 0 ≤ b ∧ b ≤ 255) :
    Con Try.prog 7 [.cell (.list (l.map Irow)), In .i64 what, In .i64 by_, In .u8 a, In .u8 b] [] (fun K => K (Bl true) []) := by
  refine con_intro Try.func7 rfl rfl (Nat.le_of_ble_eq_true rfl) (fun c hc => ?_)
  have hX0 : ∀ H : List Ch, ∀ b ∈ c.X, b ∈ hb H := fun H b h => by rw [hc] at h; simp [hb] at h
  refine jc_seq ?_
  refine jc_region ?_
  refine jl_op ?_ (nb rfl)
  refine ow_assign rfl ?_
  refine jl_nil ?_
  refine jq_then ?_
  refine jc_seq ?_
  refine jc_seq ?_
  refine jc_region ?_
  refine jl_op ?_ (nb rfl)
  refine ow_move rfl ?_
  refine jl_op ?_ (nb rfl)
  refine ow_call0 rfl (Few_c l) ?_
  refine jl_op ?_ (nb rfl)
  refine ow_notdec rfl ?_
  refine jl_nil ?_
  refine jq_then ?_
  refine jc_cond rfl (fun hw => ?_) (fun hw => ?_)
  · refine jc_seq ?_
    refine jc_region ?_
    refine jl_op ?_ (nb rfl)
    refine ow_call0 rfl (awake_c) ?_
    refine jl_op ?_ (nb rfl)
    refine ow_assign rfl ?_
    refine jl_nil ?_
    refine jq_then ?_
    refine jc_ret ?_
    refine jq_then_ret ?_
    refine jq_ret1 rfl rfl [] rfl (fun K h => h)
  · have hLn : l.length ≤ 400 := by simpa using hw
    refine jc_skip ?_
    refine jq_then ?_
    refine jc_seq ?_
    refine jc_region ?_
    refine jl_op ?_ (nb rfl)
    refine ow_move rfl ?_
    refine jl_op (ow_call [] rfl rfl (New_c l) (fun dk => ?_)) (nb rfl)
    refine jl_op ?_ (nb rfl)
    refine ow_assign rfl ?_
    refine jl_nil ?_
    refine jq_then ?_
    refine jc_seq ?_
    refine jc_region ?_
    refine jl_op ?_ (nb rfl)
    refine ow_move rfl ?_
    refine jl_op (ow_callP [0] rfl rfl (Nx_c _ hl hLn (by omega)) (fun x hx => ?_)) (nb rfl)
    refine jl_op ?_ (nb rfl)
    refine ow_add64 rfl rfl (by omega) ?_
    refine jl_op ?_ (nb rfl)
    refine ow_assign rfl ?_
    refine jl_nil ?_
    refine jq_then ?_
    refine jc_seq ?_
    refine jc_region ?_
    refine jl_op ?_ (nb rfl)
    refine ow_move rfl ?_
    refine jl_op ?_ (nb rfl)
    refine ow_move rfl ?_
    refine jl_op (ow_callP [0] rfl rfl (someO_c _ (by omega) hl hLn) (fun f hf => ?_)) (nb rfl)
    refine jl_op ?_ (nb rfl)
    refine ow_move rfl ?_
    refine jl_op ?_ (nb rfl)
    refine ow_move rfl ?_
    refine jl_op (ow_callP [1] rfl rfl (some_c _ (by omega) hl hLn) (fun g hg => ?_)) (nb rfl)
    refine jl_op ?_ (nb rfl)
    refine ow_move rfl ?_
    refine jl_op ?_ (nb rfl)
    refine ow_move rfl ?_
    have eN : 1 + x = ((1 + x).toNat : Int) := by omega
    refine jl_op (ow_callP [0] rfl rfl (mapsOI_c _ (1 + x).toNat eN (by omega) hl hLn) (fun t ht => ?_)) (nb rfl)
    obtain ⟨f, W⟩ := f
    obtain ⟨V, X, t0, tt⟩ := t
    dsimp only at hf ht ⊢
    refine jl_op ?_ (nb rfl)
    refine ow_alloc rfl rfl (fun bl => ?_)
    refine jl_op ?_ (nb rfl)
    refine ow_alloc rfl rfl (fun bl => ?_)
    refine jl_op0 ?_
    refine ow_storeAll 1 rfl rfl rfl rfl rfl rfl ?_
    refine jl_op0 ?_
    refine ow_storeAll 1 rfl rfl rfl rfl rfl rfl ?_
    refine jl_op ?_ (nb rfl)
    refine ow_assign rfl ?_
    refine jl_nil ?_
    refine jq_then ?_
    refine jc_seq ?_
    refine jc_region ?_
    refine jl_op ?_ (nb rfl)
    refine ow_assign rfl ?_
    refine jl_nil ?_
    refine jq_then ?_
    refine jc_seq ?_
    refine jc_seq ?_
    refine jc_region ?_
    refine jl_op ?_ (nb rfl)
    refine ow_assign rfl ?_
    refine jl_nil ?_
    refine jq_then ?_
    refine jc_block ?_
    refine jc_ownNil 3 1 (by omega) ?_
    rename_i bF
    refine jc_loopS (ι := Nat × Value × List Int) [] (fun i => (i.1 : Int) ≤ 1 + x ∧ i.2.2.length = i.1) (fun i => [(1, In .i64 what), (2, In .i64 by_), (3, In .u8 a), (4, In .u8 b), (11, Ptr dk), (12, In .i64 (1 + x)), (13, .cell (.val (.pointer (some ⟨bF, 0, none⟩)))), (14, .cell (.val (.pointer (some ⟨bl, 0, none⟩)))), (15, .cell (.val V)), (16, .cell (.val i.2.1)), (17, In .i64 (i.1 : Int))]) (fun i => [Ow1 i.2.1 i.2.2, .blk bl 30 (FR g), .blk bF 30 [.val W, .val (.int .i64 f.most)], Ow W f.terms, .own V 22 1 ([.val X] :: tt.map Lrow), Ow1 X t0, Dk dk l]) (fun i => (1 + x).toNat - i.1) (0, .slice none 0 0, []) ⟨by dsimp only; omega, rfl⟩ ?_ ?_ ?_
    · refine sub_step 0 rfl ?_
      refine sub_step 0 rfl ?_
      refine sub_step 0 rfl ?_
      refine sub_step 3 rfl ?_
      refine sub_step 0 rfl ?_
      refine sub_step 0 rfl ?_
      refine sub_step 0 rfl ?_
      exact sub_end
    · (repeat (first | exact True.intro | refine ⟨rfl, ?_⟩))
    · rintro ⟨k, C, s⟩ ⟨hk, hsl⟩
      dsimp only at hk hsl ⊢
      refine jc_reset [(1, In .i64 what), (2, In .i64 by_), (3, In .u8 a), (4, In .u8 b), (11, Ptr dk), (12, In .i64 (1 + x)), (13, .cell (.val (.pointer (some ⟨bF, 0, none⟩)))), (14, .cell (.val (.pointer (some ⟨bl, 0, none⟩)))), (15, .cell (.val V)), (16, .cell (.val C)), (17, In .i64 (k : Int))] [Ow1 C s, .blk bl 30 (FR g), .blk bF 30 [.val W, .val (.int .i64 f.most)], Ow W f.terms, .own V 22 1 ([.val X] :: tt.map Lrow), Ow1 X t0, Dk dk l] ?_ ⟨[0, 0, 0, 0, 0, 0, 0], [], rfl⟩ ?_
      · (repeat (first | exact True.intro | refine ⟨rfl, ?_⟩))
      refine jc_seq ?_
      refine jc_seq ?_
      refine jc_region ?_
      refine jl_op ?_ (nb rfl)
      refine ow_move rfl ?_
      refine jl_op ?_ (nb rfl)
      refine ow_move rfl ?_
      refine jl_op ?_ (nb rfl)
      refine ow_lss rfl rfl ?_
      refine jl_nil ?_
      refine jq_then ?_
      refine jc_condd rfl (fun hlt => ?_) (fun hge => ?_)
      · refine jc_skip ?_
        refine jq_then ?_
        refine jc_seq ?_
        refine jc_block ?_
        refine jc_region ?_
        refine jl_op ?_ (nb rfl)
        refine ow_move rfl ?_
        refine jl_op ?_ (nb rfl)
        refine ow_move rfl ?_
        refine jl_op (ow_callP [6] rfl rfl (Nx_c _ hl hLn (by omega)) (fun y hy => ?_)) (nb rfl)
        refine jl_op ?_ (nb rfl)
        refine ow_buildSlice rfl rfl (nb rfl) rfl rfl (nb rfl) ?_
        refine jl_op (ow_append1 1 (y) rfl rfl rfl rfl rfl rfl rfl (fun _ => rfl) (by show (_ + _) * 8 ≤ _; first | omega | (simp only [List.length_append]; omega)) (by first | omega | (simp only [List.length_append]; omega)) (fun C2 hC2 => ?_)) (nb rfl)
        refine jl_op ?_ (nb rfl)
        refine ow_assign rfl ?_
        refine jl_nil ?_
        refine jq_block ?_
        refine jq_then ?_
        refine jc_region ?_
        refine jl_op ?_ (nb rfl)
        refine ow_move rfl ?_
        refine jl_op ?_ (nb rfl)
        refine ow_add64 rfl rfl (by omega) ?_
        refine jl_op ?_ (nb rfl)
        refine ow_assign rfl ?_
        refine jl_nil ?_
        refine jq_againS (i := (k, C, s)) (k + 1, C2, s ++ [y]) ⟨by dsimp only; omega, by dsimp only; rw [List.length_append, hsl]; rfl⟩ (by dsimp only; omega) ?_ ?_
        · dsimp only
          refine sub_step 0 rfl ?_
          refine sub_step 1 rfl ?_
          refine sub_step 1 rfl ?_
          refine sub_step 1 rfl ?_
          refine sub_step 1 rfl ?_
          refine sub_step 1 rfl ?_
          refine sub_step 0 rfl ?_
          exact sub_end
        · (repeat (first | exact True.intro | refine ⟨rfl, ?_⟩))
      · have hs1 : 1 ≤ s.length := by omega
        refine jc_exit ?_
        refine jq_then_exit ?_
        refine jq_then_exit ?_
        refine jq_block_exit ?_
        refine jq_then ?_
        refine jc_seq ?_
        refine jc_region ?_
        refine jl_op ?_ (nb rfl)
        refine ow_move rfl ?_
        refine jl_op (ow_callP [6] rfl rfl (mapsOI_c 4 4 rfl (by omega) hl hLn) (fun q hq => ?_)) (nb rfl)
        obtain ⟨VP, XP, p0, pr⟩ := q
        dsimp only at hq ⊢
        refine jl_op ?_ (nb rfl)
        refine ow_assign rfl ?_
        refine jl_nil ?_
        refine jq_then ?_
        refine jc_seq ?_
        refine jc_seq ?_
        refine jc_region ?_
        refine jl_op ?_ (nb rfl)
        refine ow_move rfl ?_
        refine jl_op ?_ (nb rfl)
        refine ow_call0 rfl (Mod_c what 8 (by omega) hwhat) ?_
        refine jl_nil ?_
        refine jq_then ?_
        generalize what.emod 8 = m
        refine jc_reset [(2, In .i64 by_), (3, In .u8 a), (4, In .u8 b), (13, .cell (.val (.pointer (some ⟨bF, 0, none⟩)))), (14, .cell (.val (.pointer (some ⟨bl, 0, none⟩)))), (15, .cell (.val V)), (16, .cell (.val C)), (18, .cell (.val VP)), (50, In .i64 m)] [Ow W f.terms, .blk bF 30 [.val W, .val (.int .i64 f.most)], .blk bl 30 [.list (g.terms.map TR), .val (.int .i64 g.most)], Ow1 C s, .own V 22 1 ([.val X] :: tt.map Lrow), Ow1 X t0, .own VP 22 1 ([.val XP] :: pr.map Lrow), Ow1 XP p0] ?_ ⟨[6, 5, 4, 3, 3, 3, 0, 0], [Dk dk l], rfl⟩ ?_
        · (repeat (first | exact True.intro | refine ⟨rfl, ?_⟩))
        refine jc_cut (ι := Made) [] (fun _ => True) (fun i => [(3, In .u8 a), (4, In .u8 b), (13, .cell (.val (.pointer (some ⟨bF, 0, none⟩)))), (14, .cell (.val (.pointer (some ⟨bl, 0, none⟩)))), (15, .cell (.val i.V)), (16, .cell (.val i.C)), (18, .cell (.val i.VP))])
          (fun i => [Ow i.W i.ft, .blk bF 30 [.val i.W, .val (.int .i64 i.fm)], .blk bl 30 [.list (g.terms.map TR), .val (.int .i64 i.gm)], Ow1 i.C i.cs, .own i.V 22 1 (bif i.o then [] else [.val i.X] :: i.tr.map Lrow), Ow1 i.X i.x0, .own i.VP 22 1 ([.val i.XP] :: i.pr.map Lrow), Ow1 i.XP i.p0]) ?_ ?_
        · refine jc_block ?_
          refine jc_seq ?_
          refine jc_region ?_
          refine jl_op ?_ (nb rfl)
          refine ow_eql rfl rfl ?_
          refine jl_op ?_ (nb rfl)
          refine ow_assign rfl ?_
          refine jl_nil ?_
          refine jq_then ?_
          refine jc_condd rfl (fun h0 => ?_) (fun h0 => ?_)
          · refine jc_region ?_
            refine jl_op ?_ (nb rfl)
            refine ow_fieldAddr rfl rfl rfl (nb rfl) ?_
            refine jl_op ?_ (nb rfl)
            refine ow_load 1 rfl rfl rfl rfl ?_
            refine jl_op ?_ (nb rfl)
            refine ow_move rfl ?_
            refine jl_op ?_ (nb rfl)
            refine ow_build rfl rfl rfl rfl rfl ?_
            refine jl_op ?_ (nb rfl)
            refine ow_buildSlice rfl rfl (nb rfl) rfl rfl (nb rfl) ?_
            have hfl := hf.1.len
            refine jl_op (ow_append1 0 ((by_, 1)) rfl rfl rfl rfl rfl rfl rfl (fun _ => rfl) (by show (_ + _) * 16 ≤ _; first | omega | (simp only [List.length_append]; omega)) (by first | omega | (simp only [List.length_append]; omega)) (fun W2 hW2 => ?_)) (nb rfl)
            refine jl_op ?_ (nb rfl)
            refine ow_fieldAddr rfl rfl rfl (nb rfl) ?_
            refine jl_op0 ?_
            refine ow_store1 1 rfl rfl rfl rfl (nb rfl) ?_
            refine jl_nil ?_
            refine jq_block ?_
            refine jq_cutS (⟨W2, f.terms ++ [(by_, 1)], f.most, g.most, C, s, V, X, t0, false, tt, VP, XP, p0, pr⟩ : Made) trivial ?_ ?_
            · show Vc.Sub _ [Ow W2 (f.terms ++ [(by_, 1)]), .blk bF 30 [.val W2, .val (.int .i64 (f.most))], .blk bl 30 [.list (g.terms.map TR), .val (.int .i64 (g.most))], Ow1 C (s), .own V 22 1 ([.val X] :: tt.map Lrow), Ow1 X (t0), .own VP 22 1 ([.val XP] :: pr.map Lrow), Ow1 XP (p0)]
              refine sub_step 1 rfl ?_
              refine sub_step 0 rfl ?_
              refine sub_step 0 rfl ?_
              refine sub_step 0 rfl ?_
              refine sub_step 0 rfl ?_
              refine sub_step 0 rfl ?_
              refine sub_step 0 rfl ?_
              refine sub_step 0 rfl ?_
              exact sub_end
            · (repeat (first | exact True.intro | refine ⟨rfl, ?_⟩))
          · refine jc_seq ?_
            refine jc_region ?_
            refine jl_op ?_ (nb rfl)
            refine ow_eql rfl rfl ?_
            refine jl_op ?_ (nb rfl)
            refine ow_assign rfl ?_
            refine jl_nil ?_
            refine jq_then ?_
            refine jc_condd rfl (fun h1 => ?_) (fun h1 => ?_)
            · refine jc_region ?_
              refine jl_op ?_ (nb rfl)
              refine ow_move rfl ?_
              refine jl_op ?_ (nb rfl)
              refine ow_move rfl ?_
              refine jl_op ?_ (nb rfl)
              refine ow_indexOwn 3 rfl rfl rfl (by omega) (by simp only [List.length_map]; omega) rfl ?_
              refine jl_op0 (ow_storeInnAll 3 0 rfl rfl rfl rfl rfl (by rw [List.getElem?_map, List.getElem?_eq_getElem hs1]; rfl) rfl rfl rfl ?_)
              refine jl_nil ?_
              refine jq_block ?_
              rw [show (s.map Irow).set 0 [.val (.int .i64 by_)] = (s.set 0 by_).map Irow by rw [List.map_set]]
              refine jq_cutS (⟨W, f.terms, f.most, g.most, C, s.set 0 by_, V, X, t0, false, tt, VP, XP, p0, pr⟩ : Made) trivial ?_ ?_
              · show Vc.Sub _ [Ow W (f.terms), .blk bF 30 [.val W, .val (.int .i64 (f.most))], .blk bl 30 [.list (g.terms.map TR), .val (.int .i64 (g.most))], Ow1 C (s.set 0 by_), .own V 22 1 ([.val X] :: tt.map Lrow), Ow1 X (t0), .own VP 22 1 ([.val XP] :: pr.map Lrow), Ow1 XP (p0)]
                refine sub_step 1 rfl ?_
                refine sub_step 1 rfl ?_
                refine sub_step 1 rfl ?_
                refine sub_step 0 rfl ?_
                refine sub_step 0 rfl ?_
                refine sub_step 0 rfl ?_
                refine sub_step 0 rfl ?_
                refine sub_step 0 rfl ?_
                exact sub_end
              · (repeat (first | exact True.intro | refine ⟨rfl, ?_⟩))
            · refine jc_seq ?_
              refine jc_region ?_
              refine jl_op ?_ (nb rfl)
              refine ow_eql rfl rfl ?_
              refine jl_op ?_ (nb rfl)
              refine ow_assign rfl ?_
              refine jl_nil ?_
              refine jq_then ?_
              refine jc_condd rfl (fun h2 => ?_) (fun h2 => ?_)
              · refine jc_region ?_
                refine jl_op ?_ (nb rfl)
                refine ow_move rfl ?_
                refine jl_op ?_ (nb rfl)
                refine ow_move rfl ?_
                refine jl_op ?_ (nb rfl)
                refine ow_lenown 4 rfl rfl (fun hlen => ?_)
                refine jl_op ?_ (nb rfl)
                refine ow_sub64 rfl rfl (by omega) ?_
                have hL1 : (([(.val X : Vc.C)] :: tt.map Lrow).length : Int) = (tt.length : Int) + 1 := by simp
                have em : ((([(.val X : Vc.C)] :: tt.map Lrow).length : Int) - 1).toNat = tt.length := by omega
                refine jl_op (ow_trim 4 rfl rfl rfl (by omega) (by omega) ?_) (nb rfl)
                rw [em]
                refine jl_op ?_ (nb rfl)
                refine ow_assign rfl ?_
                refine jl_nil ?_
                refine jq_block ?_
                refine jq_trim 4 tt.length rfl (by simp) ?_
                cases tt with
                | nil =>
                  refine jq_cutS (⟨W, f.terms, f.most, g.most, C, s, trimV V ([] : List (List Int)).length, X, t0, true, [], VP, XP, p0, pr⟩ : Made) trivial ?_ ?_
                  · show Vc.Sub _ [Ow W (f.terms), .blk bF 30 [.val W, .val (.int .i64 (f.most))], .blk bl 30 [.list (g.terms.map TR), .val (.int .i64 (g.most))], Ow1 C (s), .own (trimV V ([] : List (List Int)).length) 22 1 [], Ow1 X (t0), .own VP 22 1 ([.val XP] :: pr.map Lrow), Ow1 XP (p0)]
                    refine sub_step 1 rfl ?_
                    refine sub_step 1 rfl ?_
                    refine sub_step 1 rfl ?_
                    refine sub_step 1 rfl ?_
                    refine sub_step 0 rfl ?_
                    refine sub_step 0 rfl ?_
                    refine sub_step 0 rfl ?_
                    refine sub_step 0 rfl ?_
                    exact sub_end
                  · (repeat (first | exact True.intro | refine ⟨rfl, ?_⟩))
                | cons th tr =>
                  refine jq_cutS (⟨W, f.terms, f.most, g.most, C, s, trimV V (th :: tr).length, X, t0, false, (th :: tr).take tr.length, VP, XP, p0, pr⟩ : Made) trivial ?_ ?_
                  · show Vc.Sub _ [Ow W (f.terms), .blk bF 30 [.val W, .val (.int .i64 (f.most))], .blk bl 30 [.list (g.terms.map TR), .val (.int .i64 (g.most))], Ow1 C (s), .own (trimV V (th :: tr).length) 22 1 ([.val X] :: ((th :: tr).take tr.length).map Lrow), Ow1 X (t0), .own VP 22 1 ([.val XP] :: pr.map Lrow), Ow1 XP (p0)]
                    rw [List.map_take]
                    refine sub_step 1 rfl ?_
                    refine sub_step 1 rfl ?_
                    refine sub_step 1 rfl ?_
                    refine sub_step 1 rfl ?_
                    refine sub_step 0 rfl ?_
                    refine sub_step 0 rfl ?_
                    refine sub_step 0 rfl ?_
                    refine sub_step 0 rfl ?_
                    exact sub_end
                  · (repeat (first | exact True.intro | refine ⟨rfl, ?_⟩))
              · refine jc_seq ?_
                refine jc_region ?_
                refine jl_op ?_ (nb rfl)
                refine ow_eql rfl rfl ?_
                refine jl_op ?_ (nb rfl)
                refine ow_assign rfl ?_
                refine jl_nil ?_
                refine jq_then ?_
                refine jc_condd rfl (fun h3 => ?_) (fun h3 => ?_)
                · refine jc_region ?_
                  refine jl_op ?_ (nb rfl)
                  refine ow_move rfl ?_
                  refine jl_op ?_ (nb rfl)
                  refine ow_move rfl ?_
                  have htl := (ht.1.ok t0 (by simp)).1
                  refine jl_op (ow_indexOwn 4 rfl rfl rfl (by decide) (by simp) rfl ?_) (nb rfl)
                  refine jl_op (ow_loadInn 4 0 0 rfl rfl rfl rfl rfl rfl ?_) (nb rfl)
                  refine jl_op ?_ (nb rfl)
                  refine ow_move rfl ?_
                  refine jl_op ?_ (nb rfl)
                  refine ow_buildSlice rfl rfl (nb rfl) rfl rfl (nb rfl) ?_
                  refine jl_op (ow_append1 5 (by_) rfl rfl rfl rfl rfl rfl rfl (fun _ => rfl) (by show (_ + _) * 8 ≤ _; first | omega | (simp only [List.length_append]; omega)) (by first | omega | (simp only [List.length_append]; omega)) (fun X2 hX2 => ?_)) (nb rfl)
                  refine jl_op (ow_indexOwn 5 rfl rfl rfl (by decide) (by simp) rfl ?_) (nb rfl)
                  refine jl_op0 (ow_storeInnAll 5 0 rfl rfl rfl rfl rfl rfl rfl rfl rfl ?_)
                  refine jl_nil ?_
                  refine jq_block ?_
                  refine jq_cutS (⟨W, f.terms, f.most, g.most, C, s, V, X2, t0 ++ [by_], false, tt, VP, XP, p0, pr⟩ : Made) trivial ?_ ?_
                  · show Vc.Sub _ [Ow W (f.terms), .blk bF 30 [.val W, .val (.int .i64 (f.most))], .blk bl 30 [.list (g.terms.map TR), .val (.int .i64 (g.most))], Ow1 C (s), .own V 22 1 ([.val X2] :: tt.map Lrow), Ow1 X2 (t0 ++ [by_]), .own VP 22 1 ([.val XP] :: pr.map Lrow), Ow1 XP (p0)]
                    refine sub_step 2 rfl ?_
                    refine sub_step 2 rfl ?_
                    refine sub_step 2 rfl ?_
                    refine sub_step 2 rfl ?_
                    refine sub_step 0 rfl ?_
                    refine sub_step 0 rfl ?_
                    refine sub_step 0 rfl ?_
                    refine sub_step 0 rfl ?_
                    exact sub_end
                  · (repeat (first | exact True.intro | refine ⟨rfl, ?_⟩))
                · refine jc_seq ?_
                  refine jc_region ?_
                  refine jl_op ?_ (nb rfl)
                  refine ow_eql rfl rfl ?_
                  refine jl_op ?_ (nb rfl)
                  refine ow_assign rfl ?_
                  refine jl_nil ?_
                  refine jq_then ?_
                  refine jc_condd rfl (fun h4 => ?_) (fun h4 => ?_)
                  · refine jc_region ?_
                    refine jl_op ?_ (nb rfl)
                    refine ow_move rfl ?_
                    refine jl_op ?_ (nb rfl)
                    refine ow_fieldAddr rfl rfl rfl (nb rfl) ?_
                    refine jl_op0 ?_
                    refine ow_store1 2 rfl rfl rfl rfl (nb rfl) ?_
                    refine jl_nil ?_
                    refine jq_block ?_
                    refine jq_cutS (⟨W, f.terms, f.most, by_, C, s, V, X, t0, false, tt, VP, XP, p0, pr⟩ : Made) trivial ?_ ?_
                    · show Vc.Sub _ [Ow W (f.terms), .blk bF 30 [.val W, .val (.int .i64 (f.most))], .blk bl 30 [.list (g.terms.map TR), .val (.int .i64 (by_))], Ow1 C (s), .own V 22 1 ([.val X] :: tt.map Lrow), Ow1 X (t0), .own VP 22 1 ([.val XP] :: pr.map Lrow), Ow1 XP (p0)]
                      refine sub_step 1 rfl ?_
                      refine sub_step 1 rfl ?_
                      refine sub_step 0 rfl ?_
                      refine sub_step 0 rfl ?_
                      refine sub_step 0 rfl ?_
                      refine sub_step 0 rfl ?_
                      refine sub_step 0 rfl ?_
                      refine sub_step 0 rfl ?_
                      exact sub_end
                    · (repeat (first | exact True.intro | refine ⟨rfl, ?_⟩))
                  · refine jc_seq ?_
                    refine jc_region ?_
                    refine jl_op ?_ (nb rfl)
                    refine ow_eql rfl rfl ?_
                    refine jl_op ?_ (nb rfl)
                    refine ow_assign rfl ?_
                    refine jl_nil ?_
                    refine jq_then ?_
                    refine jc_condd rfl (fun h5 => ?_) (fun h5 => ?_)
                    · refine jc_region ?_
                      refine jl_op ?_ (nb rfl)
                      refine ow_move rfl ?_
                      refine jl_op ?_ (nb rfl)
                      refine ow_move rfl ?_
                      have hpl := (hq.1.ok p0 (by simp)).1
                      refine jl_op (ow_indexOwn 6 rfl rfl rfl (by decide) (by simp) rfl ?_) (nb rfl)
                      refine jl_op (ow_loadInn 6 0 0 rfl rfl rfl rfl rfl rfl ?_) (nb rfl)
                      refine jl_op ?_ (nb rfl)
                      refine ow_move rfl ?_
                      refine jl_op ?_ (nb rfl)
                      refine ow_buildSlice rfl rfl (nb rfl) rfl rfl (nb rfl) ?_
                      refine jl_op (ow_append1 7 (by_) rfl rfl rfl rfl rfl rfl rfl (fun _ => rfl) (by show (_ + _) * 8 ≤ _; first | omega | (simp only [List.length_append]; omega)) (by first | omega | (simp only [List.length_append]; omega)) (fun X2 hX2 => ?_)) (nb rfl)
                      refine jl_op (ow_indexOwn 7 rfl rfl rfl (by decide) (by simp) rfl ?_) (nb rfl)
                      refine jl_op0 (ow_storeInnAll 7 0 rfl rfl rfl rfl rfl rfl rfl rfl rfl ?_)
                      refine jl_nil ?_
                      refine jq_block ?_
                      refine jq_cutS (⟨W, f.terms, f.most, g.most, C, s, V, X, t0, false, tt, VP, X2, p0 ++ [by_], pr⟩ : Made) trivial ?_ ?_
                      · show Vc.Sub _ [Ow W (f.terms), .blk bF 30 [.val W, .val (.int .i64 (f.most))], .blk bl 30 [.list (g.terms.map TR), .val (.int .i64 (g.most))], Ow1 C (s), .own V 22 1 ([.val X] :: tt.map Lrow), Ow1 X (t0), .own VP 22 1 ([.val X2] :: pr.map Lrow), Ow1 X2 (p0 ++ [by_])]
                        refine sub_step 2 rfl ?_
                        refine sub_step 2 rfl ?_
                        refine sub_step 2 rfl ?_
                        refine sub_step 2 rfl ?_
                        refine sub_step 2 rfl ?_
                        refine sub_step 2 rfl ?_
                        refine sub_step 0 rfl ?_
                        refine sub_step 0 rfl ?_
                        exact sub_end
                      · (repeat (first | exact True.intro | refine ⟨rfl, ?_⟩))
                    · refine jc_skip ?_
                      refine jq_block ?_
                      refine jq_cutS (⟨W, f.terms, f.most, g.most, C, s, V, X, t0, false, tt, VP, XP, p0, pr⟩ : Made) trivial ?_ ?_
                      · show Vc.Sub _ [Ow W (f.terms), .blk bF 30 [.val W, .val (.int .i64 (f.most))], .blk bl 30 [.list (g.terms.map TR), .val (.int .i64 (g.most))], Ow1 C (s), .own V 22 1 ([.val X] :: tt.map Lrow), Ow1 X (t0), .own VP 22 1 ([.val XP] :: pr.map Lrow), Ow1 XP (p0)]
                        refine sub_step 0 rfl ?_
                        refine sub_step 0 rfl ?_
                        refine sub_step 0 rfl ?_
                        refine sub_step 0 rfl ?_
                        refine sub_step 0 rfl ?_
                        refine sub_step 0 rfl ?_
                        refine sub_step 0 rfl ?_
                        refine sub_step 0 rfl ?_
                        exact sub_end
                      · (repeat (first | exact True.intro | refine ⟨rfl, ?_⟩))
        · rintro ⟨W, ft, fm, gm, C, cs, V, X, x0, o, tr, VP, XP, p0, pr⟩ _
          dsimp only
          refine jc_freezeBX 0 0 rfl rfl (hX0 _) ?_
          refine jc_freeze 16 2 rfl rfl (hX0 _) ?_
          cases o with
          | false =>
            refine jc_freezeO (v2 := V) (suf := []) (rest := tr.map Lrow) 3 2 rfl rfl (hX0 _) ?_
            refine jc_freeze 15 0 rfl rfl (hX0 _) ?_
            refine jc_freezeO (v2 := VP) (suf := []) (rest := pr.map Lrow) 3 2 rfl rfl (hX0 _) ?_
            refine jc_freeze 18 0 rfl rfl (hX0 _) ?_
            have hA := agree_c ⟨ft, fm⟩ ⟨g.terms, gm⟩ cs (x0 :: tr) (p0 :: pr) a b
            refine jc_seq ?_
            refine jc_region ?_
            refine jl_op ?_ (nb rfl)
            refine ow_loadAll 0 rfl rfl rfl rfl ?_
            refine jl_op ?_ (nb rfl)
            refine ow_loadAll 1 rfl rfl rfl rfl ?_
            refine jl_op ?_ (nb rfl)
            refine ow_move rfl ?_
            refine jl_op ?_ (nb rfl)
            refine ow_move rfl ?_
            refine jl_op ?_ (nb rfl)
            refine ow_move rfl ?_
            refine jl_op ?_ (nb rfl)
            refine ow_move rfl ?_
            refine jl_op ?_ (nb rfl)
            refine ow_convI64 rfl rfl rfl (by omega) ?_
            refine jl_op ?_ (nb rfl)
            refine ow_move rfl ?_
            refine jl_op ?_ (nb rfl)
            refine ow_convI64 rfl rfl rfl (by omega) ?_
            refine jl_op ?_ (nb rfl)
            refine ow_call0 rfl (hA) ?_
            refine jl_op ?_ (nb rfl)
            refine ow_move rfl ?_
            refine jl_guardY rfl (by first | assumption | exact decide_eq_true rfl | exact decide_eq_true (by first | assumption | omega) | exact decide_eq_false (by first | assumption | omega) | with_reducible rfl | exact (rfl : false = !true) | exact (rfl : true = !false)) (nb rfl) ?_
            refine ow_call0 rfl (awake_c) ?_
            refine jl_op ?_ (nb rfl)
            refine ow_pickT rfl (by first | assumption | exact decide_eq_true rfl | exact decide_eq_true (by first | assumption | omega) | exact decide_eq_false (by first | assumption | omega) | with_reducible rfl | exact (rfl : false = !true) | exact (rfl : true = !false)) rfl ?_
            refine jl_op ?_ (nb rfl)
            refine ow_assign rfl ?_
            refine jl_nil ?_
            refine jq_then ?_
            refine jc_ret ?_
            refine jq_ret1 rfl rfl [] rfl (fun K h => h)
          | true =>
            refine jc_freeze 15 2 rfl rfl (hX0 _) ?_
            refine jc_freezeO (v2 := VP) (suf := []) (rest := pr.map Lrow) 4 3 rfl rfl (hX0 _) ?_
            refine jc_freeze 18 0 rfl rfl (hX0 _) ?_
            have hA := agree_c ⟨ft, fm⟩ ⟨g.terms, gm⟩ cs [] (p0 :: pr) a b
            refine jc_seq ?_
            refine jc_region ?_
            refine jl_op ?_ (nb rfl)
            refine ow_loadAll 0 rfl rfl rfl rfl ?_
            refine jl_op ?_ (nb rfl)
            refine ow_loadAll 1 rfl rfl rfl rfl ?_
            refine jl_op ?_ (nb rfl)
            refine ow_move rfl ?_
            refine jl_op ?_ (nb rfl)
            refine ow_move rfl ?_
            refine jl_op ?_ (nb rfl)
            refine ow_move rfl ?_
            refine jl_op ?_ (nb rfl)
            refine ow_move rfl ?_
            refine jl_op ?_ (nb rfl)
            refine ow_convI64 rfl rfl rfl (by omega) ?_
            refine jl_op ?_ (nb rfl)
            refine ow_move rfl ?_
            refine jl_op ?_ (nb rfl)
            refine ow_convI64 rfl rfl rfl (by omega) ?_
            refine jl_op ?_ (nb rfl)
            refine ow_call0 rfl (hA) ?_
            refine jl_op ?_ (nb rfl)
            refine ow_move rfl ?_
            refine jl_guardY rfl (by first | assumption | exact decide_eq_true rfl | exact decide_eq_true (by first | assumption | omega) | exact decide_eq_false (by first | assumption | omega) | with_reducible rfl | exact (rfl : false = !true) | exact (rfl : true = !false)) (nb rfl) ?_
            refine ow_call0 rfl (awake_c) ?_
            refine jl_op ?_ (nb rfl)
            refine ow_pickT rfl (by first | assumption | exact decide_eq_true rfl | exact decide_eq_true (by first | assumption | omega) | exact decide_eq_false (by first | assumption | omega) | with_reducible rfl | exact (rfl : false = !true) | exact (rfl : true = !false)) rfl ?_
            refine jl_op ?_ (nb rfl)
            refine ow_assign rfl ?_
            refine jl_nil ?_
            refine jq_then ?_
            refine jc_ret ?_
            refine jq_ret1 rfl rfl [] rfl (fun K h => h)
end Go.Proofs.Ytjkkkjikhjfdnaa
