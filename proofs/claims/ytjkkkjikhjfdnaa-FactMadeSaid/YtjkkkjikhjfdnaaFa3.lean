import Derived.Test.YtjkkkjikhjfdnaaFa2
namespace Go.Proofs.Ytjkkkjikhjfdnaa
open Go.Vc
attribute [local irreducible] JL JC JQ OpWp Con ConN
attribute [local irreducible] isSmall isBlock
set_option maxHeartbeats 4000000

abbrev okB (l : List Tm) : Prop := ∀ t ∈ l, badT t = false
theorem okB_parts {t : Tm} (h : badT t = false) : (0 ≤ t.1 ∧ t.1 < 256) ∧ -1048576 ≤ t.2 ∧ t.2 ≤ 1048576 := by
  unfold badT at h
  rw [Bool.or_eq_false_iff] at h
  exact ⟨isBlock_iff.1 (by simpa using h.1), isSmall_iff.1 (by simpa using h.2)⟩
theorem gather_c (l : List Tm) (hl : l.length ≤ 1024) (hok : okB l) : Con Try.prog 34 [.cell (.list (l.map TR))] [] (fun K => K (.cell (.list ((canon l).map TR))) []) := by
  have hokT : okT l := fun t ht => by have := okB_parts (hok t ht); omega
  refine con_intro Try.func34 rfl rfl (Nat.le_of_ble_eq_true rfl) (fun c hc => ?_)
  refine jc_seq ?_
  refine jc_region ?_
  refine jl_op ?_ (nb rfl)
  refine ow_assign rfl ?_
  refine jl_nil ?_
  refine jq_then ?_
  refine jc_seq ?_
  refine jc_region ?_
  refine jl_op ?_ (nb rfl)
  refine ow_move rfl ?_
  refine jl_op (ow_callP [] rfl rfl (Clone_c l (by omega)) (fun V hV => ?_)) (nb rfl)
  refine jl_op ?_ (nb rfl)
  refine ow_assign rfl ?_
  refine jl_nil ?_
  refine jq_then ?_
  refine jc_seq ?_
  refine jc_region ?_
  refine jl_op ?_ (nb rfl)
  refine ow_move rfl ?_
  refine jl_op (ow_callP [0] rfl rfl (SortStable_c V l (by omega) hokT) (fun s hs => ?_)) (nb rfl)
  obtain ⟨hperm, hsort⟩ := hs
  have hsl : s.length = l.length := hperm.length_eq
  have hsb : okB s := fun t ht => hok t (hperm.mem_iff.1 ht)
  refine jl_nil ?_
  refine jq_then ?_
  refine jc_seq ?_
  refine jc_freeze 3 0 rfl rfl (by rw [hc]; simp [hb]) ?_
  refine jc_region ?_
  refine jl_op ?_ (nb rfl)
  refine ow_assign rfl ?_
  refine jl_nil ?_
  refine jq_then ?_
  refine jc_seq ?_
  refine jc_seq ?_
  refine jc_region ?_
  refine jl_op ?_ (nb rfl)
  refine ow_move rfl ?_
  refine jl_op ?_ (nb rfl)
  refine ow_len rfl (fun hlen => ?_)
  refine jl_op ?_ (nb rfl)
  refine ow_move rfl ?_
  refine jl_nil ?_
  refine jq_then ?_
  refine jc_block ?_
  refine jc_ownNil 44 2 (by omega) ?_
  have eS : (s.map TR).length = s.length := List.length_map _
  refine jc_loopS (ι := Nat × Value) [] (fun i => i.1 ≤ s.length ∧ i.2.oneCell' = true) (fun i => [(3, .cell (.list (s.map TR))), (4, .cell (.val i.2)), (12, .cell (.list (s.map TR))), (13, In .i64 ((s.map TR).length : Int)), (14, In .i64 (i.1 : Int))]) (fun i => [Ow i.2 (comb (s.take i.1))]) (fun i => s.length - i.1) (0, .slice none 0 0) ⟨Nat.zero_le _, rfl⟩ ?_ ?_ ?_
  · show Vc.Sub _ [Ow _ (comb (s.take 0))]
    rw [List.take_zero]
    refine sub_step 0 rfl ?_
    exact sub_end
  · (repeat (first | exact True.intro | refine ⟨rfl, ?_⟩))
  · rintro ⟨k, W⟩ ⟨hk, hW⟩
    dsimp only at hk hW ⊢
    refine jc_reset [(3, .cell (.list (s.map TR))), (4, .cell (.val W)), (12, .cell (.list (s.map TR))), (13, In .i64 ((s.map TR).length : Int)), (14, In .i64 (k : Int))] [Ow W (comb (s.take k))] ?_ ⟨[0], [], rfl⟩ ?_
    · (repeat (first | exact True.intro | refine ⟨rfl, ?_⟩))
    refine jc_seq ?_
    refine jc_region ?_
    refine jl_op ?_ (nb rfl)
    refine ow_lss rfl rfl ?_
    refine jl_nil ?_
    refine jq_then ?_
    refine jc_seq ?_
    refine jc_condd rfl (fun hlt => ?_) (fun hge => ?_)
    · have hlt' : k < s.length := by omega
      have hck := comb_ok _ (s.take k) rfl (hsort.sublist (List.take_sublist k s))
      have estep : comb (s.take (k + 1)) = addT (comb (s.take k)) s[k] := by rw [List.take_succ_eq_append_getElem hlt', comb_snoc]
      have hbnd : ∀ (j : Nat), j ≤ s.length → ∀ u ∈ comb (s.take j), -(1048576 * (j : Int)) ≤ u.2 ∧ u.2 ≤ 1048576 * (j : Int) := by
        intro j
        induction j with
        | zero => intro _ u hu; rw [List.take_zero] at hu; cases hu
        | succ j ih =>
          intro hj u hu
          rw [List.take_succ_eq_append_getElem (by omega), comb_snoc] at hu
          have h1 := (okB_parts (hsb s[j] (List.getElem_mem (by omega)))).2
          have := addT_bound (B := 1048576 * (j : Int)) (b := 1048576) (ih (by omega)) (by omega) (by omega) u hu
          omega
      have hbk := hbnd k hk
      have htk := (okB_parts (hsb s[k] (List.getElem_mem hlt'))).2
      clear hbnd
      have hlenO : (comb (s.take k)).length ≤ 1024 := by
        have := comb_len _ (s.take k) rfl
        rw [List.length_take] at this
        omega
      have hnil : k = 0 → comb (s.take k) = [] := fun h => by subst h; rw [List.take_zero]; rfl
      have hlast : 0 < k → (s.take k).getLast? = some s[((k : Int) - 1).toNat] := fun h => by
        obtain ⟨m, rfl⟩ : ∃ m, k = m + 1 := ⟨k - 1, by omega⟩
        rw [List.take_succ_eq_append_getElem (by omega), List.getLast?_concat]
        congr 2
        omega
      generalize comb (s.take k) = O at hck hbk hlenO hnil estep ⊢
      have eO : (O.map TR).length = O.length := List.length_map _
      by_cases hk0 : (0 : Int) < (k : Int)
      · have hlt2 : ((k : Int) - 1).toNat < s.length := by omega
        have hla := hck.last
        rw [hlast (by omega), Option.map_some] at hla
        rcases list_snoc O with rfl | ⟨Q, u, rfl⟩
        · simp at hla
        · rw [List.getLast?_concat, Option.map_some, Option.some.injEq] at hla
          rw [addT_snoc] at estep
          have eQ : (Q ++ [u]).length = Q.length + 1 := by simp
          have hu := hbk u (by simp)
          refine jc_skip ?_
          refine jq_then ?_
          refine jc_seq ?_
          refine jc_block ?_
          refine jc_seq ?_
          refine jc_region ?_
          refine jl_op ?_ (nb rfl)
          refine ow_move rfl ?_
          refine jl_op ?_ (nb rfl)
          refine ow_indexAddrMapE rfl rfl (by omega) rfl rfl (nb rfl) ?_
          refine jl_op ?_ (nb rfl)
          refine ow_loadPlaceN rfl rfl rfl ?_
          refine jl_op ?_ (nb rfl)
          refine ow_alloc rfl rfl (fun bl => ?_)
          refine jl_op ?_ (nb rfl)
          refine ow_assign rfl ?_
          refine jl_op0 ?_
          refine ow_storeAll 0 rfl rfl rfl rfl rfl rfl ?_
          refine jl_nil ?_
          refine jq_then ?_
          refine jc_seq ?_
          refine jc_region ?_
          refine jl_op ?_ (nb rfl)
          refine ow_move rfl ?_
          refine jl_op ?_ (nb rfl)
          refine ow_lenown 1 rfl rfl (fun hlen => ?_)
          refine jl_op ?_ (nb rfl)
          refine ow_assign rfl ?_
          refine jl_nil ?_
          refine jq_then ?_
          refine jc_seq ?_
          refine jc_any rfl rfl (by kernel_rfl) (by kernel_rfl) ?_
          refine any_op (fun c => ow_move rfl ⟨rfl, List.Perm.refl _⟩) ?_
          refine any_op (fun c => ow_gtr rfl rfl ⟨rfl, List.Perm.refl _⟩) ?_
          refine any_op (fun c => ow_move rfl ⟨rfl, List.Perm.refl _⟩) ?_
          refine any_guardY rfl (by first | assumption | exact decide_eq_true rfl | exact decide_eq_true (by first | assumption | omega) | exact decide_eq_false (by first | assumption | omega) | with_reducible rfl | exact (rfl : false = !true) | exact (rfl : true = !false)) (fun c => ow_move rfl ⟨rfl, List.Perm.refl _⟩) ?_
          refine any_guardY rfl (by first | assumption | exact decide_eq_true rfl | exact decide_eq_true (by first | assumption | omega) | exact decide_eq_false (by first | assumption | omega) | with_reducible rfl | exact (rfl : false = !true) | exact (rfl : true = !false)) (fun c => ow_move rfl ⟨rfl, List.Perm.refl _⟩) ?_
          refine any_guardY rfl (by first | assumption | exact decide_eq_true rfl | exact decide_eq_true (by first | assumption | omega) | exact decide_eq_false (by first | assumption | omega) | with_reducible rfl | exact (rfl : false = !true) | exact (rfl : true = !false)) (fun c => ow_sub64 rfl rfl (by omega) ⟨rfl, List.Perm.refl _⟩) ?_
          refine any_guardY rfl (by first | assumption | exact decide_eq_true rfl | exact decide_eq_true (by first | assumption | omega) | exact decide_eq_false (by first | assumption | omega) | with_reducible rfl | exact (rfl : false = !true) | exact (rfl : true = !false)) (fun c => ow_indexAddrMapI rfl rfl (by omega) (by omega) rfl rfl (nb rfl) ⟨rfl, List.Perm.refl _⟩) ?_
          refine any_guardY rfl (by first | assumption | exact decide_eq_true rfl | exact decide_eq_true (by first | assumption | omega) | exact decide_eq_false (by first | assumption | omega) | with_reducible rfl | exact (rfl : false = !true) | exact (rfl : true = !false)) (fun c => ow_fieldAddrPlace rfl rfl rfl (nb rfl) rfl (nb rfl) ⟨rfl, List.Perm.refl _⟩) ?_
          refine any_guardY rfl (by first | assumption | exact decide_eq_true rfl | exact decide_eq_true (by first | assumption | omega) | exact decide_eq_false (by first | assumption | omega) | with_reducible rfl | exact (rfl : false = !true) | exact (rfl : true = !false)) (fun c => ow_loadPlace rfl rfl ⟨rfl, List.Perm.refl _⟩) ?_
          refine any_guardY rfl (by first | assumption | exact decide_eq_true rfl | exact decide_eq_true (by first | assumption | omega) | exact decide_eq_false (by first | assumption | omega) | with_reducible rfl | exact (rfl : false = !true) | exact (rfl : true = !false)) (fun c => ow_fieldAddr rfl rfl rfl (nb rfl) ⟨rfl, List.Perm.refl _⟩) ?_
          refine any_guardY rfl (by first | assumption | exact decide_eq_true rfl | exact decide_eq_true (by first | assumption | omega) | exact decide_eq_false (by first | assumption | omega) | with_reducible rfl | exact (rfl : false = !true) | exact (rfl : true = !false)) (fun c => ow_load 0 rfl rfl rfl rfl ⟨rfl, List.Perm.refl _⟩) ?_
          refine any_guardY rfl (by first | assumption | exact decide_eq_true rfl | exact decide_eq_true (by first | assumption | omega) | exact decide_eq_false (by first | assumption | omega) | with_reducible rfl | exact (rfl : false = !true) | exact (rfl : true = !false)) (fun c => ow_eql rfl rfl ⟨rfl, List.Perm.refl _⟩) ?_
          refine any_op (fun c => ow_pickT rfl (by first | assumption | exact decide_eq_true rfl | exact decide_eq_true (by first | assumption | omega) | exact decide_eq_false (by first | assumption | omega) | with_reducible rfl | exact (rfl : false = !true) | exact (rfl : true = !false)) rfl ⟨rfl, List.Perm.refl _⟩) ?_
          refine any_nil ?_
          refine jq_then ?_
          refine jc_condd rfl (fun heq => ?_) (fun hne => ?_)
          · rw [if_pos (by rw [hla]; exact heq)] at estep
            have hq : Q.length < (Q ++ [u]).length := by omega
            have hrow : ((Q ++ [u]).map TR)[Q.length]? = some (TR u) := by rw [map_at hq, List.getElem_concat_length rfl]
            skip
            refine jc_anyB 11 none rfl (by kernel_rfl) (by kernel_rfl) ?_
            refine any_op (fun c => ow_move rfl ⟨rfl, List.Perm.refl _⟩) ?_
            refine any_op (fun c => ow_move rfl ⟨rfl, List.Perm.refl _⟩) ?_
            refine any_op (fun c => ow_sub64 rfl rfl (by omega) ⟨rfl, List.Perm.refl _⟩) ?_
            refine any_op (fun c => ow_indexOwn 1 rfl rfl rfl (by omega) (by omega) rfl ⟨rfl, List.Perm.refl _⟩) ?_
            refine any_op (fun c => ow_fieldAddrInn rfl rfl rfl (nb rfl) ⟨rfl, List.Perm.refl _⟩) ?_
            refine any_op (fun c => ow_loadInn 1 Q.length 1 rfl rfl rfl (by omega) hrow rfl ⟨rfl, List.Perm.refl _⟩) ?_
            refine any_op (fun c => ow_fieldAddr rfl rfl rfl (nb rfl) ⟨rfl, List.Perm.refl _⟩) ?_
            refine any_op (fun c => ow_load 0 rfl rfl rfl rfl ⟨rfl, List.Perm.refl _⟩) ?_
            refine any_op (fun c => ow_add64 rfl rfl (by omega) ⟨rfl, List.Perm.refl _⟩) ?_
            refine any_op (fun c => ow_indexOwn 1 rfl rfl rfl (by omega) (by omega) rfl ⟨rfl, List.Perm.refl _⟩) ?_
            refine any_op (fun c => ow_fieldAddrInn rfl rfl rfl (nb rfl) ⟨rfl, List.Perm.refl _⟩) ?_
            refine any_nil ?_
            refine afin_none ?_
            skip
            refine jl_op0 (ow_storeInn 1 Q.length 1 rfl rfl rfl rfl (by omega) hrow rfl (Nat.le_refl 2) rfl ?_)
            refine jl_nil ?_
            refine jq_block ?_
            refine jq_then ?_
            refine jc_region ?_
            refine jl_op ?_ (nb rfl)
            refine ow_add64 rfl rfl (by omega) ?_
            refine jl_op ?_ (nb rfl)
            refine ow_move rfl ?_
            refine jl_nil ?_
            refine jq_againS (i := (k, W)) (k + 1, W) ⟨by dsimp only; omega, hW⟩ (by dsimp only; omega) ?_ ?_
            · dsimp only
              rw [estep]
              rw [show Ow W (Q ++ [(u.1, u.2 + s[k].2)]) = .own W 44 2 (((Q ++ [u]).map TR).set Q.length (TR (u.1, u.2 + s[k].2))) by
                show Ch.own W 44 2 (List.map TR (Q ++ [(u.1, u.2 + s[k].2)])) = _
                rw [← List.map_set, List.set_append_right _ _ (Nat.le_refl _), Nat.sub_self]
                rfl]
              refine sub_step 0 rfl ?_
              exact sub_end
            · (repeat (first | exact True.intro | refine ⟨rfl, ?_⟩))
          · rw [if_neg (by rw [hla]; exact hne)] at estep
            refine jc_region ?_
            refine jl_op ?_ (nb rfl)
            refine ow_move rfl ?_
            refine jl_op ?_ (nb rfl)
            refine ow_loadAll 0 rfl rfl rfl rfl ?_
            refine jl_op ?_ (nb rfl)
            refine ow_buildSlice rfl rfl (nb rfl) rfl rfl (nb rfl) ?_
            refine jl_op (ow_append1 1 (s[k]) rfl rfl rfl rfl rfl rfl rfl (fun _ => rfl) (by show (_ + _) * 16 ≤ _; first | omega | (simp only [List.length_append]; omega)) (by first | omega | (simp only [List.length_append]; omega)) (fun W2 hW2 => ?_)) (nb rfl)
            refine jl_op ?_ (nb rfl)
            refine ow_assign rfl ?_
            refine jl_nil ?_
            refine jq_block ?_
            refine jq_then ?_
            refine jc_region ?_
            refine jl_op ?_ (nb rfl)
            refine ow_add64 rfl rfl (by omega) ?_
            refine jl_op ?_ (nb rfl)
            refine ow_move rfl ?_
            refine jl_nil ?_
            refine jq_againS (i := (k, W)) (k + 1, W2) ⟨by dsimp only; omega, hW2⟩ (by dsimp only; omega) ?_ ?_
            · dsimp only
              rw [estep]
              refine sub_step 0 rfl ?_
              exact sub_end
            · (repeat (first | exact True.intro | refine ⟨rfl, ?_⟩))
      · have hO := hnil (by omega)
        subst hO
        have h00 : ([] : List Tm).length = 0 := rfl
        refine jc_skip ?_
        refine jq_then ?_
        refine jc_seq ?_
        refine jc_block ?_
        refine jc_seq ?_
        refine jc_region ?_
        refine jl_op ?_ (nb rfl)
        refine ow_move rfl ?_
        refine jl_op ?_ (nb rfl)
        refine ow_indexAddrMapE rfl rfl (by omega) rfl rfl (nb rfl) ?_
        refine jl_op ?_ (nb rfl)
        refine ow_loadPlaceN rfl rfl rfl ?_
        refine jl_op ?_ (nb rfl)
        refine ow_alloc rfl rfl (fun bl => ?_)
        refine jl_op ?_ (nb rfl)
        refine ow_assign rfl ?_
        refine jl_op0 ?_
        refine ow_storeAll 0 rfl rfl rfl rfl rfl rfl ?_
        refine jl_nil ?_
        refine jq_then ?_
        refine jc_seq ?_
        refine jc_region ?_
        refine jl_op ?_ (nb rfl)
        refine ow_move rfl ?_
        refine jl_op ?_ (nb rfl)
        refine ow_lenown 1 rfl rfl (fun hlen => ?_)
        refine jl_op ?_ (nb rfl)
        refine ow_assign rfl ?_
        refine jl_nil ?_
        refine jq_then ?_
        refine jc_seq ?_
        refine jc_any rfl rfl (by kernel_rfl) (by kernel_rfl) ?_
        refine any_op (fun c => ow_move rfl ⟨rfl, List.Perm.refl _⟩) ?_
        refine any_op (fun c => ow_gtr rfl rfl ⟨rfl, List.Perm.refl _⟩) ?_
        refine any_op (fun c => ow_move rfl ⟨rfl, List.Perm.refl _⟩) ?_
        refine any_guardN rfl (by first | assumption | exact decide_eq_true rfl | exact decide_eq_true (by first | assumption | omega) | exact decide_eq_false (by first | assumption | omega) | with_reducible rfl | exact (rfl : false = !true) | exact (rfl : true = !false)) ?_
        refine any_guardN rfl (by first | assumption | exact decide_eq_true rfl | exact decide_eq_true (by first | assumption | omega) | exact decide_eq_false (by first | assumption | omega) | with_reducible rfl | exact (rfl : false = !true) | exact (rfl : true = !false)) ?_
        refine any_guardN rfl (by first | assumption | exact decide_eq_true rfl | exact decide_eq_true (by first | assumption | omega) | exact decide_eq_false (by first | assumption | omega) | with_reducible rfl | exact (rfl : false = !true) | exact (rfl : true = !false)) ?_
        refine any_guardN rfl (by first | assumption | exact decide_eq_true rfl | exact decide_eq_true (by first | assumption | omega) | exact decide_eq_false (by first | assumption | omega) | with_reducible rfl | exact (rfl : false = !true) | exact (rfl : true = !false)) ?_
        refine any_guardN rfl (by first | assumption | exact decide_eq_true rfl | exact decide_eq_true (by first | assumption | omega) | exact decide_eq_false (by first | assumption | omega) | with_reducible rfl | exact (rfl : false = !true) | exact (rfl : true = !false)) ?_
        refine any_guardN rfl (by first | assumption | exact decide_eq_true rfl | exact decide_eq_true (by first | assumption | omega) | exact decide_eq_false (by first | assumption | omega) | with_reducible rfl | exact (rfl : false = !true) | exact (rfl : true = !false)) ?_
        refine any_guardN rfl (by first | assumption | exact decide_eq_true rfl | exact decide_eq_true (by first | assumption | omega) | exact decide_eq_false (by first | assumption | omega) | with_reducible rfl | exact (rfl : false = !true) | exact (rfl : true = !false)) ?_
        refine any_guardN rfl (by first | assumption | exact decide_eq_true rfl | exact decide_eq_true (by first | assumption | omega) | exact decide_eq_false (by first | assumption | omega) | with_reducible rfl | exact (rfl : false = !true) | exact (rfl : true = !false)) ?_
        refine any_guardN rfl (by first | assumption | exact decide_eq_true rfl | exact decide_eq_true (by first | assumption | omega) | exact decide_eq_false (by first | assumption | omega) | with_reducible rfl | exact (rfl : false = !true) | exact (rfl : true = !false)) ?_
        refine any_op (fun c => ow_pickF rfl (by first | assumption | exact decide_eq_true rfl | exact decide_eq_true (by first | assumption | omega) | exact decide_eq_false (by first | assumption | omega) | with_reducible rfl | exact (rfl : false = !true) | exact (rfl : true = !false)) rfl ⟨rfl, List.Perm.refl _⟩) ?_
        refine any_nil ?_
        refine jq_then ?_
        refine jc_cond rfl (fun h => by cases h) (fun _ => ?_)
        refine jc_region ?_
        refine jl_op ?_ (nb rfl)
        refine ow_move rfl ?_
        refine jl_op ?_ (nb rfl)
        refine ow_loadAll 0 rfl rfl rfl rfl ?_
        refine jl_op ?_ (nb rfl)
        refine ow_buildSlice rfl rfl (nb rfl) rfl rfl (nb rfl) ?_
        refine jl_op (ow_append1 1 (s[k]) rfl rfl rfl rfl rfl rfl rfl (fun _ => rfl) (by show (_ + _) * 16 ≤ _; first | omega | (simp only [List.length_append]; omega)) (by first | omega | (simp only [List.length_append]; omega)) (fun W2 hW2 => ?_)) (nb rfl)
        refine jl_op ?_ (nb rfl)
        refine ow_assign rfl ?_
        refine jl_nil ?_
        refine jq_block ?_
        refine jq_then ?_
        refine jc_region ?_
        refine jl_op ?_ (nb rfl)
        refine ow_add64 rfl rfl (by omega) ?_
        refine jl_op ?_ (nb rfl)
        refine ow_move rfl ?_
        refine jl_nil ?_
        refine jq_againS (i := (k, W)) (k + 1, W2) ⟨by dsimp only; omega, hW2⟩ (by dsimp only; omega) ?_ ?_
        · dsimp only
          rw [estep, addT_nil]
          refine sub_step 0 rfl ?_
          exact sub_end
        · (repeat (first | exact True.intro | refine ⟨rfl, ?_⟩))
    · obtain rfl : k = s.length := by omega
      have hcl := comb_len _ (s.take s.length) rfl
      have hge2 := gather_eq hperm hsort (fun t ht => by have := hok t ht; unfold badT at this; rw [Bool.or_eq_false_iff] at this; simpa using this.1)
      rw [List.take_length] at hcl ⊢
      refine jc_exit ?_
      refine jq_then_exit ?_
      refine jq_then_exit ?_
      refine jq_block_exit ?_
      refine jq_then ?_
      refine jc_seq ?_
      refine jc_region ?_
      refine jl_op ?_ (nb rfl)
      refine ow_move rfl ?_
      refine jl_op (ow_callP [0] rfl rfl (DeleteFunc_c _ zeroT ga2_c W hW (comb s) (by omega)) (fun W2 hW2 => ?_)) (nb rfl)
      rw [hge2]
      refine jl_op ?_ (nb rfl)
      refine ow_assign rfl ?_
      refine jl_nil ?_
      refine jq_then ?_
      refine jc_ret ?_
      refine jq_freeze 2 0 rfl rfl (by rw [hc]; simp [hb]) ?_
      refine jq_ret1 rfl rfl [] rfl (fun K h => h)

/-! Facts -/
structure Fct where
  terms : List Tm
  most : Int
abbrev FR (f : Fct) : List C := [.list (f.terms.map TR), .val (.int .i64 f.most)]
def F0 : Fct := ⟨[], 0⟩
def ofF (l : List Tm) (most : Int) : Fct × Int :=
  if 1024 < l.length then (F0, 4) else if !isSmall most || l.any badT then (F0, 3) else if 64 < (canon l).length then (F0, 4) else if (canon l).any bigT then (F0, 3) else (⟨canon l, most⟩, 0)
theorem Of_c (l : List Tm) (most : Int) : Con Try.prog 19 [.cell (.list (l.map TR)), In .i64 most] [] (fun K => K (.tup [.row (FR (ofF l most).1), In .i64 (ofF l most).2]) []) := by
  have eL : (l.map TR).length = l.length := List.length_map _
  have fin0 : ∀ (e : Int) {c : Cx Try.prog Try.f19.ntmps} {env : Env} {bl : Nat}, ofF l most = (F0, e) → env.lookup 4 = some (.cell (.val (.pointer (some ⟨bl, 0, none⟩)))) → env.lookup 5 = some (In .i64 e) →
      JQ c (bodyPost Try.prog Try.f19 (RR c (fun K => K (.tup [.row (FR (ofF l most).1), In .i64 (ofF l most).2]) []))) .ret env [.blk bl 30 [.val (.slice none 0 0), .val (.int .i64 0)]] := by
    intro e c env bl he h4 h5
    refine jq_row 0 (FR F0) rfl (.cons .nil (.cons (.refl _) .nil)) ?_
    refine jq_retRowT rfl rfl rfl h4 h5 0 rfl (fun K h => by rw [he] at h; exact h) ?_
    exact sub_end
  refine con_intro Try.func19 rfl rfl (Nat.le_of_ble_eq_true rfl) (fun c hc => ?_)
  refine jc_seq ?_
  refine jc_region ?_
  refine jl_op ?_ (nb rfl)
  refine ow_alloc rfl rfl (fun bl => ?_)
  refine jl_op ?_ (nb rfl)
  refine ow_assign rfl ?_
  refine jl_nil ?_
  refine jq_then ?_
  refine jc_seq ?_
  refine jc_seq ?_
  refine jc_region ?_
  refine jl_op ?_ (nb rfl)
  refine ow_move rfl ?_
  refine jl_op ?_ (nb rfl)
  refine ow_len rfl (fun hlen => ?_)
  refine jl_op ?_ (nb rfl)
  refine ow_gtr rfl rfl ?_
  refine jl_nil ?_
  refine jq_then ?_
  refine jc_condd rfl (fun hgt => ?_) (fun hle => ?_)
  · have e : ofF l most = (F0, 4) := by unfold ofF; rw [if_pos (by omega)]
    refine jc_seq ?_
    refine jc_region ?_
    refine jl_op ?_ (nb rfl)
    refine ow_build rfl rfl rfl rfl rfl ?_
    refine jl_op0 ?_
    refine ow_storeAll 0 rfl rfl rfl rfl rfl rfl ?_
    refine jl_op ?_ (nb rfl)
    refine ow_assign rfl ?_
    refine jl_nil ?_
    refine jq_then ?_
    refine jc_ret ?_
    refine jq_then_ret ?_
    exact fin0 4 e rfl rfl
  · cases hsm : isSmall most with
    | false =>
      have hsm' : (!isSmall most) = true := by rw [hsm]; rfl
      have e : ofF l most = (F0, 3) := by unfold ofF; rw [if_neg (by omega), hsm', Bool.true_or, if_pos rfl]
      refine jc_skip ?_
      refine jq_then ?_
      refine jc_seq ?_
      refine jc_seq ?_
      refine jc_region ?_
      refine jl_op ?_ (nb rfl)
      refine ow_move rfl ?_
      refine jl_op ?_ (nb rfl)
      refine ow_call0 rfl (small_c _) ?_
      refine jl_op ?_ (nb rfl)
      refine ow_not rfl ?_
      refine jl_op ?_ (nb rfl)
      refine ow_move rfl ?_
      refine jl_guardN rfl (by first | assumption | exact decide_eq_true rfl | exact decide_eq_true (by first | assumption | omega) | exact decide_eq_false (by first | assumption | omega) | with_reducible rfl | exact (rfl : false = !true) | exact (rfl : true = !false)) (nb rfl) ?_
      refine jl_guardN rfl (by first | assumption | exact decide_eq_true rfl | exact decide_eq_true (by first | assumption | omega) | exact decide_eq_false (by first | assumption | omega) | with_reducible rfl | exact (rfl : false = !true) | exact (rfl : true = !false)) (nb rfl) ?_
      refine jl_op ?_ (nb rfl)
      refine ow_pickT rfl (by first | assumption | exact decide_eq_true rfl | exact decide_eq_true (by first | assumption | omega) | exact decide_eq_false (by first | assumption | omega) | with_reducible rfl | exact (rfl : false = !true) | exact (rfl : true = !false)) rfl ?_
      refine jl_nil ?_
      refine jq_then ?_
      refine jc_cond rfl (fun _ => ?_) (fun h => by cases h)
      refine jc_seq ?_
      refine jc_region ?_
      refine jl_op ?_ (nb rfl)
      refine ow_build rfl rfl rfl rfl rfl ?_
      refine jl_op0 ?_
      refine ow_storeAll 0 rfl rfl rfl rfl rfl rfl ?_
      refine jl_op ?_ (nb rfl)
      refine ow_assign rfl ?_
      refine jl_nil ?_
      refine jq_then ?_
      refine jc_ret ?_
      refine jq_then_ret ?_
      exact fin0 3 e rfl rfl
    | true =>
      have hsm' : (!isSmall most) = false := by rw [hsm]; rfl
      refine jc_skip ?_
      refine jq_then ?_
      refine jc_seq ?_
      refine jc_seq ?_
      refine jc_region ?_
      refine jl_op ?_ (nb rfl)
      refine ow_move rfl ?_
      refine jl_op ?_ (nb rfl)
      refine ow_call0 rfl (small_c _) ?_
      refine jl_op ?_ (nb rfl)
      refine ow_not rfl ?_
      refine jl_op ?_ (nb rfl)
      refine ow_move rfl ?_
      refine jl_guardY rfl (by first | assumption | exact decide_eq_true rfl | exact decide_eq_true (by first | assumption | omega) | exact decide_eq_false (by first | assumption | omega) | with_reducible rfl | exact (rfl : false = !true) | exact (rfl : true = !false)) (nb rfl) ?_
      refine ow_move rfl ?_
      refine jl_guardY rfl (by first | assumption | exact decide_eq_true rfl | exact decide_eq_true (by first | assumption | omega) | exact decide_eq_false (by first | assumption | omega) | with_reducible rfl | exact (rfl : false = !true) | exact (rfl : true = !false)) (nb rfl) ?_
      refine ow_call0 rfl (hasT_c _ badT of1_c l) ?_
      refine jl_op ?_ (nb rfl)
      refine ow_pickF rfl (by first | assumption | exact decide_eq_true rfl | exact decide_eq_true (by first | assumption | omega) | exact decide_eq_false (by first | assumption | omega) | with_reducible rfl | exact (rfl : false = !true) | exact (rfl : true = !false)) rfl ?_
      refine jl_nil ?_
      refine jq_then ?_
      refine jc_cond rfl (fun hbad => ?_) (fun hbad => ?_)
      · have e : ofF l most = (F0, 3) := by unfold ofF; rw [if_neg (by omega), hbad, Bool.or_true, if_pos rfl]
        refine jc_seq ?_
        refine jc_region ?_
        refine jl_op ?_ (nb rfl)
        refine ow_build rfl rfl rfl rfl rfl ?_
        refine jl_op0 ?_
        refine ow_storeAll 0 rfl rfl rfl rfl rfl rfl ?_
        refine jl_op ?_ (nb rfl)
        refine ow_assign rfl ?_
        refine jl_nil ?_
        refine jq_then ?_
        refine jc_ret ?_
        refine jq_then_ret ?_
        exact fin0 3 e rfl rfl
      · have hok : okB l := fun t ht => by simpa using List.any_eq_false.1 hbad t ht
        have eC : ((canon l).map TR).length = (canon l).length := List.length_map _
        refine jc_skip ?_
        refine jq_then ?_
        refine jc_seq ?_
        refine jc_region ?_
        refine jl_op ?_ (nb rfl)
        refine ow_move rfl ?_
        refine jl_op ?_ (nb rfl)
        refine ow_call0 rfl (gather_c l (by omega) hok) ?_
        refine jl_op ?_ (nb rfl)
        refine ow_assign rfl ?_
        refine jl_nil ?_
        refine jq_then ?_
        refine jc_seq ?_
        refine jc_seq ?_
        refine jc_region ?_
        refine jl_op ?_ (nb rfl)
        refine ow_move rfl ?_
        refine jl_op ?_ (nb rfl)
        refine ow_len rfl (fun hlen => ?_)
        refine jl_op ?_ (nb rfl)
        refine ow_gtr rfl rfl ?_
        refine jl_nil ?_
        refine jq_then ?_
        refine jc_condd rfl (fun h64 => ?_) (fun h64 => ?_)
        · have e : ofF l most = (F0, 4) := by unfold ofF; rw [if_neg (by omega), hbad, hsm', if_neg (by decide), if_pos (by omega)]
          refine jc_seq ?_
          refine jc_region ?_
          refine jl_op ?_ (nb rfl)
          refine ow_build rfl rfl rfl rfl rfl ?_
          refine jl_op0 ?_
          refine ow_storeAll 0 rfl rfl rfl rfl rfl rfl ?_
          refine jl_op ?_ (nb rfl)
          refine ow_assign rfl ?_
          refine jl_nil ?_
          refine jq_then ?_
          refine jc_ret ?_
          refine jq_then_ret ?_
          exact fin0 4 e rfl rfl
        · refine jc_skip ?_
          refine jq_then ?_
          refine jc_seq ?_
          refine jc_seq ?_
          refine jc_region ?_
          refine jl_op ?_ (nb rfl)
          refine ow_move rfl ?_
          refine jl_op ?_ (nb rfl)
          refine ow_call0 rfl (hasT_c _ bigT of2_c (canon l)) ?_
          refine jl_nil ?_
          refine jq_then ?_
          refine jc_cond rfl (fun hbig => ?_) (fun hbig => ?_)
          · have e : ofF l most = (F0, 3) := by unfold ofF; rw [if_neg (by omega), hbad, hsm', if_neg (by decide), if_neg (by omega), hbig, if_pos rfl]
            refine jc_seq ?_
            refine jc_region ?_
            refine jl_op ?_ (nb rfl)
            refine ow_build rfl rfl rfl rfl rfl ?_
            refine jl_op0 ?_
            refine ow_storeAll 0 rfl rfl rfl rfl rfl rfl ?_
            refine jl_op ?_ (nb rfl)
            refine ow_assign rfl ?_
            refine jl_nil ?_
            refine jq_then ?_
            refine jc_ret ?_
            refine jq_then_ret ?_
            exact fin0 3 e rfl rfl
          · have e : ofF l most = (⟨canon l, most⟩, 0) := by unfold ofF; rw [if_neg (by omega), hbad, hsm', if_neg (by decide), if_neg (by omega), hbig, if_neg (by decide)]
            refine jc_skip ?_
            refine jq_then ?_
            refine jc_seq ?_
            refine jc_region ?_
            refine jl_op ?_ (nb rfl)
            refine ow_move rfl ?_
            refine jl_op ?_ (nb rfl)
            refine ow_move rfl ?_
            refine jl_op ?_ (nb rfl)
            refine ow_build rfl rfl rfl rfl rfl ?_
            refine jl_op0 ?_
            refine ow_storeAll 0 rfl rfl rfl rfl rfl rfl ?_
            refine jl_op ?_ (nb rfl)
            refine ow_assign rfl ?_
            refine jl_nil ?_
            refine jq_then ?_
            refine jc_ret ?_
            refine jq_retRowT (row := FR ⟨canon l, most⟩) rfl rfl rfl rfl rfl 0 rfl (fun K h => by rw [e] at h; exact h) ?_
            exact sub_end
end Go.Proofs.Ytjkkkjikhjfdnaa
