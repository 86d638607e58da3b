import Derived.Test.YtjkkkjikhjfdnaaFb7
namespace Go.Proofs.Ytjkkkjikhjfdnaa
open Go.Vc
attribute [local irreducible] JL JC JQ OpWp Con ConN
attribute [local irreducible] isSmall isBlock
set_option maxHeartbeats 4000000

theorem lin_times (φ : Int → Int) (a : Int) (l : List Tm) : lin φ (timesT a l) = a * lin φ l := by
  induction l with
  | nil => simp [timesT, lin]
  | cons t l ih =>
    simp only [timesT, lin, ih, Int.mul_add]
    congr 1
    rw [Int.mul_assoc, Int.mul_left_comm]
theorem timesT_mem {a : Int} {t : Tm} : ∀ {l : List Tm}, t ∈ timesT a l → ∃ u ∈ l, t.1 = u.1 ∧ t.2 = u.2 * a
  | [], h => by cases h
  | u :: l, h => by
    rcases List.mem_cons.1 h with rfl | h
    · exact ⟨u, by simp, rfl, rfl⟩
    · obtain ⟨v, hv, g⟩ := timesT_mem h
      exact ⟨v, by simp [hv], g⟩
theorem sumT_bd {l : List Tm} {v : List Int} {B C : Int} (hC : 0 ≤ C) (hB : 0 ≤ B) (ht : ∀ t ∈ l, -B ≤ t.2 ∧ t.2 ≤ B) (hv : ∀ x ∈ v, 0 ≤ x ∧ x ≤ C) : -(C * B * (l.length : Int)) ≤ sumT l v ∧ sumT l v ≤ C * B * (l.length : Int) := by
  induction l with
  | nil => simp [sumT]
  | cons t l ih =>
    have h1 := ih (fun u hu => ht u (by simp [hu]))
    have h2 := ht t (by simp)
    have e : C * B * ((t :: l).length : Int) = C * B * (l.length : Int) + C * B := by rw [List.length_cons, Int.natCast_succ, Int.mul_add, Int.mul_one]
    have h3 : 0 ≤ C * B := Int.mul_nonneg hC hB
    have h4 : -(C * B) ≤ tmV v t ∧ tmV v t ≤ C * B := by
      unfold tmV
      split
      · rw [List.getD_eq_getElem?_getD]
        by_cases hx : t.1.toNat < v.length
        · rw [List.getElem?_eq_getElem hx, Option.getD_some]
          exact mul_bd (hv _ (List.getElem_mem hx)) h2 hB
        · rw [List.getElem?_eq_none (by omega), Option.getD_none, Int.mul_zero]
          omega
      · omega
    rw [e]
    simp only [sumT]
    omega
theorem FactSums_c (l : List Int) (a b : Int) (hl : InR l) (ha : 0 ≤ a ∧ a ≤ 255) (hb : 0 ≤ b ∧ b ≤ 255) : Con Try.prog 5 [.cell (.list (l.map Irow)), In .u8 a, In .u8 b] [] (fun K => K (Bl true) []) := by
  refine con_intro Try.func5 rfl rfl (Nat.le_of_ble_eq_true rfl) (fun c hc => ?_)
  refine jc_seq ?_
  refine jc_region ?_
  refine jl_op ?_ (nb rfl)
  refine ow_assign rfl ?_
  refine jl_nil ?_
  refine jq_then ?_
  refine jc_seq ?_
  refine jc_seq ?_
  refine jc_region ?_
  refine jl_op ?_ (nb rfl)
  refine ow_move rfl ?_
  refine jl_op ?_ (nb rfl)
  refine ow_call0 rfl (Few_c l) ?_
  refine jl_op ?_ (nb rfl)
  refine ow_notdec rfl ?_
  refine jl_nil ?_
  refine jq_then ?_
  refine jc_cond rfl (fun hw => ?_) (fun hw => ?_)
  · refine jc_seq ?_
    refine jc_region ?_
    refine jl_op ?_ (nb rfl)
    refine ow_call0 rfl (awake_c) ?_
    refine jl_op ?_ (nb rfl)
    refine ow_assign rfl ?_
    refine jl_nil ?_
    refine jq_then ?_
    refine jc_ret ?_
    refine jq_then_ret ?_
    refine jq_ret1 rfl rfl [] rfl (fun K h => h)
  · have hLn : l.length ≤ 400 := by simpa using hw
    refine jc_skip ?_
    refine jq_then ?_
    refine jc_seq ?_
    refine jc_region ?_
    refine jl_op ?_ (nb rfl)
    refine ow_move rfl ?_
    refine jl_op (ow_call [] rfl rfl (New_c l) (fun dk => ?_)) (nb rfl)
    refine jl_op ?_ (nb rfl)
    refine ow_assign rfl ?_
    refine jl_nil ?_
    refine jq_then ?_
    refine jc_seq ?_
    refine jc_region ?_
    refine jl_op ?_ (nb rfl)
    refine ow_move rfl ?_
    refine jl_op (ow_callP [0] rfl rfl (some_c _ (by omega) hl hLn) (fun f hf => ?_)) (nb rfl)
    refine jl_op ?_ (nb rfl)
    refine ow_move rfl ?_
    refine jl_op (ow_callP [0] rfl rfl (some_c _ (by omega) hl hLn) (fun g hg => ?_)) (nb rfl)
    refine jl_op ?_ (nb rfl)
    refine ow_alloc rfl rfl (fun bl => ?_)
    refine jl_op ?_ (nb rfl)
    refine ow_alloc rfl rfl (fun bl => ?_)
    refine jl_op0 ?_
    refine ow_storeAll 1 rfl rfl rfl rfl rfl rfl ?_
    refine jl_op0 ?_
    refine ow_storeAll 1 rfl rfl rfl rfl rfl rfl ?_
    refine jl_nil ?_
    refine jq_then ?_
    refine jc_seq ?_
    refine jc_region ?_
    refine jl_op ?_ (nb rfl)
    refine ow_assign rfl ?_
    refine jl_nil ?_
    refine jq_then ?_
    refine jc_seq ?_
    refine jc_seq ?_
    refine jc_region ?_
    refine jl_op ?_ (nb rfl)
    refine ow_assign rfl ?_
    refine jl_nil ?_
    refine jq_then ?_
    refine jc_block ?_
    refine jc_ownNil 3 1 (by omega) ?_
    rename_i bF
    refine jc_loopS (ι := Nat × Value × List Int) [] (fun i => i.1 ≤ 8 ∧ i.2.2.length = i.1 ∧ i.2.1.oneCell' = true ∧ ∀ v ∈ i.2.2, 0 ≤ v ∧ v ≤ 8) (fun i => [(1, In .u8 a), (2, In .u8 b), (7, Ptr dk), (8, .cell (.val (.pointer (some ⟨bF, 0, none⟩)))), (9, .cell (.val (.pointer (some ⟨bl, 0, none⟩)))), (10, .cell (.val i.2.1)), (11, In .i64 (i.1 : Int))]) (fun i => [Ow1 i.2.1 i.2.2, .blk bl 30 (FR g), .blk bF 30 (FR f), Dk dk l]) (fun i => 8 - i.1) (0, .slice none 0 0, []) ⟨by dsimp only; omega, rfl, rfl, fun v h => by cases h⟩ ?_ ?_ ?_
    · refine sub_step 0 rfl ?_
      refine sub_step 0 rfl ?_
      refine sub_step 0 rfl ?_
      refine sub_step 0 rfl ?_
      exact sub_end
    · (repeat (first | exact True.intro | refine ⟨rfl, ?_⟩))
    · rintro ⟨k, V, s⟩ ⟨hk, hsl, hV, hs⟩
      dsimp only at hk hsl hV hs ⊢
      refine jc_reset [(1, In .u8 a), (2, In .u8 b), (7, Ptr dk), (8, .cell (.val (.pointer (some ⟨bF, 0, none⟩)))), (9, .cell (.val (.pointer (some ⟨bl, 0, none⟩)))), (10, .cell (.val V)), (11, In .i64 (k : Int))] [Ow1 V s, .blk bl 30 (FR g), .blk bF 30 (FR f), Dk dk l] ?_ ⟨[0, 0, 0, 0], [], rfl⟩ ?_
      · (repeat (first | exact True.intro | refine ⟨rfl, ?_⟩))
      refine jc_seq ?_
      refine jc_seq ?_
      refine jc_region ?_
      refine jl_op ?_ (nb rfl)
      refine ow_move rfl ?_
      refine jl_op ?_ (nb rfl)
      refine ow_lss rfl rfl ?_
      refine jl_nil ?_
      refine jq_then ?_
      refine jc_condd rfl (fun hlt => ?_) (fun hge => ?_)
      · refine jc_skip ?_
        refine jq_then ?_
        refine jc_seq ?_
        refine jc_block ?_
        refine jc_region ?_
        refine jl_op ?_ (nb rfl)
        refine ow_move rfl ?_
        refine jl_op ?_ (nb rfl)
        refine ow_move rfl ?_
        refine jl_op (ow_callP [3] rfl rfl (Nx_c _ hl hLn (by omega)) (fun y hy => ?_)) (nb rfl)
        refine jl_op ?_ (nb rfl)
        refine ow_buildSlice rfl rfl (nb rfl) rfl rfl (nb rfl) ?_
        refine jl_op (ow_append1 1 (y) rfl rfl rfl rfl rfl rfl rfl (fun _ => rfl) (by show (_ + _) * 8 ≤ _; first | omega | (simp only [List.length_append]; omega)) (by first | omega | (simp only [List.length_append]; omega)) (fun V2 hV2 => ?_)) (nb rfl)
        refine jl_op ?_ (nb rfl)
        refine ow_assign rfl ?_
        refine jl_nil ?_
        refine jq_block ?_
        refine jq_then ?_
        refine jc_region ?_
        refine jl_op ?_ (nb rfl)
        refine ow_move rfl ?_
        refine jl_op ?_ (nb rfl)
        refine ow_add64 rfl rfl (by omega) ?_
        refine jl_op ?_ (nb rfl)
        refine ow_assign rfl ?_
        refine jl_nil ?_
        refine jq_againS (i := (k, V, s)) (k + 1, V2, s ++ [y]) ⟨by dsimp only; omega, by dsimp only; rw [List.length_append, hsl]; rfl, hV2, fun v hv => ?_⟩ (by dsimp only; omega) ?_ ?_
        · rcases List.mem_append.1 hv with h | h
          · exact hs v h
          · obtain rfl := List.mem_singleton.1 h
            omega
        · dsimp only
          refine sub_step 0 rfl ?_
          refine sub_step 1 rfl ?_
          refine sub_step 1 rfl ?_
          refine sub_step 0 rfl ?_
          exact sub_end
        · (repeat (first | exact True.intro | refine ⟨rfl, ?_⟩))
      · refine jc_freeze 10 0 rfl rfl (by rw [hc]; simp [Vc.hb]) ?_
        have hf8 := hf.len
        have hg8 := hg.len
        have lF := timesT_len a f.terms
        have lG := timesT_len b g.terms
        have hmost1 := mul_bd (a := a) (m := f.most) (A := 255) (B := 24) ha (by have := hf.most; omega) (by omega)
        have hmost2 := mul_bd (a := b) (m := g.most) (A := 255) (B := 24) hb (by have := hg.most; omega) (by omega)
        rw [Int.mul_comm f.most a] at hmost1
        rw [Int.mul_comm g.most b] at hmost2
        have hlen : (timesT a f.terms ++ timesT b g.terms).length ≤ 16 := by rw [List.length_append]; omega
        have hmem : ∀ t ∈ timesT a f.terms ++ timesT b g.terms, (0 ≤ t.1 ∧ t.1 < 8) ∧ -1020 ≤ t.2 ∧ t.2 ≤ 1020 := fun t ht => by
          rcases List.mem_append.1 ht with h | h
          · obtain ⟨u, hu, e1, e2⟩ := timesT_mem h
            have h1 := hf.t u hu
            have h2 := mul_bd (A := 255) (B := 4) ha h1.2 (by omega)
            rw [e1, e2]
            omega
          · obtain ⟨u, hu, e1, e2⟩ := timesT_mem h
            have h1 := hg.t u hu
            have h2 := mul_bd (A := 255) (B := 4) hb h1.2 (by omega)
            rw [e1, e2]
            omega
        obtain ⟨eO, vO, _⟩ := of_ok (l := timesT a f.terms ++ timesT b g.terms) (most := a * f.most + b * g.most) (n := 8) (B := 1020) (by omega) (by omega) (by omega) (by omega) hmem (by omega) (by omega) (by omega)
        have eA : addF f g a b = (⟨canon (timesT a f.terms ++ timesT b g.terms), a * f.most + b * g.most⟩, 0) := by
          unfold addF
          rw [if_neg (by rw [valid_to hf.v]; decide), if_neg (by rw [valid_to hg.v]; decide), if_neg (by simp [addBad]; omega), eO]
        have hs2 : ∀ v ∈ s, 0 ≤ v ∧ v ≤ 2147483648 := fun v hv => by have := hs v hv; omega
        have eF := sum_ok hf.v (l := s) (by omega) hs2
        have eG := sum_ok hg.v (l := s) (by omega) hs2
        have eX := sum_ok vO (l := s) (by omega) hs2
        have esum : sumT (canon (timesT a f.terms ++ timesT b g.terms)) s = a * sumT f.terms s + b * sumT g.terms s := by
          rw [sumT_lin, lin_canon _ (fun t ht => by have := hmem t ht; omega), lin_append, lin_times, lin_times, ← sumT_lin, ← sumT_lin]
        dsimp only at eX
        rw [esum] at eX
        have bF1 := sumT_bd (B := 4) (C := 8) (by omega) (by omega) (fun t ht => (hf.t t ht).2) hs
        have bG1 := sumT_bd (B := 4) (C := 8) (by omega) (by omega) (fun t ht => (hg.t t ht).2) hs
        have bF2 := mul_bd (a := a) (m := sumT f.terms s) (A := 255) (B := 256) ha (by omega) (by omega)
        have bG2 := mul_bd (a := b) (m := sumT g.terms s) (A := 255) (B := 256) hb (by omega) (by omega)
        rw [Int.mul_comm _ a] at bF2
        rw [Int.mul_comm _ b] at bG2
        have hX : holdsF f s = true → holdsF g s = true → holdsF ⟨canon (timesT a f.terms ++ timesT b g.terms), a * f.most + b * g.most⟩ s = true := by
          unfold holdsF
          rw [eF, eG, eX]
          intro h1 h2
          simp only [Bool.and_eq_true, decide_eq_true_eq, true_and] at h1 h2 ⊢
          have := Int.mul_le_mul_of_nonneg_left h1 ha.1
          have := Int.mul_le_mul_of_nonneg_left h2 hb.1
          omega
        have cA := Add_c f g a b
        rw [eA] at cA
        have c1 := Sum_c f s
        rw [eF] at c1
        have c2 := Sum_c g s
        rw [eG] at c2
        have c3 := Sum_c ⟨canon (timesT a f.terms ++ timesT b g.terms), a * f.most + b * g.most⟩ s
        rw [eX] at c3
        have h1 := Holds_c f s
        have h2 := Holds_c g s
        have h3 := Holds_c ⟨canon (timesT a f.terms ++ timesT b g.terms), a * f.most + b * g.most⟩ s
        clear eX esum eA eO vO hmem hlen
        generalize holdsF ⟨canon (timesT a f.terms ++ timesT b g.terms), a * f.most + b * g.most⟩ s = bx at h3 hX
        generalize canon (timesT a f.terms ++ timesT b g.terms) = x at cA c3 h3
        generalize a * f.most + b * g.most = mo at cA c3 h3
        generalize sumT f.terms s = p at c1 c3 bF2
        generalize sumT g.terms s = q at c2 c3 bG2
        clear eF eG
        generalize holdsF f s = bf at h1 hX
        generalize holdsF g s = bg at h2 hX
        dsimp only at cA c1 c2 c3
        refine jc_exit ?_
        refine jq_then_exit ?_
        refine jq_then_exit ?_
        refine jq_block_exit ?_
        refine jq_then ?_
        refine jc_seq ?_
        refine jc_region ?_
        refine jl_op ?_ (nb rfl)
        refine ow_loadAll 1 rfl rfl rfl rfl ?_
        refine jl_op ?_ (nb rfl)
        refine ow_loadAll 0 rfl rfl rfl rfl ?_
        refine jl_op ?_ (nb rfl)
        refine ow_move rfl ?_
        refine jl_op ?_ (nb rfl)
        refine ow_convI64 rfl rfl rfl (by omega) ?_
        refine jl_op ?_ (nb rfl)
        refine ow_move rfl ?_
        refine jl_op ?_ (nb rfl)
        refine ow_convI64 rfl rfl rfl (by omega) ?_
        refine jl_op ?_ (nb rfl)
        refine ow_call0 rfl (cA) ?_
        refine jl_op ?_ (nb rfl)
        refine ow_move rfl ?_
        refine jl_op ?_ (nb rfl)
        refine ow_extract rfl rfl ?_
        refine jl_op ?_ (nb rfl)
        refine ow_extract rfl rfl ?_
        refine jl_op ?_ (nb rfl)
        refine ow_alloc rfl rfl (fun bl => ?_)
        refine jl_op0 ?_
        refine ow_storeAll 0 rfl rfl rfl rfl rfl rfl ?_
        refine jl_op ?_ (nb rfl)
        refine ow_assign rfl ?_
        refine jl_nil ?_
        refine jq_then ?_
        refine jc_seq ?_
        refine jc_region ?_
        refine jl_op ?_ (nb rfl)
        refine ow_loadAll 2 rfl rfl rfl rfl ?_
        refine jl_op ?_ (nb rfl)
        refine ow_move rfl ?_
        refine jl_op ?_ (nb rfl)
        refine ow_call0 rfl (c1) ?_
        refine jl_op ?_ (nb rfl)
        refine ow_move rfl ?_
        refine jl_op ?_ (nb rfl)
        refine ow_extract rfl rfl ?_
        refine jl_op ?_ (nb rfl)
        refine ow_extract rfl rfl ?_
        refine jl_op ?_ (nb rfl)
        refine ow_assign rfl ?_
        refine jl_op ?_ (nb rfl)
        refine ow_assign rfl ?_
        refine jl_nil ?_
        refine jq_then ?_
        refine jc_seq ?_
        refine jc_region ?_
        refine jl_op ?_ (nb rfl)
        refine ow_loadAll 1 rfl rfl rfl rfl ?_
        refine jl_op ?_ (nb rfl)
        refine ow_move rfl ?_
        refine jl_op ?_ (nb rfl)
        refine ow_call0 rfl (c2) ?_
        refine jl_op ?_ (nb rfl)
        refine ow_move rfl ?_
        refine jl_op ?_ (nb rfl)
        refine ow_extract rfl rfl ?_
        refine jl_op ?_ (nb rfl)
        refine ow_extract rfl rfl ?_
        refine jl_op ?_ (nb rfl)
        refine ow_assign rfl ?_
        refine jl_op ?_ (nb rfl)
        refine ow_assign rfl ?_
        refine jl_nil ?_
        refine jq_then ?_
        refine jc_seq ?_
        refine jc_region ?_
        refine jl_op ?_ (nb rfl)
        refine ow_loadAll 0 rfl rfl rfl rfl ?_
        refine jl_op ?_ (nb rfl)
        refine ow_move rfl ?_
        refine jl_op ?_ (nb rfl)
        refine ow_call0 rfl (c3) ?_
        refine jl_op ?_ (nb rfl)
        refine ow_move rfl ?_
        refine jl_op ?_ (nb rfl)
        refine ow_extract rfl rfl ?_
        refine jl_op ?_ (nb rfl)
        refine ow_extract rfl rfl ?_
        refine jl_op ?_ (nb rfl)
        refine ow_assign rfl ?_
        refine jl_op ?_ (nb rfl)
        refine ow_assign rfl ?_
        refine jl_nil ?_
        refine jq_then ?_
        refine jc_seq ?_
        refine jc_seq ?_
        refine jc_region ?_
        refine jl_op ?_ (nb rfl)
        refine ow_move rfl ?_
        refine jl_op ?_ (nb rfl)
        refine ow_neq rfl rfl ?_
        refine jl_op ?_ (nb rfl)
        refine ow_move rfl ?_
        refine jl_guardY rfl (by first | assumption | exact decide_eq_true rfl | exact decide_eq_true (by first | assumption | omega) | exact decide_eq_false (by first | assumption | omega) | with_reducible rfl | exact (rfl : false = !true) | exact (rfl : true = !false)) (nb rfl) ?_
        refine ow_move rfl ?_
        refine jl_guardY rfl (by first | assumption | exact decide_eq_true rfl | exact decide_eq_true (by first | assumption | omega) | exact decide_eq_false (by first | assumption | omega) | with_reducible rfl | exact (rfl : false = !true) | exact (rfl : true = !false)) (nb rfl) ?_
        refine ow_neq rfl rfl ?_
        refine jl_op ?_ (nb rfl)
        refine ow_pickF rfl (by first | assumption | exact decide_eq_true rfl | exact decide_eq_true (by first | assumption | omega) | exact decide_eq_false (by first | assumption | omega) | with_reducible rfl | exact (rfl : false = !true) | exact (rfl : true = !false)) rfl ?_
        refine jl_op ?_ (nb rfl)
        refine ow_move rfl ?_
        refine jl_guardY rfl (by first | assumption | exact decide_eq_true rfl | exact decide_eq_true (by first | assumption | omega) | exact decide_eq_false (by first | assumption | omega) | with_reducible rfl | exact (rfl : false = !true) | exact (rfl : true = !false)) (nb rfl) ?_
        refine ow_move rfl ?_
        refine jl_guardY rfl (by first | assumption | exact decide_eq_true rfl | exact decide_eq_true (by first | assumption | omega) | exact decide_eq_false (by first | assumption | omega) | with_reducible rfl | exact (rfl : false = !true) | exact (rfl : true = !false)) (nb rfl) ?_
        refine ow_neq rfl rfl ?_
        refine jl_op ?_ (nb rfl)
        refine ow_pickF rfl (by first | assumption | exact decide_eq_true rfl | exact decide_eq_true (by first | assumption | omega) | exact decide_eq_false (by first | assumption | omega) | with_reducible rfl | exact (rfl : false = !true) | exact (rfl : true = !false)) rfl ?_
        refine jl_op ?_ (nb rfl)
        refine ow_move rfl ?_
        refine jl_guardY rfl (by first | assumption | exact decide_eq_true rfl | exact decide_eq_true (by first | assumption | omega) | exact decide_eq_false (by first | assumption | omega) | with_reducible rfl | exact (rfl : false = !true) | exact (rfl : true = !false)) (nb rfl) ?_
        refine ow_move rfl ?_
        refine jl_guardY rfl (by first | assumption | exact decide_eq_true rfl | exact decide_eq_true (by first | assumption | omega) | exact decide_eq_false (by first | assumption | omega) | with_reducible rfl | exact (rfl : false = !true) | exact (rfl : true = !false)) (nb rfl) ?_
        refine ow_neq rfl rfl ?_
        refine jl_op ?_ (nb rfl)
        refine ow_pickF rfl (by first | assumption | exact decide_eq_true rfl | exact decide_eq_true (by first | assumption | omega) | exact decide_eq_false (by first | assumption | omega) | with_reducible rfl | exact (rfl : false = !true) | exact (rfl : true = !false)) rfl ?_
        refine jl_op ?_ (nb rfl)
        refine ow_move rfl ?_
        refine jl_guardY rfl (by first | assumption | exact decide_eq_true rfl | exact decide_eq_true (by first | assumption | omega) | exact decide_eq_false (by first | assumption | omega) | with_reducible rfl | exact (rfl : false = !true) | exact (rfl : true = !false)) (nb rfl) ?_
        refine ow_move rfl ?_
        refine jl_guardY rfl (by first | assumption | exact decide_eq_true rfl | exact decide_eq_true (by first | assumption | omega) | exact decide_eq_false (by first | assumption | omega) | with_reducible rfl | exact (rfl : false = !true) | exact (rfl : true = !false)) (nb rfl) ?_
        refine ow_move rfl ?_
        refine jl_guardY rfl (by first | assumption | exact decide_eq_true rfl | exact decide_eq_true (by first | assumption | omega) | exact decide_eq_false (by first | assumption | omega) | with_reducible rfl | exact (rfl : false = !true) | exact (rfl : true = !false)) (nb rfl) ?_
        refine ow_convI64 rfl rfl rfl (by omega) ?_
        refine jl_guardY rfl (by first | assumption | exact decide_eq_true rfl | exact decide_eq_true (by first | assumption | omega) | exact decide_eq_false (by first | assumption | omega) | with_reducible rfl | exact (rfl : false = !true) | exact (rfl : true = !false)) (nb rfl) ?_
        refine ow_move rfl ?_
        refine jl_guardY rfl (by first | assumption | exact decide_eq_true rfl | exact decide_eq_true (by first | assumption | omega) | exact decide_eq_false (by first | assumption | omega) | with_reducible rfl | exact (rfl : false = !true) | exact (rfl : true = !false)) (nb rfl) ?_
        refine ow_mul64 rfl rfl (by omega) ?_
        refine jl_guardY rfl (by first | assumption | exact decide_eq_true rfl | exact decide_eq_true (by first | assumption | omega) | exact decide_eq_false (by first | assumption | omega) | with_reducible rfl | exact (rfl : false = !true) | exact (rfl : true = !false)) (nb rfl) ?_
        refine ow_move rfl ?_
        refine jl_guardY rfl (by first | assumption | exact decide_eq_true rfl | exact decide_eq_true (by first | assumption | omega) | exact decide_eq_false (by first | assumption | omega) | with_reducible rfl | exact (rfl : false = !true) | exact (rfl : true = !false)) (nb rfl) ?_
        refine ow_convI64 rfl rfl rfl (by omega) ?_
        refine jl_guardY rfl (by first | assumption | exact decide_eq_true rfl | exact decide_eq_true (by first | assumption | omega) | exact decide_eq_false (by first | assumption | omega) | with_reducible rfl | exact (rfl : false = !true) | exact (rfl : true = !false)) (nb rfl) ?_
        refine ow_move rfl ?_
        refine jl_guardY rfl (by first | assumption | exact decide_eq_true rfl | exact decide_eq_true (by first | assumption | omega) | exact decide_eq_false (by first | assumption | omega) | with_reducible rfl | exact (rfl : false = !true) | exact (rfl : true = !false)) (nb rfl) ?_
        refine ow_mul64 rfl rfl (by omega) ?_
        refine jl_guardY rfl (by first | assumption | exact decide_eq_true rfl | exact decide_eq_true (by first | assumption | omega) | exact decide_eq_false (by first | assumption | omega) | with_reducible rfl | exact (rfl : false = !true) | exact (rfl : true = !false)) (nb rfl) ?_
        refine ow_add64 rfl rfl (by omega) ?_
        refine jl_guardY rfl (by first | assumption | exact decide_eq_true rfl | exact decide_eq_true (by first | assumption | omega) | exact decide_eq_false (by first | assumption | omega) | with_reducible rfl | exact (rfl : false = !true) | exact (rfl : true = !false)) (nb rfl) ?_
        refine ow_neq rfl rfl ?_
        refine jl_op ?_ (nb rfl)
        refine ow_pickF rfl (by first | assumption | exact decide_eq_true rfl | exact decide_eq_true (by first | assumption | omega) | exact decide_eq_false (by first | assumption | omega) | with_reducible rfl | exact (rfl : false = !true) | exact (rfl : true = !false)) rfl ?_
        refine jl_nil ?_
        refine jq_then ?_
        refine jc_condd rfl (fun h => absurd rfl h) (fun _ => ?_)
        cases bf with
        | false =>
          refine jc_skip ?_
          refine jq_then ?_
          refine jc_seq ?_
          refine jc_region ?_
          refine jl_op ?_ (nb rfl)
          refine ow_loadAll 2 rfl rfl rfl rfl ?_
          refine jl_op ?_ (nb rfl)
          refine ow_move rfl ?_
          refine jl_op ?_ (nb rfl)
          refine ow_call0 rfl (h1) ?_
          refine jl_op ?_ (nb rfl)
          refine ow_not rfl ?_
          refine jl_op ?_ (nb rfl)
          refine ow_move rfl ?_
          refine jl_guardN rfl (by first | assumption | exact decide_eq_true rfl | exact decide_eq_true (by first | assumption | omega) | exact decide_eq_false (by first | assumption | omega) | with_reducible rfl | exact (rfl : false = !true) | exact (rfl : true = !false)) (nb rfl) ?_
          refine jl_guardN rfl (by first | assumption | exact decide_eq_true rfl | exact decide_eq_true (by first | assumption | omega) | exact decide_eq_false (by first | assumption | omega) | with_reducible rfl | exact (rfl : false = !true) | exact (rfl : true = !false)) (nb rfl) ?_
          refine jl_guardN rfl (by first | assumption | exact decide_eq_true rfl | exact decide_eq_true (by first | assumption | omega) | exact decide_eq_false (by first | assumption | omega) | with_reducible rfl | exact (rfl : false = !true) | exact (rfl : true = !false)) (nb rfl) ?_
          refine jl_guardN rfl (by first | assumption | exact decide_eq_true rfl | exact decide_eq_true (by first | assumption | omega) | exact decide_eq_false (by first | assumption | omega) | with_reducible rfl | exact (rfl : false = !true) | exact (rfl : true = !false)) (nb rfl) ?_
          refine jl_op ?_ (nb rfl)
          refine ow_pickT rfl (by first | assumption | exact decide_eq_true rfl | exact decide_eq_true (by first | assumption | omega) | exact decide_eq_false (by first | assumption | omega) | with_reducible rfl | exact (rfl : false = !true) | exact (rfl : true = !false)) rfl ?_
          refine jl_op ?_ (nb rfl)
          refine ow_move rfl ?_
          refine jl_guardN rfl (by first | assumption | exact decide_eq_true rfl | exact decide_eq_true (by first | assumption | omega) | exact decide_eq_false (by first | assumption | omega) | with_reducible rfl | exact (rfl : false = !true) | exact (rfl : true = !false)) (nb rfl) ?_
          refine jl_guardN rfl (by first | assumption | exact decide_eq_true rfl | exact decide_eq_true (by first | assumption | omega) | exact decide_eq_false (by first | assumption | omega) | with_reducible rfl | exact (rfl : false = !true) | exact (rfl : true = !false)) (nb rfl) ?_
          refine jl_guardN rfl (by first | assumption | exact decide_eq_true rfl | exact decide_eq_true (by first | assumption | omega) | exact decide_eq_false (by first | assumption | omega) | with_reducible rfl | exact (rfl : false = !true) | exact (rfl : true = !false)) (nb rfl) ?_
          refine jl_op ?_ (nb rfl)
          refine ow_pickT rfl (by first | assumption | exact decide_eq_true rfl | exact decide_eq_true (by first | assumption | omega) | exact decide_eq_false (by first | assumption | omega) | with_reducible rfl | exact (rfl : false = !true) | exact (rfl : true = !false)) rfl ?_
          refine jl_op ?_ (nb rfl)
          refine ow_move rfl ?_
          refine jl_guardY rfl (by first | assumption | exact decide_eq_true rfl | exact decide_eq_true (by first | assumption | omega) | exact decide_eq_false (by first | assumption | omega) | with_reducible rfl | exact (rfl : false = !true) | exact (rfl : true = !false)) (nb rfl) ?_
          refine ow_call0 rfl (awake_c) ?_
          refine jl_op ?_ (nb rfl)
          refine ow_pickT rfl (by first | assumption | exact decide_eq_true rfl | exact decide_eq_true (by first | assumption | omega) | exact decide_eq_false (by first | assumption | omega) | with_reducible rfl | exact (rfl : false = !true) | exact (rfl : true = !false)) rfl ?_
          refine jl_op ?_ (nb rfl)
          refine ow_assign rfl ?_
          refine jl_nil ?_
          refine jq_then ?_
          refine jc_ret ?_
          refine jq_ret1 rfl rfl [] rfl (fun K h => h)
        | true =>
          cases bg with
          | false =>
            refine jc_skip ?_
            refine jq_then ?_
            refine jc_seq ?_
            refine jc_region ?_
            refine jl_op ?_ (nb rfl)
            refine ow_loadAll 2 rfl rfl rfl rfl ?_
            refine jl_op ?_ (nb rfl)
            refine ow_move rfl ?_
            refine jl_op ?_ (nb rfl)
            refine ow_call0 rfl (h1) ?_
            refine jl_op ?_ (nb rfl)
            refine ow_not rfl ?_
            refine jl_op ?_ (nb rfl)
            refine ow_move rfl ?_
            refine jl_guardY rfl (by first | assumption | exact decide_eq_true rfl | exact decide_eq_true (by first | assumption | omega) | exact decide_eq_false (by first | assumption | omega) | with_reducible rfl | exact (rfl : false = !true) | exact (rfl : true = !false)) (nb rfl) ?_
            refine ow_loadAll 1 rfl rfl rfl rfl ?_
            refine jl_guardY rfl (by first | assumption | exact decide_eq_true rfl | exact decide_eq_true (by first | assumption | omega) | exact decide_eq_false (by first | assumption | omega) | with_reducible rfl | exact (rfl : false = !true) | exact (rfl : true = !false)) (nb rfl) ?_
            refine ow_move rfl ?_
            refine jl_guardY rfl (by first | assumption | exact decide_eq_true rfl | exact decide_eq_true (by first | assumption | omega) | exact decide_eq_false (by first | assumption | omega) | with_reducible rfl | exact (rfl : false = !true) | exact (rfl : true = !false)) (nb rfl) ?_
            refine ow_call0 rfl (h2) ?_
            refine jl_guardY rfl (by first | assumption | exact decide_eq_true rfl | exact decide_eq_true (by first | assumption | omega) | exact decide_eq_false (by first | assumption | omega) | with_reducible rfl | exact (rfl : false = !true) | exact (rfl : true = !false)) (nb rfl) ?_
            refine ow_not rfl ?_
            refine jl_op ?_ (nb rfl)
            refine ow_pickF rfl (by first | assumption | exact decide_eq_true rfl | exact decide_eq_true (by first | assumption | omega) | exact decide_eq_false (by first | assumption | omega) | with_reducible rfl | exact (rfl : false = !true) | exact (rfl : true = !false)) rfl ?_
            refine jl_op ?_ (nb rfl)
            refine ow_move rfl ?_
            refine jl_guardN rfl (by first | assumption | exact decide_eq_true rfl | exact decide_eq_true (by first | assumption | omega) | exact decide_eq_false (by first | assumption | omega) | with_reducible rfl | exact (rfl : false = !true) | exact (rfl : true = !false)) (nb rfl) ?_
            refine jl_guardN rfl (by first | assumption | exact decide_eq_true rfl | exact decide_eq_true (by first | assumption | omega) | exact decide_eq_false (by first | assumption | omega) | with_reducible rfl | exact (rfl : false = !true) | exact (rfl : true = !false)) (nb rfl) ?_
            refine jl_guardN rfl (by first | assumption | exact decide_eq_true rfl | exact decide_eq_true (by first | assumption | omega) | exact decide_eq_false (by first | assumption | omega) | with_reducible rfl | exact (rfl : false = !true) | exact (rfl : true = !false)) (nb rfl) ?_
            refine jl_op ?_ (nb rfl)
            refine ow_pickT rfl (by first | assumption | exact decide_eq_true rfl | exact decide_eq_true (by first | assumption | omega) | exact decide_eq_false (by first | assumption | omega) | with_reducible rfl | exact (rfl : false = !true) | exact (rfl : true = !false)) rfl ?_
            refine jl_op ?_ (nb rfl)
            refine ow_move rfl ?_
            refine jl_guardY rfl (by first | assumption | exact decide_eq_true rfl | exact decide_eq_true (by first | assumption | omega) | exact decide_eq_false (by first | assumption | omega) | with_reducible rfl | exact (rfl : false = !true) | exact (rfl : true = !false)) (nb rfl) ?_
            refine ow_call0 rfl (awake_c) ?_
            refine jl_op ?_ (nb rfl)
            refine ow_pickT rfl (by first | assumption | exact decide_eq_true rfl | exact decide_eq_true (by first | assumption | omega) | exact decide_eq_false (by first | assumption | omega) | with_reducible rfl | exact (rfl : false = !true) | exact (rfl : true = !false)) rfl ?_
            refine jl_op ?_ (nb rfl)
            refine ow_assign rfl ?_
            refine jl_nil ?_
            refine jq_then ?_
            refine jc_ret ?_
            refine jq_ret1 rfl rfl [] rfl (fun K h => h)
          | true =>
            obtain rfl := hX rfl rfl
            refine jc_skip ?_
            refine jq_then ?_
            refine jc_seq ?_
            refine jc_region ?_
            refine jl_op ?_ (nb rfl)
            refine ow_loadAll 2 rfl rfl rfl rfl ?_
            refine jl_op ?_ (nb rfl)
            refine ow_move rfl ?_
            refine jl_op ?_ (nb rfl)
            refine ow_call0 rfl (h1) ?_
            refine jl_op ?_ (nb rfl)
            refine ow_not rfl ?_
            refine jl_op ?_ (nb rfl)
            refine ow_move rfl ?_
            refine jl_guardY rfl (by first | assumption | exact decide_eq_true rfl | exact decide_eq_true (by first | assumption | omega) | exact decide_eq_false (by first | assumption | omega) | with_reducible rfl | exact (rfl : false = !true) | exact (rfl : true = !false)) (nb rfl) ?_
            refine ow_loadAll 1 rfl rfl rfl rfl ?_
            refine jl_guardY rfl (by first | assumption | exact decide_eq_true rfl | exact decide_eq_true (by first | assumption | omega) | exact decide_eq_false (by first | assumption | omega) | with_reducible rfl | exact (rfl : false = !true) | exact (rfl : true = !false)) (nb rfl) ?_
            refine ow_move rfl ?_
            refine jl_guardY rfl (by first | assumption | exact decide_eq_true rfl | exact decide_eq_true (by first | assumption | omega) | exact decide_eq_false (by first | assumption | omega) | with_reducible rfl | exact (rfl : false = !true) | exact (rfl : true = !false)) (nb rfl) ?_
            refine ow_call0 rfl (h2) ?_
            refine jl_guardY rfl (by first | assumption | exact decide_eq_true rfl | exact decide_eq_true (by first | assumption | omega) | exact decide_eq_false (by first | assumption | omega) | with_reducible rfl | exact (rfl : false = !true) | exact (rfl : true = !false)) (nb rfl) ?_
            refine ow_not rfl ?_
            refine jl_op ?_ (nb rfl)
            refine ow_pickF rfl (by first | assumption | exact decide_eq_true rfl | exact decide_eq_true (by first | assumption | omega) | exact decide_eq_false (by first | assumption | omega) | with_reducible rfl | exact (rfl : false = !true) | exact (rfl : true = !false)) rfl ?_
            refine jl_op ?_ (nb rfl)
            refine ow_move rfl ?_
            refine jl_guardY rfl (by first | assumption | exact decide_eq_true rfl | exact decide_eq_true (by first | assumption | omega) | exact decide_eq_false (by first | assumption | omega) | with_reducible rfl | exact (rfl : false = !true) | exact (rfl : true = !false)) (nb rfl) ?_
            refine ow_loadAll 0 rfl rfl rfl rfl ?_
            refine jl_guardY rfl (by first | assumption | exact decide_eq_true rfl | exact decide_eq_true (by first | assumption | omega) | exact decide_eq_false (by first | assumption | omega) | with_reducible rfl | exact (rfl : false = !true) | exact (rfl : true = !false)) (nb rfl) ?_
            refine ow_move rfl ?_
            refine jl_guardY rfl (by first | assumption | exact decide_eq_true rfl | exact decide_eq_true (by first | assumption | omega) | exact decide_eq_false (by first | assumption | omega) | with_reducible rfl | exact (rfl : false = !true) | exact (rfl : true = !false)) (nb rfl) ?_
            refine ow_call0 rfl (h3) ?_
            refine jl_op ?_ (nb rfl)
            refine ow_pickF rfl (by first | assumption | exact decide_eq_true rfl | exact decide_eq_true (by first | assumption | omega) | exact decide_eq_false (by first | assumption | omega) | with_reducible rfl | exact (rfl : false = !true) | exact (rfl : true = !false)) rfl ?_
            refine jl_op ?_ (nb rfl)
            refine ow_move rfl ?_
            refine jl_guardY rfl (by first | assumption | exact decide_eq_true rfl | exact decide_eq_true (by first | assumption | omega) | exact decide_eq_false (by first | assumption | omega) | with_reducible rfl | exact (rfl : false = !true) | exact (rfl : true = !false)) (nb rfl) ?_
            refine ow_call0 rfl (awake_c) ?_
            refine jl_op ?_ (nb rfl)
            refine ow_pickT rfl (by first | assumption | exact decide_eq_true rfl | exact decide_eq_true (by first | assumption | omega) | exact decide_eq_false (by first | assumption | omega) | with_reducible rfl | exact (rfl : false = !true) | exact (rfl : true = !false)) rfl ?_
            refine jl_op ?_ (nb rfl)
            refine ow_assign rfl ?_
            refine jl_nil ?_
            refine jq_then ?_
            refine jc_ret ?_
            refine jq_ret1 rfl rfl [] rfl (fun K h => h)
end Go.Proofs.Ytjkkkjikhjfdnaa
