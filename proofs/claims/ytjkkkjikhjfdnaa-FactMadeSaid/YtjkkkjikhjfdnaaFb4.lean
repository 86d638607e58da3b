import Derived.Test.YtjkkkjikhjfdnaaFb3
namespace Go.Proofs.Ytjkkkjikhjfdnaa
open Go.Vc
attribute [local irreducible] JL JC JQ OpWp Con ConN
attribute [local irreducible] isSmall isBlock
set_option maxHeartbeats 4000000

theorem mapsI_c {L : List Int} {b : Nat} (N : Int) (n : Nat) (e : N = (n : Int)) (hn : n ≤ 30) (hL : InR L) (hLn : L.length ≤ 400) :
    Con Try.prog 13 [Ptr b, In .i64 N] [Dk b L] (fun K => ∀ to, MapsOk n to → K (.cell (.list (to.map Lrow))) [Dk b L]) := by
  subst e
  exact maps_c n hn hL hLn
theorem toAt_mem {to : List (List Int)} {t : Tm} {x : Int} (h : x ∈ toAt to t) : ∃ l ∈ to, x ∈ l := by
  unfold toAt at h
  rw [List.getD_eq_getElem?_getD] at h
  by_cases hx : t.1.toNat < to.length
  · rw [List.getElem?_eq_getElem hx, Option.getD_some] at h
    exact ⟨_, List.getElem_mem hx, h⟩
  · rw [List.getElem?_eq_none (by omega), Option.getD_none] at h
    cases h
theorem mapT_mem {to : List (List Int)} {t : Tm} : ∀ {l : List Tm}, t ∈ mapT to l → ∃ u ∈ l, t.2 = u.2 ∧ ∃ x ∈ to, t.1 ∈ x
  | [], h => by cases h
  | a :: l, h => by
    rcases List.mem_append.1 h with h | h
    · obtain ⟨x, hx, rfl⟩ := List.mem_map.1 h
      obtain ⟨y, hy, hxy⟩ := toAt_mem hx
      exact ⟨a, by simp, rfl, y, hy, hxy⟩
    · obtain ⟨u, hu, g⟩ := mapT_mem h
      exact ⟨u, by simp [hu], g⟩
theorem toAt_le {to : List (List Int)} {c : Nat} (hl : ∀ l ∈ to, l.length ≤ c) (t : Tm) : (toAt to t).length ≤ c := by
  unfold toAt
  rw [List.getD_eq_getElem?_getD]
  by_cases hx : t.1.toNat < to.length
  · rw [List.getElem?_eq_getElem hx, Option.getD_some]
    exact hl _ (List.getElem_mem hx)
  · rw [List.getElem?_eq_none (by omega), Option.getD_none]
    exact Nat.zero_le _
theorem mapT_le {to : List (List Int)} {c : Nat} (hl : ∀ l ∈ to, l.length ≤ c) : ∀ l : List Tm, (mapT to l).length ≤ c * l.length
  | [] => by simp [mapT]
  | t :: l => by
    have h1 := mapT_le hl l
    have h2 := toAt_le hl t
    simp only [mapT, List.length_append, List.length_map, List.length_cons, Nat.mul_add, Nat.mul_one]
    omega
theorem mapped_ok {to : List (List Int)} (hto : to.length ≤ 256) (hl : ∀ l ∈ to, l.length ≤ 256 ∧ ∀ x ∈ l, 0 ≤ x ∧ x < 256) : mappedF to = true := by
  have h2 : to.any badList = false := List.any_eq_false.2 (fun l hm => by
    have h := hl l hm
    unfold badList
    rw [decide_eq_false (by omega), Bool.false_or, Bool.not_eq_true, List.any_eq_false]
    intro x hx
    rw [isBlock_iff.2 (h.2 x hx)]
    decide)
  unfold mappedF
  rw [decide_eq_true hto, h2]
  rfl
/-- A valid fact about few blocks, mapped. -/
theorem map_ok {to : List (List Int)} {f : Fct} {c T : Nat} {M B : Int} (hv : Valid f) (ht : ∀ t ∈ f.terms, (0 ≤ t.1 ∧ t.1 < (to.length : Int)) ∧ -B ≤ t.2 ∧ t.2 ≤ B) (hT : f.terms.length ≤ T) (hto : to.length ≤ 256) (hl : ∀ l ∈ to, l.length ≤ c ∧ ∀ x ∈ l, 0 ≤ x ∧ x < M)
    (hM : 0 ≤ M ∧ M ≤ 64) (hc : c ≤ 256) (hB : 0 ≤ B ∧ B ≤ 1048576) (hcT : c * T ≤ 1024) (hBc : B * ((c * T : Nat) : Int) ≤ 1048576) :
    mapF f to = (⟨canon (mapT to f.terms), f.most⟩, 0) ∧ Valid ⟨canon (mapT to f.terms), f.most⟩ ∧ (∀ t ∈ mapT to f.terms, 0 ≤ t.1 ∧ t.1 < M) ∧ ∀ t ∈ canon (mapT to f.terms), (0 ≤ t.1 ∧ t.1 < M) ∧ -(B * ((c * T : Nat) : Int)) ≤ t.2 ∧ t.2 ≤ B * ((c * T : Nat) : Int) := by
  have hmm : ∀ t ∈ mapT to f.terms, (0 ≤ t.1 ∧ t.1 < M) ∧ -B ≤ t.2 ∧ t.2 ≤ B := fun t h => by
    obtain ⟨u, hu, e, x, hx, hxt⟩ := mapT_mem h
    exact ⟨(hl x hx).2 _ hxt, by rw [e]; exact (ht u hu).2⟩
  have hlen := mapT_le (fun l h => (hl l h).1) f.terms
  have hlen2 : c * f.terms.length ≤ c * T := Nat.mul_le_mul_left c hT
  have hBl : B * ((mapT to f.terms).length : Int) ≤ B * ((c * T : Nat) : Int) := Int.mul_le_mul_of_nonneg_left (by omega) hB.1
  obtain ⟨e1, e2, e3⟩ := of_ok (l := mapT to f.terms) (most := f.most) (n := M) (B := B) (by omega) (isSmall_iff.1 hv.most) hM.2 hM.1 hmm hB.1 (by omega) hB.2
  have hout : f.terms.any (outT to) = false := List.any_eq_false.2 (fun t h => by
    have := ht t h
    unfold outT
    rw [decide_eq_false (by omega)]
    decide)
  refine ⟨?_, e2, fun t h => (hmm t h).1, fun t h => ?_⟩
  · unfold mapF
    rw [if_neg (by rw [valid_to hv]; decide), mapped_ok hto (fun l h => ⟨by have := (hl l h).1; omega, fun x hx => by have := (hl l h).2 x hx; omega⟩), if_neg (by decide), hout, if_neg (by decide), e1]
  · obtain ⟨h1, h2, h3, h4⟩ := (canon_mem _ t).1 h
    have hb := cof_bd (l := mapT to f.terms) hB.1 (fun u hu => (hmm u hu).2) t.1
    rw [← h3] at hb
    exact ⟨⟨h1, e3 t h⟩, by omega⟩
theorem sum_ok {f : Fct} {l : List Int} (hv : Valid f) (hl : l.length ≤ 256) (hn : ∀ v ∈ l, 0 ≤ v ∧ v ≤ 2147483648) : sumF f l = (sumT f.terms l, 0) := by
  have h : l.any sumBad = false := List.any_eq_false.2 (fun v hv => by
    have := hn v hv
    unfold sumBad
    rw [decide_eq_false (by omega), decide_eq_false (by omega)]
    decide)
  unfold sumF
  rw [if_neg (by rw [valid_to hv]; decide), h, decide_eq_false (by omega), if_neg (by decide)]

theorem FactGoesAlong_c (l : List Int) (hl : InR l) : Con Try.prog 3 [.cell (.list (l.map Irow))] [] (fun K => K (Bl true) []) := by
  refine con_intro Try.func3 rfl rfl (Nat.le_of_ble_eq_true rfl) (fun c hc => ?_)
  refine jc_seq ?_
  refine jc_region ?_
  refine jl_op ?_ (nb rfl)
  refine ow_assign rfl ?_
  refine jl_nil ?_
  refine jq_then ?_
  refine jc_seq ?_
  refine jc_seq ?_
  refine jc_region ?_
  refine jl_op ?_ (nb rfl)
  refine ow_move rfl ?_
  refine jl_op ?_ (nb rfl)
  refine ow_call0 rfl (Few_c l) ?_
  refine jl_op ?_ (nb rfl)
  refine ow_notdec rfl ?_
  refine jl_nil ?_
  refine jq_then ?_
  refine jc_cond rfl (fun hb => ?_) (fun hb => ?_)
  · refine jc_seq ?_
    refine jc_region ?_
    refine jl_op ?_ (nb rfl)
    refine ow_call0 rfl (awake_c) ?_
    refine jl_op ?_ (nb rfl)
    refine ow_assign rfl ?_
    refine jl_nil ?_
    refine jq_then ?_
    refine jc_ret ?_
    refine jq_then_ret ?_
    refine jq_ret1 rfl rfl [] rfl (fun K h => h)
  · have hLn : l.length ≤ 400 := by simpa using hb
    refine jc_skip ?_
    refine jq_then ?_
    refine jc_seq ?_
    refine jc_region ?_
    refine jl_op ?_ (nb rfl)
    refine ow_move rfl ?_
    refine jl_op (ow_call [] rfl rfl (New_c l) (fun b => ?_)) (nb rfl)
    refine jl_op ?_ (nb rfl)
    refine ow_assign rfl ?_
    refine jl_nil ?_
    refine jq_then ?_
    refine jc_seq ?_
    refine jc_region ?_
    refine jl_op ?_ (nb rfl)
    refine ow_move rfl ?_
    refine jl_op (ow_callP [0] rfl rfl (Nx_c _ hl hLn (by omega)) (fun x hx => ?_)) (nb rfl)
    refine jl_op ?_ (nb rfl)
    refine ow_add64 rfl rfl (by omega) ?_
    refine jl_op ?_ (nb rfl)
    refine ow_assign rfl ?_
    refine jl_nil ?_
    refine jq_then ?_
    refine jc_seq ?_
    refine jc_region ?_
    refine jl_op ?_ (nb rfl)
    refine ow_move rfl ?_
    refine jl_op ?_ (nb rfl)
    refine ow_move rfl ?_
    refine jl_op (ow_callP [0] rfl rfl (some_c _ (by omega) hl hLn) (fun f hf => ?_)) (nb rfl)
    refine jl_op ?_ (nb rfl)
    refine ow_move rfl ?_
    refine jl_op ?_ (nb rfl)
    refine ow_move rfl ?_
    have eN : 1 + x = ((1 + x).toNat : Int) := by omega
    refine jl_op (ow_callP [0] rfl rfl (mapsI_c _ (1 + x).toNat eN (by omega) hl hLn) (fun to hto => ?_)) (nb rfl)
    refine jl_op ?_ (nb rfl)
    refine ow_alloc rfl rfl (fun bl => ?_)
    refine jl_op0 ?_
    refine ow_storeAll 0 rfl rfl rfl rfl rfl rfl ?_
    refine jl_op ?_ (nb rfl)
    refine ow_assign rfl ?_
    refine jl_nil ?_
    refine jq_then ?_
    refine jc_seq ?_
    refine jc_region ?_
    refine jl_op (ow_makeSliceOwn 30 rfl rfl rfl (by decide) rfl rfl (by decide) (by decide) (by decide) (fun V hV _ => ?_)) (nb rfl)
    refine jl_op ?_ (nb rfl)
    refine ow_assign rfl ?_
    refine jl_nil ?_
    refine jq_then ?_
    refine jc_seq ?_
    refine jc_seq ?_
    refine jc_region ?_
    refine jl_op ?_ (nb rfl)
    refine ow_assign rfl ?_
    refine jl_nil ?_
    refine jq_then ?_
    refine jc_block ?_
    have hN : to.length = (1 + x).toNat := hto.len
    refine jc_loopS (ι := Nat × List Int) [] (fun i => i.1 ≤ 30 ∧ i.2.length = 30 ∧ ∀ v ∈ i.2, 0 ≤ v ∧ v ≤ 14) (fun i => [(3, Ptr b), (5, .cell (.val (.pointer (some ⟨bl, 0, none⟩)))), (6, .cell (.list (to.map Lrow))), (7, .cell (.val V)), (8, In .i64 (i.1 : Int))]) (fun i => [Ow1 V i.2, .blk bl 30 (FR f), Dk b l]) (fun i => 30 - i.1) (0, List.replicate 30 0) ⟨by dsimp only; omega, List.length_replicate, fun v h => by rw [List.eq_of_mem_replicate h]; omega⟩ ?_ ?_ ?_
    · show Vc.Sub _ (.own V _ _ ((List.replicate 30 0).map Irow) :: _)
      rw [List.map_replicate]
      refine sub_step 0 rfl ?_
      refine sub_step 0 rfl ?_
      refine sub_step 0 rfl ?_
      exact sub_end
    · (repeat (first | exact True.intro | refine ⟨rfl, ?_⟩))
    · rintro ⟨k, s⟩ ⟨hk, hsl, hs⟩
      dsimp only at hk hsl hs ⊢
      refine jc_reset [(3, Ptr b), (5, .cell (.val (.pointer (some ⟨bl, 0, none⟩)))), (6, .cell (.list (to.map Lrow))), (7, .cell (.val V)), (8, In .i64 (k : Int))] [Ow1 V s, .blk bl 30 (FR f), Dk b l] ?_ ⟨[0, 0, 0], [], rfl⟩ ?_
      · (repeat (first | exact True.intro | refine ⟨rfl, ?_⟩))
      have eS : (s.map Irow).length = s.length := List.length_map _
      refine jc_seq ?_
      refine jc_seq ?_
      refine jc_region ?_
      refine jl_op ?_ (nb rfl)
      refine ow_move rfl ?_
      refine jl_op ?_ (nb rfl)
      refine ow_move rfl ?_
      refine jl_op ?_ (nb rfl)
      refine ow_lenown 0 rfl rfl (fun hlen => ?_)
      refine jl_op ?_ (nb rfl)
      refine ow_lss rfl rfl ?_
      refine jl_nil ?_
      refine jq_then ?_
      refine jc_condd rfl (fun hlt => ?_) (fun hge => ?_)
      · have hk2 : k < s.length := by omega
        refine jc_skip ?_
        refine jq_then ?_
        refine jc_seq ?_
        refine jc_block ?_
        refine jc_region ?_
        refine jl_op ?_ (nb rfl)
        refine ow_move rfl ?_
        refine jl_op ?_ (nb rfl)
        refine ow_move rfl ?_
        refine jl_op ?_ (nb rfl)
        refine ow_move rfl ?_
        refine jl_op (ow_callP [2] rfl rfl (Nx_c _ hl hLn (by omega)) (fun y hy => ?_)) (nb rfl)
        refine jl_op ?_ (nb rfl)
        refine ow_indexOwn 1 rfl rfl rfl (by omega) (by omega) rfl ?_
        refine jl_op0 (ow_storeInnAll 1 k rfl rfl rfl rfl (by omega) (by rw [List.getElem?_map, List.getElem?_eq_getElem hk2]; rfl) rfl rfl rfl ?_)
        refine jl_nil ?_
        refine jq_block ?_
        refine jq_then ?_
        refine jc_region ?_
        refine jl_op ?_ (nb rfl)
        refine ow_move rfl ?_
        refine jl_op ?_ (nb rfl)
        refine ow_add64 rfl rfl (by omega) ?_
        refine jl_op ?_ (nb rfl)
        refine ow_assign rfl ?_
        refine jl_nil ?_
        refine jq_againS (i := (k, s)) (k + 1, s.set k y) ⟨by dsimp only; omega, by dsimp only; rw [List.length_set, hsl], fun v hv => ?_⟩ (by dsimp only; omega) ?_ ?_
        · rcases List.mem_or_eq_of_mem_set hv with h | h
          · exact hs v h
          · subst h
            omega
        · dsimp only
          rw [show Ow1 V (s.set k y) = .own V 3 1 ((s.map Irow).set k (Irow y)) by rw [← List.map_set]]
          refine sub_step 0 rfl ?_
          refine sub_step 1 rfl ?_
          refine sub_step 0 rfl ?_
          exact sub_end
        · (repeat (first | exact True.intro | refine ⟨rfl, ?_⟩))
      · refine jc_freezeF 7 0 rfl rfl (by assumption) ?_
        have hfT := hf.len
        obtain ⟨eM, vM, hmm, hcb⟩ := map_ok (f := f) (to := to) (c := 3) (T := 9) (M := 18) (B := 4) hf.v (fun t ht => by have := hf.t t ht; omega) (by omega) (by omega) (fun y hy => ⟨(hto.ok y hy).1, fun z hz => by have := (hto.ok y hy).2 z hz; omega⟩) (by omega) (by omega) (by omega) (by omega) (by omega)
        have hto2 : ∀ y ∈ to, ∀ z ∈ y, 0 ≤ z ∧ z < (s.length : Int) := fun y hy z hz => by have := (hto.ok y hy).2 z hz; omega
        have esum : sumT (canon (mapT to f.terms)) s = sumT f.terms (to.map (sumAt s)) := by
          rw [sumT_lin, lin_canon _ (fun t ht => by have := hmm t ht; omega), ← sumT_lin]
          exact sum_map hto2 (by omega) (fun t ht => by have := (hf.t t ht).1; omega)
        have hold : ∀ v ∈ to.map (sumAt s), 0 ≤ v ∧ v ≤ 2147483648 := fun v hv => by
          obtain ⟨y, hy, rfl⟩ := List.mem_map.1 hv
          have := sumAt_bd (B := 14) (by omega) hs y
          have := (hto.ok y hy).1
          omega
        have eS1 : sumF f (to.map (sumAt s)) = (sumT f.terms (to.map (sumAt s)), 0) := sum_ok hf.v (by rw [List.length_map]; omega) hold
        have eS2 : sumF ⟨canon (mapT to f.terms), f.most⟩ s = (sumT f.terms (to.map (sumAt s)), 0) := by
          rw [sum_ok vM (by omega) (fun v hv => by have := hs v hv; omega), ← esum]
        have eH : holdsF ⟨canon (mapT to f.terms), f.most⟩ s = holdsF f (to.map (sumAt s)) := by
          unfold holdsF
          rw [eS1, eS2]
        have cSu := SumsM_c to s (by omega) (fun y hy => ⟨by have := (hto.ok y hy).1; omega, hto2 y hy⟩) (fun v hv => by have := hs v hv; omega)
        have cM := Map_c f to
        rw [eM] at cM
        have c1 := Sum_c f (to.map (sumAt s))
        rw [eS1] at c1
        have c2 := Sum_c ⟨canon (mapT to f.terms), f.most⟩ s
        rw [eS2] at c2
        have h1 := Holds_c f (to.map (sumAt s))
        have h2 := Holds_c ⟨canon (mapT to f.terms), f.most⟩ s
        rw [eH] at h2
        have cK := Check_c ⟨canon (mapT to f.terms), f.most⟩
        rw [valid_to vM] at cK
        generalize holdsF f (to.map (sumAt s)) = hh at h1 h2
        generalize canon (mapT to f.terms) = g at cM c2 h2 cK
        generalize sumT f.terms (to.map (sumAt s)) = ss at c1 c2
        generalize to.map (sumAt s) = old at c1 h1 cSu
        refine jc_exit ?_
        refine jq_then_exit ?_
        refine jq_then_exit ?_
        refine jq_block_exit ?_
        refine jq_then ?_
        refine jc_seq ?_
        refine jc_region ?_
        refine jl_op ?_ (nb rfl)
        refine ow_move rfl ?_
        refine jl_op ?_ (nb rfl)
        refine ow_move rfl ?_
        refine jl_op ?_ (nb rfl)
        refine ow_call0 rfl (cSu) ?_
        refine jl_op ?_ (nb rfl)
        refine ow_assign rfl ?_
        refine jl_nil ?_
        refine jq_then ?_
        refine jc_seq ?_
        refine jc_region ?_
        refine jl_op ?_ (nb rfl)
        refine ow_loadAll 0 rfl rfl rfl rfl ?_
        refine jl_op ?_ (nb rfl)
        refine ow_move rfl ?_
        refine jl_op ?_ (nb rfl)
        refine ow_call0 rfl (cM) ?_
        refine jl_op ?_ (nb rfl)
        refine ow_move rfl ?_
        refine jl_op ?_ (nb rfl)
        refine ow_extract rfl rfl ?_
        refine jl_op ?_ (nb rfl)
        refine ow_extract rfl rfl ?_
        refine jl_op ?_ (nb rfl)
        refine ow_alloc rfl rfl (fun bl => ?_)
        refine jl_op0 ?_
        refine ow_storeAll 0 rfl rfl rfl rfl rfl rfl ?_
        refine jl_op ?_ (nb rfl)
        refine ow_assign rfl ?_
        refine jl_nil ?_
        refine jq_then ?_
        refine jc_seq ?_
        refine jc_region ?_
        refine jl_op ?_ (nb rfl)
        refine ow_loadAll 1 rfl rfl rfl rfl ?_
        refine jl_op ?_ (nb rfl)
        refine ow_move rfl ?_
        refine jl_op ?_ (nb rfl)
        refine ow_call0 rfl (c1) ?_
        refine jl_op ?_ (nb rfl)
        refine ow_move rfl ?_
        refine jl_op ?_ (nb rfl)
        refine ow_extract rfl rfl ?_
        refine jl_op ?_ (nb rfl)
        refine ow_extract rfl rfl ?_
        refine jl_op ?_ (nb rfl)
        refine ow_assign rfl ?_
        refine jl_op ?_ (nb rfl)
        refine ow_assign rfl ?_
        refine jl_nil ?_
        refine jq_then ?_
        refine jc_seq ?_
        refine jc_region ?_
        refine jl_op ?_ (nb rfl)
        refine ow_loadAll 0 rfl rfl rfl rfl ?_
        refine jl_op ?_ (nb rfl)
        refine ow_move rfl ?_
        refine jl_op ?_ (nb rfl)
        refine ow_call0 rfl (c2) ?_
        refine jl_op ?_ (nb rfl)
        refine ow_move rfl ?_
        refine jl_op ?_ (nb rfl)
        refine ow_extract rfl rfl ?_
        refine jl_op ?_ (nb rfl)
        refine ow_extract rfl rfl ?_
        refine jl_op ?_ (nb rfl)
        refine ow_assign rfl ?_
        refine jl_op ?_ (nb rfl)
        refine ow_assign rfl ?_
        refine jl_nil ?_
        refine jq_then ?_
        refine jc_seq ?_
        refine jc_any rfl rfl (by kernel_rfl) (by kernel_rfl) ?_
        refine any_op (fun c => ow_move rfl ⟨rfl, List.Perm.refl _⟩) ?_
        refine any_op (fun c => ow_eql rfl rfl ⟨rfl, List.Perm.refl _⟩) ?_
        refine any_op (fun c => ow_move rfl ⟨rfl, List.Perm.refl _⟩) ?_
        refine any_guardY rfl (by first | assumption | exact decide_eq_true rfl | exact decide_eq_true (by first | assumption | omega) | exact decide_eq_false (by first | assumption | omega) | with_reducible rfl | exact (rfl : false = !true) | exact (rfl : true = !false)) (fun c => ow_move rfl ⟨rfl, List.Perm.refl _⟩) ?_
        refine any_guardY rfl (by first | assumption | exact decide_eq_true rfl | exact decide_eq_true (by first | assumption | omega) | exact decide_eq_false (by first | assumption | omega) | with_reducible rfl | exact (rfl : false = !true) | exact (rfl : true = !false)) (fun c => ow_eql rfl rfl ⟨rfl, List.Perm.refl _⟩) ?_
        refine any_op (fun c => ow_pickT rfl (by first | assumption | exact decide_eq_true rfl | exact decide_eq_true (by first | assumption | omega) | exact decide_eq_false (by first | assumption | omega) | with_reducible rfl | exact (rfl : false = !true) | exact (rfl : true = !false)) rfl ⟨rfl, List.Perm.refl _⟩) ?_
        refine any_op (fun c => ow_move rfl ⟨rfl, List.Perm.refl _⟩) ?_
        refine any_guardY rfl (by first | assumption | exact decide_eq_true rfl | exact decide_eq_true (by first | assumption | omega) | exact decide_eq_false (by first | assumption | omega) | with_reducible rfl | exact (rfl : false = !true) | exact (rfl : true = !false)) (fun c => ow_move rfl ⟨rfl, List.Perm.refl _⟩) ?_
        refine any_guardY rfl (by first | assumption | exact decide_eq_true rfl | exact decide_eq_true (by first | assumption | omega) | exact decide_eq_false (by first | assumption | omega) | with_reducible rfl | exact (rfl : false = !true) | exact (rfl : true = !false)) (fun c => ow_eql rfl rfl ⟨rfl, List.Perm.refl _⟩) ?_
        refine any_op (fun c => ow_pickT rfl (by first | assumption | exact decide_eq_true rfl | exact decide_eq_true (by first | assumption | omega) | exact decide_eq_false (by first | assumption | omega) | with_reducible rfl | exact (rfl : false = !true) | exact (rfl : true = !false)) rfl ⟨rfl, List.Perm.refl _⟩) ?_
        refine any_op (fun c => ow_move rfl ⟨rfl, List.Perm.refl _⟩) ?_
        refine any_guardY rfl (by first | assumption | exact decide_eq_true rfl | exact decide_eq_true (by first | assumption | omega) | exact decide_eq_false (by first | assumption | omega) | with_reducible rfl | exact (rfl : false = !true) | exact (rfl : true = !false)) (fun c => ow_move rfl ⟨rfl, List.Perm.refl _⟩) ?_
        refine any_guardY rfl (by first | assumption | exact decide_eq_true rfl | exact decide_eq_true (by first | assumption | omega) | exact decide_eq_false (by first | assumption | omega) | with_reducible rfl | exact (rfl : false = !true) | exact (rfl : true = !false)) (fun c => ow_move rfl ⟨rfl, List.Perm.refl _⟩) ?_
        refine any_guardY rfl (by first | assumption | exact decide_eq_true rfl | exact decide_eq_true (by first | assumption | omega) | exact decide_eq_false (by first | assumption | omega) | with_reducible rfl | exact (rfl : false = !true) | exact (rfl : true = !false)) (fun c => ow_eql rfl rfl ⟨rfl, List.Perm.refl _⟩) ?_
        refine any_op (fun c => ow_pickT rfl (by first | assumption | exact decide_eq_true rfl | exact decide_eq_true (by first | assumption | omega) | exact decide_eq_false (by first | assumption | omega) | with_reducible rfl | exact (rfl : false = !true) | exact (rfl : true = !false)) rfl ⟨rfl, List.Perm.refl _⟩) ?_
        refine any_op (fun c => ow_move rfl ⟨rfl, List.Perm.refl _⟩) ?_
        refine any_guardY rfl (by first | assumption | exact decide_eq_true rfl | exact decide_eq_true (by first | assumption | omega) | exact decide_eq_false (by first | assumption | omega) | with_reducible rfl | exact (rfl : false = !true) | exact (rfl : true = !false)) (fun c => ow_fieldAddr rfl rfl rfl (nb rfl) ⟨rfl, List.Perm.refl _⟩) ?_
        refine any_guardY rfl (by first | assumption | exact decide_eq_true rfl | exact decide_eq_true (by first | assumption | omega) | exact decide_eq_false (by first | assumption | omega) | with_reducible rfl | exact (rfl : false = !true) | exact (rfl : true = !false)) (fun c => ow_load 0 rfl rfl rfl rfl ⟨rfl, List.Perm.refl _⟩) ?_
        refine any_guardY rfl (by first | assumption | exact decide_eq_true rfl | exact decide_eq_true (by first | assumption | omega) | exact decide_eq_false (by first | assumption | omega) | with_reducible rfl | exact (rfl : false = !true) | exact (rfl : true = !false)) (fun c => ow_fieldAddr rfl rfl rfl (nb rfl) ⟨rfl, List.Perm.refl _⟩) ?_
        refine any_guardY rfl (by first | assumption | exact decide_eq_true rfl | exact decide_eq_true (by first | assumption | omega) | exact decide_eq_false (by first | assumption | omega) | with_reducible rfl | exact (rfl : false = !true) | exact (rfl : true = !false)) (fun c => ow_load 1 rfl rfl rfl rfl ⟨rfl, List.Perm.refl _⟩) ?_
        refine any_guardY rfl (by first | assumption | exact decide_eq_true rfl | exact decide_eq_true (by first | assumption | omega) | exact decide_eq_false (by first | assumption | omega) | with_reducible rfl | exact (rfl : false = !true) | exact (rfl : true = !false)) (fun c => ow_eql rfl rfl ⟨rfl, List.Perm.refl _⟩) ?_
        refine any_op (fun c => ow_pickT rfl (by first | assumption | exact decide_eq_true rfl | exact decide_eq_true (by first | assumption | omega) | exact decide_eq_false (by first | assumption | omega) | with_reducible rfl | exact (rfl : false = !true) | exact (rfl : true = !false)) rfl ⟨rfl, List.Perm.refl _⟩) ?_
        refine any_op (fun c => ow_move rfl ⟨rfl, List.Perm.refl _⟩) ?_
        refine any_guardY rfl (by first | assumption | exact decide_eq_true rfl | exact decide_eq_true (by first | assumption | omega) | exact decide_eq_false (by first | assumption | omega) | with_reducible rfl | exact (rfl : false = !true) | exact (rfl : true = !false)) (fun c => ow_loadAll 1 rfl rfl rfl rfl ⟨rfl, List.Perm.refl _⟩) ?_
        refine any_guardY rfl (by first | assumption | exact decide_eq_true rfl | exact decide_eq_true (by first | assumption | omega) | exact decide_eq_false (by first | assumption | omega) | with_reducible rfl | exact (rfl : false = !true) | exact (rfl : true = !false)) (fun c => ow_move rfl ⟨rfl, List.Perm.refl _⟩) ?_
        refine any_guardY rfl (by first | assumption | exact decide_eq_true rfl | exact decide_eq_true (by first | assumption | omega) | exact decide_eq_false (by first | assumption | omega) | with_reducible rfl | exact (rfl : false = !true) | exact (rfl : true = !false)) (fun c => ow_call0 rfl (h1) ⟨rfl, List.Perm.refl _⟩) ?_
        refine any_guardY rfl (by first | assumption | exact decide_eq_true rfl | exact decide_eq_true (by first | assumption | omega) | exact decide_eq_false (by first | assumption | omega) | with_reducible rfl | exact (rfl : false = !true) | exact (rfl : true = !false)) (fun c => ow_loadAll 0 rfl rfl rfl rfl ⟨rfl, List.Perm.refl _⟩) ?_
        refine any_guardY rfl (by first | assumption | exact decide_eq_true rfl | exact decide_eq_true (by first | assumption | omega) | exact decide_eq_false (by first | assumption | omega) | with_reducible rfl | exact (rfl : false = !true) | exact (rfl : true = !false)) (fun c => ow_move rfl ⟨rfl, List.Perm.refl _⟩) ?_
        refine any_guardY rfl (by first | assumption | exact decide_eq_true rfl | exact decide_eq_true (by first | assumption | omega) | exact decide_eq_false (by first | assumption | omega) | with_reducible rfl | exact (rfl : false = !true) | exact (rfl : true = !false)) (fun c => ow_call0 rfl (h2) ⟨rfl, List.Perm.refl _⟩) ?_
        refine any_guardY rfl (by first | assumption | exact decide_eq_true rfl | exact decide_eq_true (by first | assumption | omega) | exact decide_eq_false (by first | assumption | omega) | with_reducible rfl | exact (rfl : false = !true) | exact (rfl : true = !false)) (fun c => ow_booleql rfl rfl rfl ⟨rfl, List.Perm.refl _⟩) ?_
        refine any_op (fun c => ow_pickT rfl (by first | assumption | exact decide_eq_true rfl | exact decide_eq_true (by first | assumption | omega) | exact decide_eq_false (by first | assumption | omega) | with_reducible rfl | exact (rfl : false = !true) | exact (rfl : true = !false)) rfl ⟨rfl, List.Perm.refl _⟩) ?_
        refine any_op (fun c => ow_move rfl ⟨rfl, List.Perm.refl _⟩) ?_
        refine any_guardY rfl (by first | assumption | exact decide_eq_true rfl | exact decide_eq_true (by first | assumption | omega) | exact decide_eq_false (by first | assumption | omega) | with_reducible rfl | exact (rfl : false = !true) | exact (rfl : true = !false)) (fun c => ow_loadAll 0 rfl rfl rfl rfl ⟨rfl, List.Perm.refl _⟩) ?_
        refine any_guardY rfl (by first | assumption | exact decide_eq_true rfl | exact decide_eq_true (by first | assumption | omega) | exact decide_eq_false (by first | assumption | omega) | with_reducible rfl | exact (rfl : false = !true) | exact (rfl : true = !false)) (fun c => ow_call0 rfl (cK) ⟨rfl, List.Perm.refl _⟩) ?_
        refine any_guardY rfl (by first | assumption | exact decide_eq_true rfl | exact decide_eq_true (by first | assumption | omega) | exact decide_eq_false (by first | assumption | omega) | with_reducible rfl | exact (rfl : false = !true) | exact (rfl : true = !false)) (fun c => ow_eql rfl rfl ⟨rfl, List.Perm.refl _⟩) ?_
        refine any_op (fun c => ow_pickT rfl (by first | assumption | exact decide_eq_true rfl | exact decide_eq_true (by first | assumption | omega) | exact decide_eq_false (by first | assumption | omega) | with_reducible rfl | exact (rfl : false = !true) | exact (rfl : true = !false)) rfl ⟨rfl, List.Perm.refl _⟩) ?_
        refine any_op (fun c => ow_move rfl ⟨rfl, List.Perm.refl _⟩) ?_
        refine any_guardY rfl (by first | assumption | exact decide_eq_true rfl | exact decide_eq_true (by first | assumption | omega) | exact decide_eq_false (by first | assumption | omega) | with_reducible rfl | exact (rfl : false = !true) | exact (rfl : true = !false)) (fun c => ow_call0 rfl (awake_c) ⟨rfl, List.Perm.refl _⟩) ?_
        refine any_op (fun c => ow_pickT rfl (by first | assumption | exact decide_eq_true rfl | exact decide_eq_true (by first | assumption | omega) | exact decide_eq_false (by first | assumption | omega) | with_reducible rfl | exact (rfl : false = !true) | exact (rfl : true = !false)) rfl ⟨rfl, List.Perm.refl _⟩) ?_
        refine any_op (fun c => ow_assign rfl ⟨rfl, List.Perm.refl _⟩) ?_
        refine any_nil ?_
        refine jq_then ?_
        refine jc_ret ?_
        refine jq_ret1 rfl rfl [] rfl (fun K h => h)
end Go.Proofs.Ytjkkkjikhjfdnaa
