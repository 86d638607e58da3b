import Derived.Test.YtjkkkjikhjfdnaaFa1
namespace Go.Proofs.Ytjkkkjikhjfdnaa
open Go.Vc

/-! Sums of coefficients -/
def cof : List Tm → Int → Int
  | [], _ => 0
  | t :: l, i => (if t.1 = i then t.2 else 0) + cof l i
theorem cof_append (l m : List Tm) (i : Int) : cof (l ++ m) i = cof l i + cof m i := by
  induction l with
  | nil => simp [cof]
  | cons t l ih => simp only [List.cons_append, cof, ih]; omega
theorem cof_perm {l m : List Tm} (h : l.Perm m) (i : Int) : cof l i = cof m i := by
  induction h with
  | nil => rfl
  | cons x _ ih => simp only [cof, ih]
  | swap x y l => simp only [cof]; omega
  | trans _ _ ih1 ih2 => exact ih1.trans ih2
abbrev Strict (l : List Tm) : Prop := l.Pairwise (fun a b => a.1 < b.1)
theorem cof_zero {l : List Tm} {i : Int} (h : ∀ t ∈ l, t.1 ≠ i) : cof l i = 0 := by
  induction l with
  | nil => rfl
  | cons t l ih => simp only [cof, if_neg (h t (by simp)), ih (fun u hu => h u (by simp [hu]))]; omega
theorem cof_mem {l : List Tm} (hs : Strict l) : ∀ t ∈ l, cof l t.1 = t.2 := by
  induction l with
  | nil => intro t h; cases h
  | cons a l ih =>
    obtain ⟨h1, h2⟩ := List.pairwise_cons.1 hs
    intro t ht
    rcases List.mem_cons.1 ht with rfl | ht
    · show (if t.1 = t.1 then t.2 else 0) + cof l t.1 = t.2
      rw [if_pos rfl, cof_zero (fun u hu => by have := h1 u hu; omega)]
      omega
    · have := h1 t ht
      simp only [cof, if_neg (show ¬ a.1 = t.1 by omega), ih h2 t ht]
      omega
theorem mem_cof {l : List Tm} (hs : Strict l) {i : Int} (h : cof l i ≠ 0) : (i, cof l i) ∈ l := by
  by_cases hex : ∃ t ∈ l, t.1 = i
  · obtain ⟨t, ht, rfl⟩ := hex
    rw [cof_mem hs t ht]
    exact ht
  · exact absurd (cof_zero (fun t ht e => hex ⟨t, ht, e⟩)) h
theorem strict_ext : ∀ {l m : List Tm}, Strict l → Strict m → (∀ t, t ∈ l ↔ t ∈ m) → l = m
  | [], [], _, _, _ => rfl
  | [], b :: m, _, _, h => by have := (h b).2 (by simp); cases this
  | a :: l, [], _, _, h => by have := (h a).1 (by simp); cases this
  | a :: l, b :: m, hl, hm, h => by
    obtain ⟨h1, h2⟩ := List.pairwise_cons.1 hl
    obtain ⟨g1, g2⟩ := List.pairwise_cons.1 hm
    have hab : a = b := by
      rcases List.mem_cons.1 ((h a).1 (by simp)) with e | e
      · exact e
      · rcases List.mem_cons.1 ((h b).2 (by simp)) with e' | e'
        · exact e'.symm
        · have := g1 a e
          have := h1 b e'
          omega
    subst hab
    rw [strict_ext h2 g2 (fun t => ⟨fun ht => by
      rcases List.mem_cons.1 ((h t).1 (by simp [ht])) with e | e
      · subst e; have := h1 t ht; omega
      · exact e, fun ht => by
      rcases List.mem_cons.1 ((h t).2 (by simp [ht])) with e | e
      · subst e; have := g1 t ht; omega
      · exact e⟩)]

/-- The terms of a fact: their coefficients put together, in order. -/
def canon (l : List Tm) : List Tm := ((List.range 256).map (fun (i : Nat) => ((i : Int), cof l i))).filter (fun t => !zeroT t)
theorem canon_strict (l : List Tm) : Strict (canon l) := by
  refine List.Pairwise.filter _ ?_
  rw [List.pairwise_map]
  exact List.pairwise_lt_range.imp (fun h => by simpa using h)
theorem canon_mem (l : List Tm) (t : Tm) : t ∈ canon l ↔ 0 ≤ t.1 ∧ t.1 < 256 ∧ t.2 = cof l t.1 ∧ t.2 ≠ 0 := by
  unfold canon
  rw [List.mem_filter, List.mem_map]
  constructor
  · rintro ⟨⟨i, hi, rfl⟩, hz⟩
    have := List.mem_range.1 hi
    refine ⟨by dsimp only; omega, by dsimp only; omega, rfl, ?_⟩
    simpa [zeroT] using hz
  · rintro ⟨h1, h2, h3, h4⟩
    refine ⟨⟨t.1.toNat, List.mem_range.2 (by omega), ?_⟩, by simpa [zeroT] using h4⟩
    rw [show ((t.1.toNat : Nat) : Int) = t.1 by omega, ← h3]
theorem canon_len (l : List Tm) : (canon l).length ≤ 256 := by
  refine Nat.le_trans (List.length_filter_le _ _) ?_
  simp

/-! Terms put together -/
def addT (O : List Tm) (t : Tm) : List Tm := match O.getLast? with
  | some u => if u.1 = t.1 then O.dropLast ++ [(u.1, u.2 + t.2)] else O ++ [t]
  | none => O ++ [t]
theorem addT_nil (t : Tm) : addT [] t = [t] := rfl
theorem addT_snoc (Q : List Tm) (u t : Tm) : addT (Q ++ [u]) t = if u.1 = t.1 then Q ++ [(u.1, u.2 + t.2)] else Q ++ [u] ++ [t] := by
  unfold addT
  rw [List.getLast?_concat]
  simp
def comb (l : List Tm) : List Tm := l.foldl addT []
theorem comb_snoc (l : List Tm) (t : Tm) : comb (l ++ [t]) = addT (comb l) t := by simp [comb]
theorem list_snoc {α : Type} (l : List α) : l = [] ∨ ∃ Q u, l = Q ++ [u] := by
  rcases List.eq_nil_or_concat l with h | ⟨Q, u, h⟩
  · exact .inl h
  · exact .inr ⟨Q, u, by simpa using h⟩
theorem addT_cof (O : List Tm) (t : Tm) (i : Int) : cof (addT O t) i = cof O i + (if t.1 = i then t.2 else 0) := by
  rcases list_snoc O with rfl | ⟨Q, u, rfl⟩
  · simp [addT_nil, cof]
  · rw [addT_snoc]
    split
    · rename_i h
      simp only [cof_append, cof, h]
      split <;> omega
    · simp only [cof_append, cof]
      omega
theorem comb_cof (l : List Tm) (i : Int) : cof (comb l) i = cof l i := by
  suffices h : ∀ (n : Nat) (l : List Tm), l.length = n → cof (comb l) i = cof l i from h _ l rfl
  intro n
  induction n with
  | zero => intro l h; rw [List.eq_nil_of_length_eq_zero h]; rfl
  | succ n ih =>
    intro l h
    rcases list_snoc l with rfl | ⟨Q, u, rfl⟩
    · simp at h
    · rw [comb_snoc, addT_cof, ih Q (by simpa using h), cof_append]
      simp [cof]
/-- What is known of terms that were put together out of some in order. -/
structure CombOk (s O : List Tm) : Prop where
  strict : Strict O
  last : O.getLast?.map (·.1) = s.getLast?.map (·.1)
  from_ : ∀ t ∈ O, ∃ u ∈ s, u.1 = t.1
theorem comb_ok : ∀ (n : Nat) (s : List Tm), s.length = n → s.Pairwise (fun a b => a.1 ≤ b.1) → CombOk s (comb s)
  | 0, s, h, _ => by
    rw [List.eq_nil_of_length_eq_zero h]
    exact ⟨.nil, rfl, fun t ht => by cases ht⟩
  | n + 1, s, h, hs => by
    rcases list_snoc s with rfl | ⟨Q, t, rfl⟩
    · simp at h
    · obtain ⟨hQ, _, hQt⟩ := List.pairwise_append.1 hs
      have ih := comb_ok n Q (by simpa using h) hQ
      rw [comb_snoc]
      rcases list_snoc (comb Q) with e | ⟨R, u, e⟩
      · rw [e, addT_nil]
        exact ⟨by simp, by simp, fun x hx => ⟨t, by simp, by rw [List.mem_singleton.1 hx]⟩⟩
      · have hst := ih.strict
        have hla := ih.last
        have hfr := ih.from_
        rw [e] at hst hla hfr ⊢
        rw [addT_snoc]
        obtain ⟨h1, _, h3⟩ := List.pairwise_append.1 hst
        have hut : u.1 ≤ t.1 := by
          obtain ⟨v, hv, ev⟩ := hfr u (by simp)
          have := hQt v hv t (by simp)
          omega
        split
        · rename_i eut
          refine ⟨List.pairwise_append.2 ⟨h1, by simp, fun a ha b hb => ?_⟩, by simp [eut], fun x hx => ?_⟩
          · rw [List.mem_singleton.1 hb]
            exact h3 a ha u (by simp)
          · rcases List.mem_append.1 hx with hx | hx
            · obtain ⟨v, hv, ev⟩ := hfr x (by simp [hx])
              exact ⟨v, by simp [hv], ev⟩
            · rw [List.mem_singleton.1 hx]
              exact ⟨t, by simp, eut.symm⟩
        · rename_i eut
          refine ⟨List.pairwise_append.2 ⟨hst, by simp, fun a ha b hb => ?_⟩, by simp, fun x hx => ?_⟩
          · rw [List.mem_singleton.1 hb]
            rcases List.mem_append.1 ha with ha | ha
            · have := h3 a ha u (by simp)
              omega
            · rw [List.mem_singleton.1 ha]
              omega
          · rcases List.mem_append.1 hx with hx | hx
            · obtain ⟨v, hv, ev⟩ := hfr x hx
              exact ⟨v, by simp [hv], ev⟩
            · rw [List.mem_singleton.1 hx]
              exact ⟨t, by simp, rfl⟩
theorem gather_eq {l s : List Tm} (hp : s.Perm l) (hs : s.Pairwise (fun a b => a.1 ≤ b.1)) (hb : ∀ t ∈ l, isBlock t.1 = true) : (comb s).filter (fun t => !zeroT t) = canon l := by
  have hc := comb_ok _ s rfl hs
  refine strict_ext (hc.strict.filter _) (canon_strict l) (fun t => ?_)
  rw [canon_mem, List.mem_filter]
  constructor
  · rintro ⟨ht, hz⟩
    obtain ⟨u, hu, eu⟩ := hc.from_ t ht
    have hbl := isBlock_iff.1 (hb u (hp.mem_iff.1 hu))
    refine ⟨by omega, by omega, ?_, by simpa [zeroT] using hz⟩
    rw [← cof_perm hp, ← comb_cof, cof_mem hc.strict t ht]
  · rintro ⟨_, _, h3, h4⟩
    refine ⟨?_, by simpa [zeroT] using h4⟩
    have : cof (comb s) t.1 ≠ 0 := by rw [comb_cof, cof_perm hp, ← h3]; exact h4
    have hm := mem_cof hc.strict this
    rw [comb_cof, cof_perm hp, ← h3] at hm
    exact hm
theorem comb_len : ∀ (n : Nat) (s : List Tm), s.length = n → (comb s).length ≤ n
  | 0, s, h => by rw [List.eq_nil_of_length_eq_zero h]; exact Nat.le_refl _
  | n + 1, s, h => by
    rcases list_snoc s with rfl | ⟨Q, t, rfl⟩
    · simp at h
    · have ih := comb_len n Q (by simpa using h)
      rw [comb_snoc]
      unfold addT
      split
      · split
        · simp only [List.length_append, List.length_dropLast, List.length_singleton]; omega
        · simp only [List.length_append, List.length_singleton]; omega
      · simp only [List.length_append, List.length_singleton]; omega
theorem addT_bound {O : List Tm} {t : Tm} {B b : Int} (hO : ∀ u ∈ O, -B ≤ u.2 ∧ u.2 ≤ B) (ht : -b ≤ t.2 ∧ t.2 ≤ b) (hB : 0 ≤ B) : ∀ u ∈ addT O t, -(B + b) ≤ u.2 ∧ u.2 ≤ B + b := by
  rcases list_snoc O with rfl | ⟨Q, v, rfl⟩
  · rw [addT_nil]
    intro u hu
    rw [List.mem_singleton.1 hu]
    omega
  · rw [addT_snoc]
    have hv := hO v (by simp)
    split
    · intro u hu
      rcases List.mem_append.1 hu with hu | hu
      · have := hO u (by simp [hu]); omega
      · rw [List.mem_singleton.1 hu]; dsimp only; omega
    · intro u hu
      rcases List.mem_append.1 hu with hu | hu
      · have := hO u hu; omega
      · rw [List.mem_singleton.1 hu]; omega
end Go.Proofs.Ytjkkkjikhjfdnaa
