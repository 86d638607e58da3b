import Derived.Test.YtjnfamgjffnfiaaDoorVci
namespace Go.Vc

/-! Sorting: plain lists -/
section
variable {α : Type}
/-- Two elements exchanged. -/
def sw (l : List α) (i j : Nat) : List α := match l[i]?, l[j]? with
  | some x, some y => (l.set i y).set j x
  | _, _ => l
theorem sw_eq {l : List α} {i j : Nat} (hi : i < l.length) (hj : j < l.length) : sw l i j = (l.set i l[j]).set j l[i] := by
  unfold sw
  rw [List.getElem?_eq_getElem hi, List.getElem?_eq_getElem hj]
theorem sw_len (l : List α) (i j : Nat) : (sw l i j).length = l.length := by
  unfold sw
  split <;> simp
theorem sw_get {l : List α} {i j : Nat} (hi : i < l.length) (hj : j < l.length) (p : Nat) : (sw l i j)[p]? = l[if p = i then j else if p = j then i else p]? := by
  rw [sw_eq hi hj, List.getElem?_set, List.getElem?_set, List.length_set]
  by_cases h1 : j = p
  · subst h1
    by_cases h2 : j = i
    · subst h2; simp [hi]
    · simp [h2, hj, List.getElem?_eq_getElem hi]
  · by_cases h2 : i = p
    · subst h2; simp [h1, hi, List.getElem?_eq_getElem hj]
    · rw [if_neg h1, if_neg h2, if_neg (fun h => h2 h.symm), if_neg (fun h => h1 h.symm)]
theorem sw_perm {l : List α} {i j : Nat} (hi : i < l.length) (hj : j < l.length) : (sw l i j).Perm l := by
  rw [sw_eq hi hj]
  exact List.set_set_perm hi hj

/-- The elements from a on, up to b, have been moved about among themselves. -/
structure Mv (a b : Nat) (l l' : List α) : Prop where
  len : l'.length = l.length
  perm : l'.Perm l
  out : ∀ p, p < a ∨ b ≤ p → l'[p]? = l[p]?
  inn : ∀ p, a ≤ p → p < b → ∃ q, a ≤ q ∧ q < b ∧ l'[p]? = l[q]?
theorem Mv.refl (a b : Nat) (l : List α) : Mv a b l l := ⟨rfl, .refl _, fun _ _ => rfl, fun p h1 h2 => ⟨p, h1, h2, rfl⟩⟩
theorem Mv.trans {a b : Nat} {l l' l'' : List α} (h : Mv a b l l') (h' : Mv a b l' l'') : Mv a b l l'' :=
  ⟨h'.len.trans h.len, h'.perm.trans h.perm, fun p hp => (h'.out p hp).trans (h.out p hp), fun p h1 h2 => by
    obtain ⟨q, g1, g2, e⟩ := h'.inn p h1 h2
    obtain ⟨r, k1, k2, e2⟩ := h.inn q g1 g2
    exact ⟨r, k1, k2, e.trans e2⟩⟩
theorem Mv.mono {a b a' b' : Nat} {l l' : List α} (h : Mv a b l l') (ha : a' ≤ a) (hb : b ≤ b') : Mv a' b' l l' :=
  ⟨h.len, h.perm, fun p hp => h.out p (by omega), fun p h1 h2 => by
    by_cases hp : a ≤ p ∧ p < b
    · obtain ⟨q, g1, g2, e⟩ := h.inn p hp.1 hp.2
      exact ⟨q, by omega, by omega, e⟩
    · exact ⟨p, h1, h2, h.out p (by omega)⟩⟩
theorem Mv.sw {a b : Nat} {l : List α} {i j : Nat} (hb : b ≤ l.length) (hi : a ≤ i ∧ i < b) (hj : a ≤ j ∧ j < b) : Mv a b l (sw l i j) := by
  have h1 : i < l.length := by omega
  have h2 : j < l.length := by omega
  refine ⟨sw_len _ _ _, sw_perm h1 h2, fun p hp => ?_, fun p g1 g2 => ⟨_, ?_, ?_, sw_get h1 h2 p⟩⟩
  · rw [sw_get h1 h2, if_neg (by omega), if_neg (by omega)]
  · split
    · omega
    · split <;> omega
  · split
    · omega
    · split <;> omega

variable (key : α → Int)
/-- The key of an element. -/
def kk (l : List α) (p : Nat) : Int := (l[p]?.map key).getD 0
theorem kk_get {l : List α} {p : Nat} (h : p < l.length) : kk key l p = key l[p] := by
  unfold kk
  rw [List.getElem?_eq_getElem h]
  rfl
theorem kk_eq {l l' : List α} {p q : Nat} (h : l'[p]? = l[q]?) : kk key l' p = kk key l q := by
  unfold kk
  rw [h]
/-- In order, from a on, up to b. -/
def So (l : List α) (a b : Nat) : Prop := ∀ p q, a ≤ p → p ≤ q → q < b → kk key l p ≤ kk key l q
theorem So.sub {l : List α} {a b a' b' : Nat} (h : So key l a b) (ha : a ≤ a') (hb : b' ≤ b) : So key l a' b' := fun p q h1 h2 h3 => h p q (by omega) h2 (by omega)
theorem So.out {l l' : List α} {a b x y : Nat} (h : So key l a b) (hm : Mv x y l l') (hd : b ≤ x ∨ y ≤ a) : So key l' a b := fun p q h1 h2 h3 => by
  rw [kk_eq key (hm.out p (by omega)), kk_eq key (hm.out q (by omega))]
  exact h p q h1 h2 h3
theorem so_small {l : List α} {a b : Nat} (h : b ≤ a + 1) : So key l a b := fun p q h1 h2 h3 => by
  obtain rfl : p = q := by omega
  exact Int.le_refl _
theorem so_pairwise {l : List α} (h : So key l 0 l.length) : l.Pairwise (fun a b => key a ≤ key b) := by
  rw [List.pairwise_iff_getElem]
  intro i j hi hj hij
  have := h i j (by omega) (by omega) hj
  rwa [kk_get key hi, kk_get key hj] at this

/-! Insertion -/
/-- Behind its place j has come down from, all is in order but for it, and what lies behind it is greater. -/
structure Ins (l : List α) (a i j : Nat) : Prop where
  but : ∀ p q, a ≤ p → p ≤ q → q ≤ i → p ≠ j → q ≠ j → kk key l p ≤ kk key l q
  up : ∀ q, j < q → q ≤ i → kk key l j ≤ kk key l q
theorem ins_start {l : List α} {a i : Nat} (h : So key l a i) : Ins key l a i i :=
  ⟨fun p q h1 h2 h3 h4 h5 => h p q h1 h2 (by omega), fun q h1 h2 => by omega⟩
theorem ins_end {l : List α} {a i j : Nat} (h : Ins key l a i j) (hj : j = a ∨ kk key l (j - 1) ≤ kk key l j ∧ a < j) : So key l a (i + 1) := by
  intro p q h1 h2 h3
  by_cases hpq : p = q
  · subst hpq; exact Int.le_refl _
  by_cases hp : p = j
  · subst hp; exact h.up q (by omega) (by omega)
  by_cases hq : q = j
  · subst hq
    rcases hj with hj | ⟨hj, hj2⟩
    · omega
    · by_cases hp1 : p = q - 1
      · subst hp1; exact hj
      · have := h.but p (q - 1) h1 (by omega) (by omega) hp (by omega)
        omega
  exact h.but p q h1 h2 (by omega) hp hq
theorem ins_step {l : List α} {a i j : Nat} (hl : i < l.length) (h : Ins key l a i j) (hj : a < j) (hji : j ≤ i) (hlt : kk key l j < kk key l (j - 1)) : Ins key (sw l j (j - 1)) a i (j - 1) := by
  have hk : ∀ p, kk key (sw l j (j - 1)) p = kk key l (if p = j then j - 1 else if p = j - 1 then j else p) := fun p => kk_eq key (sw_get (by omega) (by omega) p)
  refine ⟨fun p q h1 h2 h3 h4 h5 => ?_, fun q h1 h2 => ?_⟩
  · rw [hk, hk]
    by_cases hp : p = j
    · rw [if_pos hp]
      by_cases hq : q = j
      · rw [if_pos hq]; exact Int.le_refl _
      · rw [if_neg hq, if_neg h5]
        exact h.but _ _ (by omega) (by omega) h3 (by omega) hq
    · rw [if_neg hp, if_neg h4]
      by_cases hq : q = j
      · rw [if_pos hq]
        exact h.but _ _ h1 (by omega) (by omega) hp (by omega)
      · rw [if_neg hq, if_neg h5]
        exact h.but _ _ h1 h2 h3 hp hq
  · rw [hk, hk, if_neg (by omega), if_pos rfl]
    by_cases hq : q = j
    · rw [if_pos hq]; omega
    · rw [if_neg hq, if_neg (by omega)]
      exact h.up q (by omega) h2

/-! Exchanging and turning -/
def swpI (a b n p : Nat) : Nat := if a ≤ p ∧ p < a + n then p - a + b else if b ≤ p ∧ p < b + n then p - b + a else p
def rotI (a m b p : Nat) : Nat := if a ≤ p ∧ p < a + (b - m) then p + (m - a) else if a + (b - m) ≤ p ∧ p < b then p - (b - m) else p
theorem swp_zero (a b p : Nat) : swpI a b 0 p = p := by
  unfold swpI
  rw [if_neg (by omega), if_neg (by omega)]
theorem swp_step {l l' : List α} {a b n : Nat} (hab : a + n < b) (hb : b + n < l.length) (hlen : l'.length = l.length) (h : ∀ p, l'[p]? = l[swpI a b n p]?) (p : Nat) : (sw l' (a + n) (b + n))[p]? = l[swpI a b (n + 1) p]? := by
  rw [sw_get (by omega) (by omega), h]
  congr 1
  unfold swpI
  repeat' split
  all_goals omega
theorem rot_gt (m i j p : Nat) (hi : i ≤ m) (hij : j < i) (hj : 0 < j) : rotI (m - i) m (m + j) p = swpI (m - i) m j (rotI (m - (i - j)) m (m + j) p) := by
  unfold rotI swpI
  repeat' split
  all_goals omega
theorem rot_lt (m i j p : Nat) (hi : i ≤ m) (hij : i < j) (h0 : 0 < i) : rotI (m - i) m (m + j) p = swpI (m - i) (m + j - i) i (rotI (m - i) m (m + (j - i)) p) := by
  unfold rotI swpI
  repeat' split
  all_goals omega
theorem rot_eq (m i p : Nat) (hi : i ≤ m) : rotI (m - i) m (m + i) p = swpI (m - i) m i p := by
  unfold rotI swpI
  repeat' split
  all_goals omega
theorem rot_in {a m b p : Nat} (h1 : a ≤ m) (h2 : m ≤ b) : (p < a ∨ b ≤ p → rotI a m b p = p) ∧ (a ≤ p → p < b → a ≤ rotI a m b p ∧ rotI a m b p < b) := by
  unfold rotI
  constructor
  · intro h
    rw [if_neg (by omega), if_neg (by omega)]
  · intro h3 h4
    repeat' split
    all_goals omega
end
end Go.Vc
