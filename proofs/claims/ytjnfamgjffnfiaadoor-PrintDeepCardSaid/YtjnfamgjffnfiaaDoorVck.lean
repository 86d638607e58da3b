import Derived.Test.YtjnfamgjffnfiaaDoorVcj
namespace Go.Vc

/-! Merging: plain lists -/
section
variable {α : Type} (key : α → Int)
def shfI (a k p : Nat) : Nat := if a ≤ p ∧ p < k then p + 1 else if p = k then a else p
theorem shf_zero (a p : Nat) : shfI a a p = p := by
  unfold shfI
  rw [if_neg (by omega)]
  split
  · omega
  · rfl
theorem shf_step {l t : List α} {a k : Nat} (ha : a ≤ k) (hk : k + 1 < l.length) (hlen : t.length = l.length) (h : ∀ p, t[p]? = l[shfI a k p]?) (p : Nat) : (sw t k (k + 1))[p]? = l[shfI a (k + 1) p]? := by
  rw [sw_get (by omega) (by omega), h]
  congr 1
  unfold shfI
  repeat' split
  all_goals omega
/-- One element put among others that are in order. -/
theorem so_front {l t : List α} {a i b : Nat} (hs : So key l (a + 1) b) (hi : a + 1 ≤ i ∧ i ≤ b) (h1 : ∀ q, a + 1 ≤ q → q < i → kk key l q ≤ kk key l a) (h2 : ∀ q, i ≤ q → q < b → kk key l a ≤ kk key l q)
    (ht : ∀ p, t[p]? = l[shfI a (i - 1) p]?) : So key t a b := by
  intro p q hp hpq hq
  rw [kk_eq key (ht p), kk_eq key (ht q)]
  unfold shfI
  by_cases c1 : p < i - 1
  · rw [if_pos ⟨hp, c1⟩]
    by_cases c2 : q < i - 1
    · rw [if_pos ⟨by omega, c2⟩]; exact hs _ _ (by omega) (by omega) (by omega)
    · rw [if_neg (by omega)]
      split
      · exact h1 _ (by omega) (by omega)
      · exact hs _ _ (by omega) (by omega) (by omega)
  · rw [if_neg (by omega)]
    by_cases c2 : p = i - 1
    · rw [if_pos c2]
      rw [if_neg (by omega)]
      split
      · exact Int.le_refl _
      · exact h2 _ (by omega) hq
    · rw [if_neg c2, if_neg (by omega), if_neg (by omega)]
      exact hs _ _ (by omega) (by omega) (by omega)
def bakI (k m p : Nat) : Nat := if p = k then m else if k < p ∧ p ≤ m then p - 1 else p
theorem bak_zero (m p : Nat) : bakI m m p = p := by
  unfold bakI
  split
  · omega
  · rw [if_neg (by omega)]
theorem bak_step {l t : List α} {m k : Nat} (hk0 : 0 < k) (hk : k ≤ m) (hm : m < l.length) (hlen : t.length = l.length) (h : ∀ p, t[p]? = l[bakI k m p]?) (p : Nat) : (sw t k (k - 1))[p]? = l[bakI (k - 1) m p]? := by
  rw [sw_get (by omega) (by omega), h]
  congr 1
  unfold bakI
  repeat' split
  all_goals omega
theorem so_back {l t : List α} {a i m : Nat} (hs : So key l a m) (hi : a ≤ i ∧ i ≤ m) (h1 : ∀ q, a ≤ q → q < i → kk key l q ≤ kk key l m) (h2 : ∀ q, i ≤ q → q < m → kk key l m ≤ kk key l q)
    (ht : ∀ p, t[p]? = l[bakI i m p]?) : So key t a (m + 1) := by
  intro p q hp hpq hq
  rw [kk_eq key (ht p), kk_eq key (ht q)]
  unfold bakI
  by_cases c1 : p = i
  · rw [if_pos c1]
    by_cases c2 : q = i
    · rw [if_pos c2]; exact Int.le_refl _
    · rw [if_neg c2, if_pos (by omega)]
      exact h2 _ (by omega) (by omega)
  · rw [if_neg c1]
    by_cases c3 : p < i
    · rw [if_neg (by omega)]
      by_cases c2 : q = i
      · rw [if_pos c2]; exact h1 _ hp c3
      · rw [if_neg c2]
        split
        · exact hs _ _ hp (by omega) (by omega)
        · exact hs _ _ hp (by omega) (by omega)
    · rw [if_pos (by omega), if_neg (by omega), if_pos (by omega)]
      exact hs _ _ (by omega) (by omega) (by omega)

/-- The two halves behind the turn. -/
structure Half (t : List α) (a s mid e b : Nat) : Prop where
  ord : a ≤ s ∧ s ≤ mid ∧ mid ≤ e ∧ e ≤ b
  s1 : So key t a s
  s2 : So key t s mid
  s3 : So key t mid e
  s4 : So key t e b
  cross : ∀ p q, a ≤ p → p < mid → mid ≤ q → q < b → kk key t p ≤ kk key t q
theorem half_of {l t : List α} {a m b mid s s0 r0 : Nat} (ham : a < m) (_hmb : m < b) (hmid : mid = (a + b) / 2) (hs1 : So key l a m) (hs2 : So key l m b)
    (h0 : (mid < m ∧ s0 = mid + m - b ∧ r0 = mid) ∨ (m ≤ mid ∧ s0 = a ∧ r0 = m)) (hs : s0 ≤ s ∧ s ≤ r0)
    (k1 : ∀ c, s0 ≤ c → c < s → kk key l c ≤ kk key l (mid + m - 1 - c)) (k2 : ∀ c, s ≤ c → c < r0 → kk key l (mid + m - 1 - c) ≤ kk key l c)
    (ht : ∀ p, t[p]? = l[rotI s m (mid + m - s) p]?) : Half key t a s mid (mid + m - s) b := by
  have hk : ∀ p, kk key t p = kk key l (rotI s m (mid + m - s) p) := fun p => kk_eq key (ht p)
  have hsm : s ≤ m := by omega
  have hsmid : s ≤ mid := by omega
  have has : a ≤ s := by omega
  have r1 : ∀ p, p < s → rotI s m (mid + m - s) p = p := fun p hp => by unfold rotI; rw [if_neg (by omega), if_neg (by omega)]
  have r2 : ∀ p, s ≤ p → p < mid → rotI s m (mid + m - s) p = p + (m - s) := fun p h1 h2 => by unfold rotI; rw [if_pos (by omega)]
  have r3 : ∀ p, mid ≤ p → p < mid + m - s → rotI s m (mid + m - s) p = p - (mid - s) := fun p h1 h2 => by
    unfold rotI
    rw [if_neg (by omega), if_pos (by omega)]
    omega
  have r4 : ∀ p, mid + m - s ≤ p → rotI s m (mid + m - s) p = p := fun p h1 => by unfold rotI; rw [if_neg (by omega), if_neg (by omega)]
  refine ⟨by omega, ?_, ?_, ?_, ?_, ?_⟩
  · intro p q h1 h2 h3
    rw [hk, hk, r1 p (by omega), r1 q h3]
    exact hs1 p q h1 h2 (by omega)
  · intro p q h1 h2 h3
    rw [hk, hk, r2 p h1 (by omega), r2 q (by omega) h3]
    exact hs2 _ _ (by omega) (by omega) (by omega)
  · intro p q h1 h2 h3
    rw [hk, hk, r3 p h1 (by omega), r3 q (by omega) h3]
    exact hs1 _ _ (by omega) (by omega) (by omega)
  · intro p q h1 h2 h3
    rw [hk, hk, r4 p h1, r4 q (by omega)]
    exact hs2 _ _ (by omega) h2 h3
  · intro p q h1 h2 h3 h4
    rw [hk, hk]
    by_cases cp : p < s
    · rw [r1 p cp]
      by_cases cq : q < mid + m - s
      · rw [r3 q h3 cq]
        exact hs1 _ _ h1 (by omega) (by omega)
      · rw [r4 q (by omega)]
        -- the greatest of the one, the least of the other
        have e1 : kk key l p ≤ kk key l (s - 1) := hs1 _ _ h1 (by omega) (by omega)
        have e2 : kk key l (s - 1) ≤ kk key l (mid + m - 1 - (s - 1)) := k1 (s - 1) (by omega) (by omega)
        have e3 : kk key l (mid + m - 1 - (s - 1)) ≤ kk key l q := hs2 _ _ (by omega) (by omega) h4
        omega
    · rw [r2 p (by omega) h2]
      by_cases cq : q < mid + m - s
      · rw [r3 q h3 cq]
        have e1 : kk key l (p + (m - s)) ≤ kk key l (mid + m - 1 - s) := hs2 _ _ (by omega) (by omega) (by omega)
        have e2 : kk key l (mid + m - 1 - s) ≤ kk key l s := k2 s (by omega) (by omega)
        have e3 : kk key l s ≤ kk key l (q - (mid - s)) := hs1 _ _ has (by omega) (by omega)
        omega
      · rw [r4 q (by omega)]
        exact hs2 _ _ (by omega) (by omega) h4
theorem half_end {t t1 t2 : List α} {a s mid e b : Nat} (h : Half key t a s mid e b) (m1 : Mv a mid t t1) (o1 : So key t1 a mid) (m2 : Mv mid b t1 t2) (o2 : So key t2 mid b) : So key t2 a b := by
  intro p q h1 h2 h3
  by_cases cp : mid ≤ p
  · exact o2 p q cp h2 h3
  by_cases cq : q < mid
  · rw [kk_eq key (m2.out p (by omega)), kk_eq key (m2.out q (by omega))]
    exact o1 p q h1 h2 cq
  · obtain ⟨q', g1, g2, eq⟩ := m2.inn q (by omega) h3
    obtain ⟨p', g3, g4, ep⟩ := m1.inn p h1 (by omega)
    rw [kk_eq key (m2.out p (by omega)), kk_eq key eq, kk_eq key ep, kk_eq key (m1.out q' (by omega))]
    exact h.cross p' q' g3 g4 g1 g2

/-! Blocks in order -/
/-- Each block of bs, of those that begin at a multiple of it between x and y, is in order. -/
def Bl2 (l : List α) (bs n x y : Nat) : Prop := ∀ s, bs ∣ s → x ≤ s → s < y → So key l s (min (s + bs) n)
theorem dvd_gap {bs s a : Nat} (_hbs : 0 < bs) (h1 : bs ∣ s) (h2 : bs ∣ a) (h : s < a) : s + bs ≤ a := by
  obtain ⟨u, rfl⟩ := h1
  obtain ⟨v, rfl⟩ := h2
  have h3 : u < v := Nat.lt_of_mul_lt_mul_left h
  have h4 : bs * (u + 1) ≤ bs * v := Nat.mul_le_mul_left _ h3
  rw [Nat.mul_add, Nat.mul_one] at h4
  exact h4
theorem bl2_join {l : List α} {bs n x y z : Nat} (h1 : Bl2 key l bs n x y) (h2 : Bl2 key l bs n y z) : Bl2 key l bs n x z := fun s hs ha hb => by
  by_cases h : s < y
  · exact h1 s hs ha h
  · exact h2 s hs (by omega) hb
theorem bl2_one {l : List α} {bs n a : Nat} (hbs : 0 < bs) (ha : bs ∣ a) (h : So key l a (min (a + bs) n)) : Bl2 key l bs n a (a + bs) := fun s hs h1 h2 => by
  by_cases e : s = a
  · subst e; exact h
  · have := dvd_gap hbs ha hs (by omega)
    omega
theorem bl2_out {l l' : List α} {bs n x y a b : Nat} (h : Bl2 key l bs n x y) (hb : 0 < bs) (hy : bs ∣ y) (hm : Mv a b l l') (hd : y ≤ a ∨ b ≤ x) : Bl2 key l' bs n x y := fun s hs h1 h2 => by
  have := dvd_gap hb hs hy h2
  exact (h s hs h1 h2).out key hm (by omega)
theorem bl2_last {l : List α} {bs n a : Nat} (hbs : 0 < bs) (ha : bs ∣ a) (hn : n ≤ a + bs) (h : So key l a n) : Bl2 key l bs n a n := fun s hs h1 h2 => by
  by_cases e : s = a
  · subst e; rw [show min (s + bs) n = n by omega]; exact h
  · have := dvd_gap hbs ha hs (by omega)
    omega
theorem bl2_sub {l : List α} {bs n x y x' y' : Nat} (h : Bl2 key l bs n x y) (hx : x ≤ x') (hy : y' ≤ y) : Bl2 key l bs n x' y' := fun s hs h1 h2 => h s hs (by omega) (by omega)
theorem bl2_behind {l l' : List α} {bs n x y a b : Nat} (h : Bl2 key l bs n x y) (hm : Mv a b l l') (hd : b ≤ x) : Bl2 key l' bs n x y := fun s hs h1 h2 => (h s hs h1 h2).out key hm (.inr (by omega))
end
end Go.Vc
