import Derived.Test.YtjkkkjikhjfdnaaFa7
namespace Go.Proofs.Ytjkkkjikhjfdnaa
open Go.Vc

/-! Terms, put together -/
theorem canon_id {l : List Tm} (hs : Strict l) (hb : ∀ t ∈ l, 0 ≤ t.1 ∧ t.1 < 256 ∧ t.2 ≠ 0) : canon l = l :=
  strict_ext (canon_strict l) hs (fun t => by
    rw [canon_mem]
    constructor
    · rintro ⟨_, _, h3, h4⟩
      have := mem_cof (i := t.1) hs (by rw [← h3]; exact h4)
      rw [← h3] at this
      exact this
    · intro ht
      obtain ⟨h1, h2, h3⟩ := hb t ht
      exact ⟨h1, h2, (cof_mem hs t ht).symm, h3⟩)
theorem canon_eq {l m : List Tm} (h : ∀ i, cof l i = cof m i) : canon l = canon m := by
  unfold canon
  congr 2
  funext i
  rw [h]
theorem strict_len {m : List Tm} : ∀ {lo hi : Int}, Strict m → (∀ t ∈ m, lo ≤ t.1 ∧ t.1 < hi) → lo ≤ hi → (m.length : Int) ≤ hi - lo := by
  induction m with
  | nil => intro lo hi _ _ h; simp; omega
  | cons a m ih =>
    intro lo hi hs hb hle
    obtain ⟨h1, h2⟩ := List.pairwise_cons.1 hs
    have ha := hb a (by simp)
    have := ih (lo := a.1 + 1) (hi := hi) h2 (fun t ht => ⟨by have := h1 t ht; omega, (hb t (by simp [ht])).2⟩) (by omega)
    simp only [List.length_cons]
    omega
theorem cof_range {l : List Tm} {i lo hi : Int} (hb : ∀ t ∈ l, lo ≤ t.1 ∧ t.1 < hi) (h : cof l i ≠ 0) : lo ≤ i ∧ i < hi := by
  by_cases hex : ∃ t ∈ l, t.1 = i
  · obtain ⟨t, ht, rfl⟩ := hex
    exact hb t ht
  · exact absurd (cof_zero (fun t ht e => hex ⟨t, ht, e⟩)) h
theorem cof_bd {l : List Tm} {B : Int} (hB : 0 ≤ B) (hb : ∀ t ∈ l, -B ≤ t.2 ∧ t.2 ≤ B) (i : Int) : -(B * (l.length : Int)) ≤ cof l i ∧ cof l i ≤ B * (l.length : Int) := by
  induction l with
  | nil => simp [cof]
  | cons t l ih =>
    have h1 := ih (fun u hu => hb u (by simp [hu]))
    have h2 := hb t (by simp)
    have e : B * ((t :: l).length : Int) = B * (l.length : Int) + B := by
      rw [List.length_cons, Int.natCast_succ, Int.mul_add, Int.mul_one]
    rw [e]
    simp only [cof]
    split <;> omega
/-- Terms about few blocks, of small sums: they are a fact's. -/
theorem of_ok {l : List Tm} {most n B : Int} (hl : l.length ≤ 1024) (hm : -1048576 ≤ most ∧ most ≤ 1048576) (hn : n ≤ 64) (hn0 : 0 ≤ n) (hb : ∀ t ∈ l, (0 ≤ t.1 ∧ t.1 < n) ∧ -B ≤ t.2 ∧ t.2 ≤ B) (hB : 0 ≤ B) (hBl : B * (l.length : Int) ≤ 1048576) (hB1 : B ≤ 1048576) :
    ofF l most = (⟨canon l, most⟩, 0) ∧ Valid ⟨canon l, most⟩ ∧ (∀ t ∈ canon l, t.1 < n) := by
  have hin : ∀ t ∈ canon l, 0 ≤ t.1 ∧ t.1 < n := fun t ht => by
    obtain ⟨h1, h2, h3, h4⟩ := (canon_mem l t).1 ht
    exact cof_range (fun u hu => (hb u hu).1) (by rw [← h3]; exact h4)
  have hlen : (canon l).length ≤ 64 := by
    have := strict_len (canon_strict l) hin hn0
    omega
  have hsm : isSmall most = true := isSmall_iff.2 hm
  have hbad : l.any badT = false := List.any_eq_false.2 (fun t ht => by
    have := hb t ht
    unfold badT
    rw [isBlock_iff.2 (by omega), isSmall_iff.2 (by omega)]
    decide)
  have hcs : ∀ t ∈ canon l, isSmall t.2 = true := fun t ht => by
    obtain ⟨h1, h2, h3, h4⟩ := (canon_mem l t).1 ht
    have := cof_bd hB (fun u hu => (hb u hu).2) t.1
    rw [h3]
    exact isSmall_iff.2 (by omega)
  have hbig : (canon l).any bigT = false := List.any_eq_false.2 (fun t ht => by unfold bigT; rw [hcs t ht]; decide)
  refine ⟨?_, ⟨hlen, fun t ht => ?_, canon_strict l, hsm⟩, fun t ht => (hin t ht).2⟩
  · unfold ofF
    rw [if_neg (by omega), hsm, hbad, if_neg (by decide), if_neg (by omega), hbig, if_neg (by decide)]
  · refine ⟨?_, ((canon_mem l t).1 ht).2.2.2⟩
    have := hin t ht
    unfold badT
    rw [isBlock_iff.2 (by omega), hcs t ht]
    rfl
theorem of_valid {f : Fct} (h : Valid f) : ofF f.terms f.most = (f, 0) := by
  have hb : ∀ t ∈ f.terms, 0 ≤ t.1 ∧ t.1 < 256 ∧ t.2 ≠ 0 := fun t ht => by
    have := okB_parts (h.ok t ht).1
    exact ⟨this.1.1, this.1.2, (h.ok t ht).2⟩
  have e := canon_id h.strict hb
  have hbad : f.terms.any badT = false := List.any_eq_false.2 (fun t ht => by rw [(h.ok t ht).1]; decide)
  have hbig : f.terms.any bigT = false := List.any_eq_false.2 (fun t ht => by
    have := (h.ok t ht).1
    unfold badT at this
    rw [Bool.or_eq_false_iff] at this
    unfold bigT
    rw [this.2]
    decide)
  have := h.len
  unfold ofF
  rw [if_neg (by omega), h.most, hbad, if_neg (by decide), e, if_neg (by omega), hbig, if_neg (by decide)]

/-! The order of terms -/
def dbl : List Tm → List Tm
  | [] => []
  | t :: r => t :: (t.1, -t.2) :: dbl r
theorem dbl_snoc (l : List Tm) (t : Tm) : dbl (l ++ [t]) = dbl l ++ [t, (t.1, -t.2)] := by
  induction l with
  | nil => rfl
  | cons a l ih => simp only [List.cons_append, dbl, ih]
theorem dbl_len (l : List Tm) : (dbl l).length = 2 * l.length := by
  induction l with
  | nil => rfl
  | cons a l ih => simp only [dbl, List.length_cons, ih]; omega
theorem dbl_cof (l : List Tm) (i : Int) : cof (dbl l) i = 0 := by
  induction l with
  | nil => rfl
  | cons a l ih =>
    simp only [dbl, cof, ih]
    split <;> omega
theorem dbl_mem {l : List Tm} {t : Tm} (h : t ∈ dbl l) : ∃ u ∈ l, t.1 = u.1 ∧ (t.2 = u.2 ∨ t.2 = -u.2) := by
  induction l with
  | nil => cases h
  | cons a l ih =>
    rcases List.mem_cons.1 h with rfl | h
    · exact ⟨t, by simp, rfl, .inl rfl⟩
    · rcases List.mem_cons.1 h with rfl | h
      · exact ⟨a, by simp, rfl, .inr rfl⟩
      · obtain ⟨u, hu, g⟩ := ih h
        exact ⟨u, by simp [hu], g⟩
theorem canon_dbl (l : List Tm) : canon (dbl l) = [] := by
  rcases h : canon (dbl l) with _ | ⟨t, r⟩
  · rfl
  · obtain ⟨_, _, h3, h4⟩ := (canon_mem (dbl l) t).1 (by rw [h]; simp)
    rw [dbl_cof] at h3
    exact absurd h3 h4
def rotL (l : List Tm) (r : Nat) : List Tm := l.drop r ++ l.take r
theorem rotL_len (l : List Tm) (r : Nat) : (rotL l r).length = l.length := by
  unfold rotL
  rw [List.length_append, List.length_drop, List.length_take]
  omega
theorem rotL_cof (l : List Tm) (r : Nat) (i : Int) : cof (rotL l r) i = cof l i := by
  unfold rotL
  have e : cof (l.take r ++ l.drop r) i = cof l i := by rw [List.take_append_drop]
  rw [cof_append] at e ⊢
  omega
theorem rotL_at {l : List Tm} {r k : Nat} (hk : k < l.length) (hr : r < l.length) (h1 : k < (rotL l r).length) (h2 : (k + r) % l.length < l.length) : (rotL l r)[k] = l[(k + r) % l.length] := by
  unfold rotL at *
  rw [List.getElem_append]
  split
  · rename_i hd
    rw [List.length_drop] at hd
    rw [List.getElem_drop]
    congr 1
    rw [Nat.mod_eq_of_lt (by omega)]
    omega
  · rename_i hd
    rw [List.length_drop] at hd
    rw [List.getElem_take]
    congr 1
    rw [List.length_drop, Nat.mod_eq_sub_mod (by omega), Nat.mod_eq_of_lt (by omega)]
    omega
theorem rotL_mem {l : List Tm} {r : Nat} {t : Tm} (h : t ∈ rotL l r) : t ∈ l := by
  rcases List.mem_append.1 h with h | h
  · exact List.mem_of_mem_drop h
  · exact List.mem_of_mem_take h
end Go.Proofs.Ytjkkkjikhjfdnaa
