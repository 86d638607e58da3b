import Derived.Test.YtccojifhaoadbaaDoorTk5
namespace Go.Proofs.YtccojifhaoadbaaDoor
open Go.Vc
attribute [local irreducible] JL JC JQ OpWp Con ConN

theorem byteAt_getD (s : ByteArray) (n : Nat) : byteAt s n = (bytesI s).getD n 0 := by
  by_cases h : n < s.size
  · rw [← bytesI_get s n h, List.getD_eq_getElem?_getD, List.getElem?_eq_getElem (by simpa using h)]
    rfl
  · unfold byteAt
    rw [List.getD_eq_getElem?_getD, List.getD_eq_getElem?_getD, List.getElem?_eq_none (by simpa using h), List.getElem?_eq_none (by simpa using h)]
    rfl
theorem byteAt_extract (s : ByteArray) (a j : Nat) : byteAt (s.extract a s.size) j = byteAt s (a + j) := by
  rw [byteAt_getD, byteAt_getD, extract_bytes, List.take_of_length_le (by simp), List.getD_eq_getElem?_getD, List.getD_eq_getElem?_getD, List.getElem?_drop]
theorem extract_extract (s : ByteArray) (a n : Nat) (h : a + n ≤ s.size) : (s.extract a s.size).extract 0 n = s.extract a (a + n) := by
  apply bytesI_inj
  rw [extract_bytes, extract_bytes, extract_bytes, List.drop_zero, List.take_take]
  congr 1
  omega
theorem begins_iff {s t : ByteArray} : begins s t = true ↔ t.size ≤ s.size ∧ s.extract 0 t.size = t := by simp [begins]
theorem SL2_size : ∀ t ∈ SL2, t.size = 2 := by decide
theorem SL1_size : ∀ t ∈ SL1, t.size = 1 := by decide
theorem SG_iff1 : ∀ t ∈ SG, (hasS SL2 t || hasS SL1 t) = true := by decide
theorem SG_iff2 : ∀ t ∈ SL2, hasS SG t = true := by decide
theorem SG_iff3 : ∀ t ∈ SL1, hasS SG t = true := by decide
theorem SG_iff (t : ByteArray) : t ∈ SG ↔ t ∈ SL2 ∨ t ∈ SL1 := by
  constructor
  · intro h
    rcases Bool.or_eq_true_iff.1 (SG_iff1 t h) with h | h
    · exact .inl (hasS_iff.1 h)
    · exact .inr (hasS_iff.1 h)
  · rintro (h | h)
    · exact hasS_iff.1 (SG_iff2 t h)
    · exact hasS_iff.1 (SG_iff3 t h)
theorem rsign_eq (s : ByteArray) : rsign s = s.extract 0 (signLen s) := by
  unfold rsign signLen
  rw [List.find?_append]
  cases h2 : SL2.find? (begins s) with
  | some t =>
    have ht := List.mem_of_find?_eq_some h2
    have hb := begins_iff.1 (List.find?_some h2)
    rw [SL2_size t ht] at hb
    rw [if_pos ⟨hb.1, hasS_iff.2 ((SG_iff _).2 (.inl (by rw [hb.2]; exact ht)))⟩]
    exact hb.2.symm
  | none =>
    have hn2 : ¬ (2 ≤ s.size ∧ hasS SG (s.extract 0 2) = true) := by
      rintro ⟨a, b⟩
      rcases (SG_iff _).1 (hasS_iff.1 b) with h | h
      · have := List.find?_eq_none.1 h2 _ h
        exact this (begins_iff.2 ⟨by rw [SL2_size _ h]; exact a, by rw [SL2_size _ h]⟩)
      · have := SL1_size _ h
        rw [extract_size _ _ _ a] at this
        omega
    rw [if_neg hn2]
    cases h1 : SL1.find? (begins s) with
    | some t =>
      have ht := List.mem_of_find?_eq_some h1
      have hb := begins_iff.1 (List.find?_some h1)
      rw [SL1_size t ht] at hb
      rw [if_pos ⟨hb.1, hasS_iff.2 ((SG_iff _).2 (.inr (by rw [hb.2]; exact ht)))⟩]
      exact hb.2.symm
    | none =>
      have hn1 : ¬ (1 ≤ s.size ∧ hasS SG (s.extract 0 1) = true) := by
        rintro ⟨a, b⟩
        rcases (SG_iff _).1 (hasS_iff.1 b) with h | h
        · have := SL2_size _ h
          rw [extract_size _ _ _ a] at this
          omega
        · have := List.find?_eq_none.1 h1 _ h
          exact this (begins_iff.2 ⟨by rw [SL1_size _ h]; exact a, by rw [SL1_size _ h]⟩)
      rw [if_neg hn1]
      show (⟨#[]⟩ : ByteArray) = s.extract 0 0
      exact ((empty_iff _).2 (by rw [extract_size _ _ _ (Nat.zero_le _)])).symm
end Go.Proofs.YtccojifhaoadbaaDoor
