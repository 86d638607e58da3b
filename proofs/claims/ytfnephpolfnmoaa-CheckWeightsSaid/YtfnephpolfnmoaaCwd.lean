import Derived.Test.YtfnephpolfnmoaaCwb
import Derived.Test.YtfnephpolfnmoaaCwc
namespace Go.Proofs.Ytfnephpolfnmoaa
open Go.Vc
attribute [local irreducible] JL JC JQ OpWp Con ConN

section
variable {L : List Int} {bm bd : Nat} {V A : List ByteArray} {Sh : List Shd}
theorem maker_c (gv : Gv L V A Sh) : ∀ d : Nat, d ≤ 10 → StmtP L bm bd V A Sh d ∧ BlockP L bm bd V A Sh d ∧ LoopP L bm bd V A Sh d
  | 0, h => by
    have h1 : StmtP L bm bd V A Sh 0 := stmt_step gv 0 h (fun d' h => by omega) (fun d' h => by omega)
    have h2 := block_step gv 0 h1
    exact ⟨h1, h2, loop_step gv 0 h h2⟩
  | d + 1, h => by
    obtain ⟨_, g2, g3⟩ := maker_c gv d (by omega)
    have e2 : ∀ d', d + 1 = d' + 1 → BlockP L bm bd V A Sh d' := fun d' e => by
      have e : d' = d := by omega
      subst e
      exact g2
    have e3 : ∀ d', d + 1 = d' + 1 → LoopP L bm bd V A Sh d' := fun d' e => by
      have e : d' = d := by omega
      subst e
      exact g3
    have h1 := stmt_step gv (d + 1) h e2 e3
    have h2 := block_step gv (d + 1) h1
    exact ⟨h1, h2, loop_step gv (d + 1) h h2⟩
end

/-! How many labels there are -/
def cnt : Nat → Nat
  | 0 => 1
  | d + 1 => 1 + 10 * cnt d
theorem cnt_pos (d : Nat) : 1 ≤ cnt d := by cases d <;> simp [cnt]
theorem flat_bd {f : Sm → List Int} {n : Nat} : ∀ {l : List Sm}, (∀ s ∈ l, (f s).length ≤ n) → (l.flatMap f).length ≤ l.length * n
  | [], _ => by simp
  | s :: l, h => by
    have h1 := h s (by simp)
    have h2 := flat_bd (l := l) (fun t ht => h t (by simp [ht]))
    simp only [List.flatMap_cons, List.length_append, List.length_cons, Nat.add_mul, Nat.one_mul]
    omega
theorem rlSelf_len (s : Sm) : (rlSelf s).length ≤ 1 := by unfold rlSelf; split <;> simp
theorem labSelf_len (s : Sm) : (labSelf s).length ≤ 1 := by unfold labSelf; split <;> simp
theorem rl_len : ∀ (d f : Nat) (s : Sm), Shal d s → (rlOne f s).length ≤ cnt d
  | d, 0, s, _ => by simp [rlOne]
  | 0, f + 1, s, h => by
    obtain ⟨_, h1, h2⟩ := h
    have := rlSelf_len s
    simp only [rlOne, h1, h2, List.flatMap_nil, List.append_nil, cnt]
    omega
  | d + 1, f + 1, s, h => by
    have h0 := rlSelf_len s
    have hp := cnt_pos d
    rcases h with ⟨_, h1, h2⟩ | ⟨_, _, h3, h4, h5, h6⟩
    · simp only [rlOne, h1, h2, List.flatMap_nil, List.append_nil, cnt]
      omega
    · have g1 := flat_bd (f := rlOne f) (n := cnt d) (fun t ht => rl_len d f t (h5 t ht))
      have g2 := flat_bd (f := rlOne f) (n := cnt d) (fun t ht => rl_len d f t (h6 t ht))
      have g3 : s.thn.length * cnt d ≤ 5 * cnt d := Nat.mul_le_mul_right _ h3
      have g4 : s.els.length * cnt d ≤ 5 * cnt d := Nat.mul_le_mul_right _ h4
      simp only [rlOne, List.length_append, cnt]
      omega
theorem lab_len : ∀ (d f : Nat) (s : Sm), Shal d s → (labOne f s).length ≤ cnt d
  | d, 0, s, _ => by have := labSelf_len s; have := cnt_pos d; simp only [labOne]; omega
  | 0, f + 1, s, h => by
    obtain ⟨_, h1, h2⟩ := h
    have := labSelf_len s
    simp only [labOne, h1, h2, List.flatMap_nil, List.append_nil, cnt]
    omega
  | d + 1, f + 1, s, h => by
    have h0 := labSelf_len s
    have hp := cnt_pos d
    rcases h with ⟨_, h1, h2⟩ | ⟨_, _, h3, h4, h5, h6⟩
    · simp only [labOne, h1, h2, List.flatMap_nil, List.append_nil, cnt]
      omega
    · have g1 := flat_bd (f := labOne f) (n := cnt d) (fun t ht => lab_len d f t (h5 t ht))
      have g2 := flat_bd (f := labOne f) (n := cnt d) (fun t ht => lab_len d f t (h6 t ht))
      have g3 : s.thn.length * cnt d ≤ 5 * cnt d := Nat.mul_le_mul_right _ h3
      have g4 : s.els.length * cnt d ≤ 5 * cnt d := Nat.mul_le_mul_right _ h4
      simp only [labOne, List.length_append, cnt]
      omega
/-- A body that a maker makes. -/
structure Good (W : Int) (l : List Sm) : Prop where
  len : l.length ≤ 10
  shal : ∀ s ∈ l, Shal 3 s
  weight : weightOf l ≤ W
theorem ifs_len {l : List Sm} (h1 : l.length ≤ 10) (h2 : ∀ s ∈ l, Shal 3 s) : (ifsOf l).length ≤ 11110 := by
  have := flat_bd (f := rlOne 20) (n := 1111) (fun t ht => rl_len 3 20 t (h2 t ht))
  have g : l.length * 1111 ≤ 10 * 1111 := Nat.mul_le_mul_right _ h1
  unfold ifsOf
  omega
theorem labels_len {l : List Sm} (h1 : l.length ≤ 100) (h2 : ∀ s ∈ l, Shal 3 s) : (labelsOf l).length ≤ 111100 := by
  have := flat_bd (f := labOne 19) (n := 1111) (fun t ht => lab_len 3 19 t (h2 t ht))
  have g : l.length * 1111 ≤ 100 * 1111 := Nat.mul_le_mul_right _ h1
  unfold labelsOf
  omega
end Go.Proofs.Ytfnephpolfnmoaa
