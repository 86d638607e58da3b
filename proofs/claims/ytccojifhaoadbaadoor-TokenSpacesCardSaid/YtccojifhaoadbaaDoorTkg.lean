import Derived.Test.YtccojifhaoadbaaDoorTkc
namespace Go.Proofs.YtccojifhaoadbaaDoor
open Go.Vc

/-! What blanks do, and what words scan to -/
def isW (n : Int) : Prop := n = 32 ∨ n = 9 ∨ n = 10
theorem isW_not {n : Int} (h : isW n) : isLD n = false ∧ isD n = false ∧ isL n = false := by
  rcases h with rfl | rfl | rfl <;> decide
theorem bytesI_app (s t : ByteArray) : bytesI (s ++ t) = bytesI s ++ bytesI t := by simp [bytesI]
theorem bytesI_full (s : ByteArray) (a : Nat) : bytesI (s.extract a s.size) = (bytesI s).drop a := by
  rw [extract_bytes, List.take_of_length_le (by rw [List.length_drop, bytesI_len]; omega)]
theorem ext_ext (s : ByteArray) (a n : Nat) : (s.extract a s.size).extract n (s.extract a s.size).size = s.extract (a + n) s.size := by
  apply bytesI_inj
  rw [bytesI_full, bytesI_full, bytesI_full, List.drop_drop]
theorem ext_app (x r : ByteArray) (n : Nat) (h : n ≤ x.size) : (x ++ r).extract n (x ++ r).size = x.extract n x.size ++ r := by
  apply bytesI_inj
  rw [bytesI_full, bytesI_app, bytesI_app, bytesI_full, List.drop_append_of_le_length (by rw [bytesI_len]; exact h)]
theorem ext_app_right (x r : ByteArray) : (x ++ r).extract x.size (x ++ r).size = r := by
  apply bytesI_inj
  rw [bytesI_full, bytesI_app, List.drop_append, List.drop_of_length_le (by rw [bytesI_len]; exact Nat.le_refl _), bytesI_len]
  simp
theorem byteAt_app (x r : ByteArray) (n : Nat) (h : n < x.size) : byteAt (x ++ r) n = byteAt x n := by
  rw [byteAt_getD, byteAt_getD, bytesI_app, List.getD_eq_getElem?_getD, List.getD_eq_getElem?_getD, List.getElem?_append_left (by rw [bytesI_len]; exact h)]
theorem byteAt_app_right (x r : ByteArray) (n : Nat) : byteAt (x ++ r) (x.size + n) = byteAt r n := by
  rw [byteAt_getD, byteAt_getD, bytesI_app, List.getD_eq_getElem?_getD, List.getD_eq_getElem?_getD, List.getElem?_append_right (by rw [bytesI_len]; omega), bytesI_len]
  congr 2
  omega
theorem pre_app (x r : ByteArray) (n : Nat) (h : n ≤ x.size) : (x ++ r).extract 0 n = x.extract 0 n := by
  apply bytesI_inj
  rw [extract_bytes, extract_bytes, bytesI_app, List.drop_zero, List.drop_zero, List.take_append_of_le_length (by rw [bytesI_len]; omega)]
theorem pre_all (x : ByteArray) : x.extract 0 x.size = x := by
  apply bytesI_inj
  rw [bytesI_full, List.drop_zero]
theorem takeWhile_app {α : Type} {p : α → Bool} : ∀ (l m : List α), (∀ a ∈ m.head?, p a = false) → ((l ++ m).takeWhile p).length = (l.takeWhile p).length
  | [], [], _ => rfl
  | [], a :: m, h => by simp [h a (by simp)]
  | a :: l, m, h => by
    have := takeWhile_app l m h
    rw [List.cons_append, List.takeWhile_cons, List.takeWhile_cons]
    split
    · simp [this]
    · rfl
/-- A text that is empty or begins with a blank. -/
def blankLed (r : ByteArray) : Prop := r.size = 0 ∨ isW (byteAt r 0)
theorem head_bytes {r : ByteArray} {n : Int} (h : n ∈ (bytesI r).head?) : 0 < r.size ∧ n = byteAt r 0 := by
  rw [byteAt_getD]
  cases hb : bytesI r with
  | nil => rw [hb] at h; simp at h
  | cons a l =>
    rw [hb] at h
    simp only [List.head?_cons, Option.mem_def, Option.some.injEq] at h
    refine ⟨by rw [← bytesI_len, hb]; simp, by simp [h]⟩
theorem runLen_app (p : Int → Bool) (hp : ∀ n, isW n → p n = false) (x r : ByteArray) (hr : blankLed r) : runLen p (x ++ r) = runLen p x := by
  unfold runLen
  rw [bytesI_app]
  refine takeWhile_app _ _ (fun n hn => ?_)
  obtain ⟨h0, rfl⟩ := head_bytes hn
  rcases hr with hr | hr
  · omega
  · exact hp _ hr
theorem SG_blank : ∀ t ∈ SG, (decide (t.size = 2) && (decide (byteAt t 1 = 32) || decide (byteAt t 1 = 9) || decide (byteAt t 1 = 10))) = false := by decide +kernel
theorem signLen_app (x r : ByteArray) (hx : 0 < x.size) (hr : blankLed r) : signLen (x ++ r) = signLen x := by
  have e1 : (1 ≤ x.size + r.size ∧ hasS SG ((x ++ r).extract 0 1) = true) ↔ (1 ≤ x.size ∧ hasS SG (x.extract 0 1) = true) := by
    rw [pre_app _ _ _ hx]
    exact ⟨fun h => ⟨hx, h.2⟩, fun h => ⟨by omega, h.2⟩⟩
  have e2 : (2 ≤ x.size + r.size ∧ hasS SG ((x ++ r).extract 0 2) = true) ↔ (2 ≤ x.size ∧ hasS SG (x.extract 0 2) = true) := by
    by_cases h2 : 2 ≤ x.size
    · rw [pre_app _ _ _ h2]
      exact ⟨fun h => ⟨h2, h.2⟩, fun h => ⟨by omega, h.2⟩⟩
    · have h1 : x.size = 1 := by omega
      refine ⟨?_, fun h => absurd h.1 h2⟩
      rintro ⟨ha, hb⟩
      exfalso
      have hm := SG_blank _ (hasS_iff.1 hb)
      have hsz : ((x ++ r).extract 0 2).size = 2 := by rw [extract_size _ _ _ (by rw [ByteArray.size_append]; omega)]
      have hby : byteAt ((x ++ r).extract 0 2) 1 = byteAt r 0 := by
        rw [byteAt_getD, extract_bytes, bytesI_app, List.drop_zero, byteAt_getD, List.getD_eq_getElem?_getD, List.getD_eq_getElem?_getD, List.getElem?_take_of_lt (by omega), List.getElem?_append_right (by rw [bytesI_len]; omega), bytesI_len, h1]
      rw [decide_eq_true hsz, hby] at hm
      rcases hr with hr | hr
      · omega
      · rcases hr with hr | hr | hr <;> rw [hr] at hm <;> simp at hm
  unfold signLen
  rw [ByteArray.size_append]
  simp only [e1, e2]
theorem nameLen_app (x r : ByteArray) (hx : 0 < x.size) (hr : blankLed r) : nameLen (x ++ r) = nameLen x := by
  unfold nameLen
  rw [ByteArray.size_append, byteAt_app _ _ _ hx, runLen_app isLD (fun n h => (isW_not h).1) _ _ hr]
  by_cases h : isL (byteAt x 0) = true
  · rw [if_pos ⟨by omega, h⟩, if_pos ⟨hx, h⟩]
  · rw [if_neg (fun hh => h hh.2), if_neg (fun hh => h hh.2)]
/-- What begins with a blank behind a text does not change its first token. -/
theorem next_blank (x r : ByteArray) (hx : 0 < x.size) (hr : blankLed r) : nextT (x ++ r) = nextT x := by
  unfold nextT
  rw [nameLen_app x r hx hr, runLen_app isD (fun n h => (isW_not h).2.1) x r hr, signLen_app x r hx hr, pre_app _ _ _ (nameLen_le x), pre_app _ _ _ (runLen_le _ x), pre_app _ _ _ (signLen_le x)]

/-! A scan that succeeds -/
inductive SC : ByteArray → Int → List Tok → Prop
  | nil {x : ByteArray} {line : Int} : x.size = 0 → SC x line []
  | nl {x : ByteArray} {line : Int} {l : List Tok} : 0 < x.size → byteAt x 0 = 10 → SC (x.extract 1 x.size) (line + 1) l → SC x line l
  | sp {x : ByteArray} {line : Int} {l : List Tok} : 0 < x.size → byteAt x 0 = 32 ∨ byteAt x 0 = 9 → SC (x.extract 1 x.size) line l → SC x line l
  | tok {x : ByteArray} {line : Int} {l : List Tok} {t : Int × Int × ByteArray} {n : Nat} : 0 < x.size → ¬ isW (byteAt x 0) → nextT x = (t, n) → n ≠ 0 → SC (x.extract n x.size) line l → SC x line (⟨t.1, t.2.1, line, t.2.2⟩ :: l)
theorem byte0 (s : ByteArray) (a : Nat) : byteAt (s.extract a s.size) 0 = byteAt s a := by rw [byteAt_extract, Nat.add_zero]
theorem size0 (s : ByteArray) (a : Nat) : (s.extract a s.size).size = s.size - a := extract_size _ _ _ (Nat.le_refl _)
theorem sc_to {x : ByteArray} {line : Int} {l : List Tok} (h : SC x line l) : ∀ (s : ByteArray) (a : Nat) (out : List Tok), a ≤ s.size → x = s.extract a s.size → scanGo s a line out = (out ++ l, 0, 0) := by
  induction h with
  | nil h0 =>
    intro s a out ha hx
    rw [hx, size0] at h0
    rw [scanGo, dif_neg (by omega), List.append_nil]
  | nl h0 hb _ ih =>
    intro s a out ha hx
    subst hx
    rw [size0] at h0
    rw [byte0] at hb
    rw [scanGo, dif_pos (by omega), if_pos hb]
    exact ih s (a + 1) out (by omega) (ext_ext s a 1)
  | sp h0 hb _ ih =>
    intro s a out ha hx
    subst hx
    rw [size0] at h0
    rw [byte0] at hb
    rw [scanGo, dif_pos (by omega), if_neg (by omega), if_pos hb]
    exact ih s (a + 1) out (by omega) (ext_ext s a 1)
  | tok h0 hb hn hne _ ih =>
    intro s a out ha hx
    subst hx
    have hle := nextT_le (s.extract a s.size)
    rw [hn] at hle
    rw [size0] at h0 hle
    rw [byte0] at hb
    unfold isW at hb
    rw [scanGo_tok (by omega) (by omega) (by omega) hn hne, ih s _ _ (by dsimp only at hle; omega) (ext_ext s a _), List.append_assoc]
    rfl
theorem sc_of (s : ByteArray) : ∀ (m a : Nat) (line : Int) (out : List Tok), s.size - a ≤ m → a ≤ s.size → (scanGo s a line out).2.2 = 0 → ∃ l, scanGo s a line out = (out ++ l, 0, 0) ∧ SC (s.extract a s.size) line l
  | m, a, line, out, hm, ha, h => by
    by_cases hlt : a < s.size
    · obtain ⟨m, rfl⟩ : ∃ k, m = k + 1 := ⟨m - 1, by omega⟩
      rw [scanGo, dif_pos hlt] at h ⊢
      by_cases h10 : byteAt s a = 10
      · rw [if_pos h10] at h ⊢
        obtain ⟨l, e, hs⟩ := sc_of s m (a + 1) (line + 1) out (by omega) (by omega) h
        exact ⟨l, e, .nl (by rw [size0]; omega) (by rw [byte0]; exact h10) (by rw [ext_ext]; exact hs)⟩
      · rw [if_neg h10] at h ⊢
        by_cases h32 : byteAt s a = 32 ∨ byteAt s a = 9
        · rw [if_pos h32] at h ⊢
          obtain ⟨l, e, hs⟩ := sc_of s m (a + 1) line out (by omega) (by omega) h
          exact ⟨l, e, .sp (by rw [size0]; omega) (by rw [byte0]; exact h32) (by rw [ext_ext]; exact hs)⟩
        · rw [if_neg h32] at h ⊢
          have hle := nextT_le (s.extract a s.size)
          rw [size0] at hle
          by_cases h0 : (nextT (s.extract a s.size)).2 = 0
          · rw [dif_pos h0] at h
            cases h
          · rw [dif_neg h0] at h ⊢
            obtain ⟨l, e, hs⟩ := sc_of s m _ line _ (by omega) (by omega) h
            refine ⟨_ :: l, by rw [e, List.append_assoc]; rfl, .tok (n := (nextT (s.extract a s.size)).2) (t := (nextT (s.extract a s.size)).1) (by rw [size0]; omega) (by rw [byte0]; unfold isW; omega) rfl h0 (by rw [ext_ext]; exact hs)⟩
    · refine ⟨[], by rw [scanGo, dif_neg hlt, List.append_nil], .nil (by rw [size0]; omega)⟩
/-- Texts of few bytes. -/
theorem scan_of {s : ByteArray} (h : (scan s).2.2 = 0) : ∃ l, scan s = (l, 0, 0) ∧ SC s 1 l := by
  unfold scan at h ⊢
  by_cases hs : 8192 < s.size
  · rw [if_pos hs] at h; cases h
  · rw [if_neg hs] at h ⊢
    obtain ⟨l, e, hl⟩ := sc_of s s.size 0 1 [] (by omega) (by omega) h
    rw [pre_all] at hl
    exact ⟨l, e, hl⟩
theorem scan_to {s : ByteArray} {l : List Tok} (hs : s.size ≤ 8192) (h : SC s 1 l) : scan s = (l, 0, 0) := by
  unfold scan
  rw [if_neg (by omega), sc_to h s 0 [] (Nat.zero_le _) (pre_all s).symm]
  rfl
end Go.Proofs.YtccojifhaoadbaaDoor
