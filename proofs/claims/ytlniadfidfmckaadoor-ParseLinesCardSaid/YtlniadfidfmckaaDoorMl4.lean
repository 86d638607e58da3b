import Derived.Test.YtlniadfidfmckaaDoorMl3
section
namespace Go.Proofs.YtlniadfidfmckaaDoor
open Go.Vc
set_option maxHeartbeats 1000000

abbrev nlB : ByteArray := ⟨#[10]⟩
def cntB (x : ByteArray) : Nat := (bytesI x).count 10
theorem cntB_app (x y : ByteArray) : cntB (x ++ y) = cntB x + cntB y := by unfold cntB; rw [bytesI_app, List.count_append]
theorem bytesI_pre (s : ByteArray) (n : Nat) : bytesI (s.extract 0 n) = (bytesI s).take n := by simp [bytesI, List.map_take]
theorem cut_at (x : ByteArray) (n : Nat) : cntB x = cntB (x.extract 0 n) + cntB (x.extract n x.size) := by
  unfold cntB
  rw [bytesI_pre, bytesI_full, ← List.count_append, List.take_append_drop]
theorem SG_nonl : ∀ t ∈ SG, (bytesI t).all (fun c => decide (c ≠ 10)) = true := by decide +kernel
theorem hasS_nonl {t : ByteArray} (h : hasS SG t = true) : ∀ c ∈ bytesI t, c ≠ 10 := by
  intro c hc
  have := List.all_eq_true.1 (SG_nonl t (hasS_iff.1 h)) c hc
  simpa using this
/-- No token has a line's end in it. -/
theorem tok_nonl {x : ByteArray} {t : Int × Int × ByteArray} {n : Nat} (h : nextT x = (t, n)) : cntB (x.extract 0 n) = 0 := by
  have key : ∀ c ∈ (bytesI x).take n, c ≠ 10 := by
    have run : ∀ p : Int → Bool, p 10 = false → ∀ c ∈ (bytesI x).take (runLen p x), c ≠ 10 := by
      intro p hp c hc e
      have := take_takeWhile (bytesI x) c (by unfold runLen at hc; exact hc)
      rw [e, hp] at this
      cases this
    unfold nextT at h
    by_cases h1 : 0 < nameLen x
    · rw [if_pos h1] at h
      by_cases h2 : 12 < nameLen x
      · rw [if_pos h2] at h
        cases h
        simp
      · rw [if_neg h2] at h
        cases h
        have e : nameLen x = runLen isLD x := by
          unfold nameLen at h1 ⊢
          split
          · rfl
          · rename_i hh; rw [if_neg hh] at h1; omega
        rw [e]
        exact run isLD (by decide)
    · rw [if_neg h1] at h
      by_cases h2 : 0 < runLen isD x
      · rw [if_pos h2] at h
        split at h
        · cases h; simp
        · cases h; exact run isD (by decide)
      · rw [if_neg h2] at h
        cases h
        unfold signLen
        split
        · rename_i hh
          rw [← bytesI_pre]
          exact hasS_nonl hh.2
        split
        · rename_i hh
          rw [← bytesI_pre]
          exact hasS_nonl hh.2
        · simp
  unfold cntB
  rw [bytesI_pre]
  exact List.count_eq_zero.2 (fun hm => key 10 hm rfl)
theorem one_nl {x : ByteArray} (h0 : 0 < x.size) (hb : byteAt x 0 = 10) : cntB (x.extract 0 1) = 1 := by
  unfold cntB
  rw [bytesI_pre]
  cases hx : bytesI x with
  | nil => have := bytesI_len x; rw [hx] at this; simp at this; omega
  | cons c l =>
    rw [byteAt_getD, hx] at hb
    simp at hb
    simp [hb]
theorem one_sp {x : ByteArray} (hb : byteAt x 0 = 32 ∨ byteAt x 0 = 9) : cntB (x.extract 0 1) = 0 := by
  unfold cntB
  rw [bytesI_pre]
  cases hx : bytesI x with
  | nil => simp
  | cons c l =>
    rw [byteAt_getD, hx] at hb
    simp at hb
    rcases hb with e | e <;> simp [e]
/-- The lines of tokens. -/
theorem sc_lines {x : ByteArray} {line : Int} {l : List Tok} (h : SC x line l) : ∀ t ∈ l, line ≤ t.line ∧ t.line ≤ line + cntB x := by
  induction h with
  | nil _ => simp
  | @nl x line l h0 hb _ ih =>
    intro t ht
    have := ih t ht
    have e1 := cut_at x 1
    have e2 := one_nl h0 hb
    omega
  | @sp x line l h0 hb _ ih =>
    intro t ht
    have := ih t ht
    have e1 := cut_at x 1
    omega
  | @tok x line l t n h0 hb hn hne _ ih =>
    intro t' ht
    have e1 := cut_at x n
    rcases List.mem_cons.1 ht with rfl | ht
    · exact ⟨Int.le_refl _, by dsimp only; omega⟩
    · have := ih t' ht
      omega
/-- A scan that fails, at a line. -/
inductive SE : ByteArray → Int → Int → Prop
  | nl {x : ByteArray} {line n : Int} : 0 < x.size → byteAt x 0 = 10 → SE (x.extract 1 x.size) (line + 1) n → SE x line n
  | sp {x : ByteArray} {line n : Int} : 0 < x.size → byteAt x 0 = 32 ∨ byteAt x 0 = 9 → SE (x.extract 1 x.size) line n → SE x line n
  | tok {x : ByteArray} {line m : Int} {t : Int × Int × ByteArray} {n : Nat} : 0 < x.size → ¬ isW (byteAt x 0) → nextT x = (t, n) → n ≠ 0 → SE (x.extract n x.size) line m → SE x line m
  | bad {x : ByteArray} {line : Int} : 0 < x.size → ¬ isW (byteAt x 0) → (nextT x).2 = 0 → SE x line line
theorem se_of (s : ByteArray) : ∀ (m a : Nat) (line : Int) (out : List Tok), s.size - a ≤ m → a ≤ s.size → (scanGo s a line out).2.2 ≠ 0 → ∃ n, scanGo s a line out = ([], n, 1) ∧ SE (s.extract a s.size) line n
  | m, a, line, out, hm, ha, h => by
    by_cases hlt : a < s.size
    · obtain ⟨m, rfl⟩ : ∃ k, m = k + 1 := ⟨m - 1, by omega⟩
      rw [scanGo, dif_pos hlt] at h ⊢
      by_cases h10 : byteAt s a = 10
      · rw [if_pos h10] at h ⊢
        obtain ⟨l, e, hs⟩ := se_of s m (a + 1) (line + 1) out (by omega) (by omega) h
        exact ⟨l, e, .nl (by rw [size0]; omega) (by rw [byte0]; exact h10) (by rw [ext_ext]; exact hs)⟩
      · rw [if_neg h10] at h ⊢
        by_cases h32 : byteAt s a = 32 ∨ byteAt s a = 9
        · rw [if_pos h32] at h ⊢
          obtain ⟨l, e, hs⟩ := se_of s m (a + 1) line out (by omega) (by omega) h
          exact ⟨l, e, .sp (by rw [size0]; omega) (by rw [byte0]; exact h32) (by rw [ext_ext]; exact hs)⟩
        · rw [if_neg h32] at h ⊢
          have hle := nextT_le (s.extract a s.size)
          rw [size0] at hle
          by_cases h0 : (nextT (s.extract a s.size)).2 = 0
          · rw [dif_pos h0]
            exact ⟨line, rfl, .bad (by rw [size0]; omega) (by rw [byte0]; unfold isW; omega) h0⟩
          · rw [dif_neg h0] at h ⊢
            obtain ⟨l, e, hs⟩ := se_of s m _ line _ (by omega) (by omega) h
            refine ⟨l, e, .tok (n := (nextT (s.extract a s.size)).2) (t := (nextT (s.extract a s.size)).1) (by rw [size0]; omega) (by rw [byte0]; unfold isW; omega) rfl h0 (by rw [ext_ext]; exact hs)⟩
    · rw [scanGo, dif_neg hlt] at h
      exact absurd rfl h
theorem se_to {x : ByteArray} {line n : Int} (h : SE x line n) : ∀ (s : ByteArray) (a : Nat) (out : List Tok), a ≤ s.size → x = s.extract a s.size → scanGo s a line out = ([], n, 1) := by
  induction h with
  | nl h0 hb _ ih =>
    intro s a out ha hx
    subst hx
    rw [size0] at h0
    rw [byte0] at hb
    rw [scanGo, dif_pos (by omega), if_pos hb]
    exact ih s (a + 1) out (by omega) (ext_ext s a 1)
  | sp h0 hb _ ih =>
    intro s a out ha hx
    subst hx
    rw [size0] at h0
    rw [byte0] at hb
    rw [scanGo, dif_pos (by omega), if_neg (by omega), if_pos hb]
    exact ih s (a + 1) out (by omega) (ext_ext s a 1)
  | tok h0 hb hn hne _ ih =>
    intro s a out ha hx
    subst hx
    have hle := nextT_le (s.extract a s.size)
    rw [hn] at hle
    rw [size0] at h0 hle
    rw [byte0] at hb
    unfold isW at hb
    rw [scanGo_tok2 (by omega) (by omega) (by omega) hn hne, ih s _ _ (by dsimp only at hle; omega) (ext_ext s a _)]
  | bad h0 hb hn =>
    intro s a out ha hx
    subst hx
    rw [size0] at h0
    rw [byte0] at hb
    unfold isW at hb
    rw [scanGo, dif_pos (by omega), if_neg (by omega), if_neg (by omega), dif_pos hn]
theorem se_lines {x : ByteArray} {line n : Int} (h : SE x line n) : line ≤ n ∧ n ≤ line + cntB x := by
  induction h with
  | @nl x line n h0 hb _ ih =>
    have e1 := cut_at x 1
    have e2 := one_nl h0 hb
    omega
  | @sp x line n h0 hb _ ih =>
    have e1 := cut_at x 1
    omega
  | @tok x line m t n h0 hb hn hne _ ih =>
    have e1 := cut_at x n
    omega
  | bad _ _ _ => exact ⟨Int.le_refl _, by omega⟩
theorem led_nl (Y : ByteArray) : blankLed (nlB ++ Y) := by
  refine .inr ?_
  rw [byteAt_app _ _ _ (by show 0 < 1; omega), byteAt_getD]
  exact .inr (.inr rfl)
theorem nl_head (Y : ByteArray) : byteAt (nlB ++ Y) 0 = 10 ∧ 0 < (nlB ++ Y).size ∧ (nlB ++ Y).extract 1 (nlB ++ Y).size = Y := by
  refine ⟨?_, ?_, ?_⟩
  · rw [byteAt_app _ _ _ (by show 0 < 1; omega), byteAt_getD]
    rfl
  · rw [ByteArray.size_append, one_size]; omega
  · exact ext_app_right nlB Y
theorem emp_app (X Y : ByteArray) (h : X.size = 0) : X ++ Y = Y := by
  rw [(empty_iff X).2 h]
  exact bytesI_inj (by rw [bytesI_app]; rfl)
/-- A text is scanned line by line. -/
theorem sc_split {z : ByteArray} {line : Int} {l : List Tok} (h : SC z line l) : ∀ (X Y : ByteArray), z = X ++ (nlB ++ Y) → ∃ lX lY line', l = lX ++ lY ∧ SC X line lX ∧ line + cntB X + 1 ≤ line' ∧ SC Y line' lY := by
  induction h with
  | @nil z line h0 =>
    intro X Y e
    have := congrArg ByteArray.size e
    rw [ByteArray.size_append, ByteArray.size_append, one_size] at this
    omega
  | @nl z line l h0 hb hs ih =>
    intro X Y e
    subst e
    by_cases hX : X.size = 0
    · rw [emp_app X _ hX] at hs
      rw [(nl_head Y).2.2] at hs
      refine ⟨[], l, line + 1, rfl, .nil hX, ?_, hs⟩
      rw [(empty_iff X).2 hX, show cntB ⟨#[]⟩ = 0 from rfl]
      omega
    · rw [byteAt_app _ _ _ (by omega)] at hb
      rw [ext_app _ _ _ (by omega)] at ih
      obtain ⟨lX, lY, line', e, h1, h2, h3⟩ := ih _ Y rfl
      refine ⟨lX, lY, line', e, .nl (by omega) hb h1, ?_, h3⟩
      have e1 := cut_at X 1
      have e2 := one_nl (by omega) hb
      omega
  | @sp z line l h0 hb hs ih =>
    intro X Y e
    subst e
    by_cases hX : X.size = 0
    · rw [emp_app X _ hX, (nl_head Y).1] at hb
      omega
    · rw [byteAt_app _ _ _ (by omega)] at hb
      rw [ext_app _ _ _ (by omega)] at ih
      obtain ⟨lX, lY, line', e, h1, h2, h3⟩ := ih _ Y rfl
      refine ⟨lX, lY, line', e, .sp (by omega) hb h1, ?_, h3⟩
      have e1 := cut_at X 1
      have e2 := one_sp hb
      omega
  | @tok z line l t n h0 hb hn hne hs ih =>
    intro X Y e
    subst e
    by_cases hX : X.size = 0
    · rw [emp_app X _ hX, (nl_head Y).1] at hb
      exact absurd (.inr (.inr rfl)) hb
    · rw [byteAt_app _ _ _ (by omega)] at hb
      rw [next_blank _ _ (by omega) (led_nl Y)] at hn
      have hle := nextT_le X
      rw [hn] at hle
      dsimp only at hle
      rw [ext_app _ _ _ hle] at ih
      obtain ⟨lX, lY, line', e, h1, h2, h3⟩ := ih _ Y rfl
      refine ⟨_ :: lX, lY, line', by rw [e]; rfl, .tok (by omega) hb hn hne h1, ?_, h3⟩
      have e1 := cut_at X n
      have e2 := tok_nonl hn
      omega
theorem sc_join {X : ByteArray} {line : Int} {lX : List Tok} (h : SC X line lX) {W : ByteArray} {L : List (Int × Int × ByteArray)} (hW : PX W L) : ∃ lW, SC (X ++ (nlB ++ W)) line (lX ++ lW) := by
  induction h with
  | @nil x line h0 =>
    obtain ⟨lW, hw, _⟩ := hW (line + 1)
    rw [emp_app x _ h0]
    obtain ⟨g1, g2, g3⟩ := nl_head W
    exact ⟨lW, .nl g2 g1 (by rw [g3]; exact hw)⟩
  | @nl x line l h0 hb hs ih =>
    obtain ⟨lW, hw⟩ := ih
    exact ⟨lW, .nl (by rw [ByteArray.size_append]; omega) (by rw [byteAt_app _ _ _ h0]; exact hb) (by rw [ext_app _ _ _ (by omega)]; exact hw)⟩
  | @sp x line l h0 hb hs ih =>
    obtain ⟨lW, hw⟩ := ih
    exact ⟨lW, .sp (by rw [ByteArray.size_append]; omega) (by rw [byteAt_app _ _ _ h0]; exact hb) (by rw [ext_app _ _ _ (by omega)]; exact hw)⟩
  | @tok x line l t n h0 hb hn hne hs ih =>
    obtain ⟨lW, hw⟩ := ih
    have hle := nextT_le x
    rw [hn] at hle
    exact ⟨lW, .tok (by rw [ByteArray.size_append]; omega) (by rw [byteAt_app _ _ _ h0]; exact hb) (by rw [next_blank _ _ h0 (led_nl W)]; exact hn) hne (by rw [ext_app _ _ _ hle]; exact hw)⟩
theorem se_join {z : ByteArray} {line n : Int} (h : SE z line n) : ∀ (X Y W : ByteArray), z = X ++ (nlB ++ Y) → n ≤ line + cntB X → SE (X ++ (nlB ++ W)) line n := by
  induction h with
  | @nl z line n h0 hb hs ih =>
    intro X Y W e hle
    subst e
    by_cases hX : X.size = 0
    · have h1 := (se_lines hs).1
      rw [(empty_iff X).2 hX, show cntB ⟨#[]⟩ = 0 from rfl] at hle
      omega
    · rw [byteAt_app _ _ _ (by omega)] at hb
      rw [ext_app _ _ _ (by omega)] at ih
      have e1 := cut_at X 1
      have e2 := one_nl (by omega) hb
      have h1 := ih _ Y W rfl (by omega)
      exact .nl (by rw [ByteArray.size_append]; omega) (by rw [byteAt_app _ _ _ (by omega)]; exact hb) (by rw [ext_app _ _ _ (by omega)]; exact h1)
  | @sp z line n h0 hb hs ih =>
    intro X Y W e hle
    subst e
    by_cases hX : X.size = 0
    · rw [emp_app X _ hX, (nl_head Y).1] at hb
      omega
    · rw [byteAt_app _ _ _ (by omega)] at hb
      rw [ext_app _ _ _ (by omega)] at ih
      have e1 := cut_at X 1
      have e2 := one_sp hb
      have h1 := ih _ Y W rfl (by omega)
      exact .sp (by rw [ByteArray.size_append]; omega) (by rw [byteAt_app _ _ _ (by omega)]; exact hb) (by rw [ext_app _ _ _ (by omega)]; exact h1)
  | @tok z line m t n h0 hb hn hne hs ih =>
    intro X Y W e hle2
    subst e
    by_cases hX : X.size = 0
    · rw [emp_app X _ hX, (nl_head Y).1] at hb
      exact absurd (.inr (.inr rfl)) hb
    · rw [byteAt_app _ _ _ (by omega)] at hb
      rw [next_blank _ _ (by omega) (led_nl Y)] at hn
      have hle := nextT_le X
      rw [hn] at hle
      dsimp only at hle
      rw [ext_app _ _ _ hle] at ih
      have e1 := cut_at X n
      have e2 := tok_nonl hn
      have h1 := ih _ Y W rfl (by omega)
      exact .tok (by rw [ByteArray.size_append]; omega) (by rw [byteAt_app _ _ _ (by omega)]; exact hb) (by rw [next_blank _ _ (by omega) (led_nl W)]; exact hn) hne (by rw [ext_app _ _ _ hle]; exact h1)
  | @bad z line h0 hb hn =>
    intro X Y W e hle
    subst e
    by_cases hX : X.size = 0
    · rw [emp_app X _ hX, (nl_head Y).1] at hb
      exact absurd (.inr (.inr rfl)) hb
    · rw [byteAt_app _ _ _ (by omega)] at hb
      rw [next_blank _ _ (by omega) (led_nl Y)] at hn
      exact .bad (by rw [ByteArray.size_append]; omega) (by rw [byteAt_app _ _ _ (by omega)]; exact hb) (by rw [next_blank _ _ (by omega) (led_nl W)]; exact hn)
/-- The last token is at least on the line of any byte that is no blank. -/
theorem sc_last {x : ByteArray} {line : Int} {l : List Tok} (h : SC x line l) : ∀ j, j < x.size → ¬ isW (byteAt x j) → ∃ t, l[l.length - 1]? = some t ∧ line + cntB (x.extract 0 j) ≤ t.line := by
  induction h with
  | @nil x line h0 => intro j hj; omega
  | @nl x line l h0 hb hs ih =>
    intro j hj hw
    cases j with
    | zero => exact absurd (.inr (.inr hb)) hw
    | succ j =>
      obtain ⟨t, h1, h2⟩ := ih j (by rw [size0]; omega) (by rw [byteAt_extract, show 1 + j = j + 1 by omega]; exact hw)
      refine ⟨t, h1, ?_⟩
      have e2 := one_nl h0 hb
      have e3 : cntB (x.extract 0 (j + 1)) = cntB (x.extract 0 1) + cntB ((x.extract 1 x.size).extract 0 j) := by
        unfold cntB
        rw [bytesI_pre, bytesI_pre, bytesI_pre, bytesI_full, ← List.count_append, show j + 1 = 1 + j by omega, List.take_add]
      omega
  | @sp x line l h0 hb hs ih =>
    intro j hj hw
    cases j with
    | zero => exact absurd (by unfold isW; omega) hw
    | succ j =>
      obtain ⟨t, h1, h2⟩ := ih j (by rw [size0]; omega) (by rw [byteAt_extract, show 1 + j = j + 1 by omega]; exact hw)
      refine ⟨t, h1, ?_⟩
      have e2 := one_sp hb
      have e3 : cntB (x.extract 0 (j + 1)) = cntB (x.extract 0 1) + cntB ((x.extract 1 x.size).extract 0 j) := by
        unfold cntB
        rw [bytesI_pre, bytesI_pre, bytesI_pre, bytesI_full, ← List.count_append, show j + 1 = 1 + j by omega, List.take_add]
      omega
  | @tok x line l t n h0 hb hn hne hs ih =>
    intro j hj hw
    have e2 := tok_nonl hn
    by_cases hjn : j < n
    · have e3 : cntB (x.extract 0 j) = 0 := by
        unfold cntB at e2 ⊢
        rw [bytesI_pre] at e2 ⊢
        rw [List.count_eq_zero] at e2 ⊢
        intro hm
        refine e2 ?_
        rw [← Nat.min_eq_left (Nat.le_of_lt hjn), ← List.take_take] at hm
        exact List.mem_of_mem_take hm
      cases l with
      | nil => exact ⟨_, rfl, by dsimp only; omega⟩
      | cons u l =>
        have hne : (⟨t.1, t.2.1, line, t.2.2⟩ :: u :: l : List Tok)[(⟨t.1, t.2.1, line, t.2.2⟩ :: u :: l : List Tok).length - 1]? = some ((u :: l)[(u :: l).length - 1]'(by simp)) := by
          simp
        refine ⟨_, hne, ?_⟩
        have := (sc_lines hs _ (List.getElem_mem (show (u :: l).length - 1 < (u :: l).length by simp))).1
        omega
    · obtain ⟨t', h1, h2⟩ := ih (j - n) (by rw [size0]; omega) (by rw [byteAt_extract, show n + (j - n) = j by omega]; exact hw)
      have hl0 : 0 < l.length := by
        cases l with
        | nil => simp at h1
        | cons _ _ => simp
      refine ⟨t', ?_, ?_⟩
      · rw [List.length_cons, Nat.add_sub_cancel, show l.length = (l.length - 1) + 1 by omega, List.getElem?_cons_succ]
        exact h1
      · have e3 : cntB (x.extract 0 j) = cntB (x.extract 0 n) + cntB ((x.extract n x.size).extract 0 (j - n)) := by
          unfold cntB
          rw [bytesI_pre, bytesI_pre, bytesI_pre, bytesI_full, ← List.count_append, show j = n + (j - n) by omega, List.take_add, show n + (j - n) - n = j - n by omega]
        omega
/-- Line and error of a text. -/
theorem scan_er {b : ByteArray} (hb : b.size ≤ 8192) (h : (scan b).2.2 ≠ 0) : ∃ n, scan b = ([], n, 1) ∧ SE b 1 n := by
  unfold scan at h ⊢
  rw [if_neg (by omega)] at h ⊢
  obtain ⟨n, e, hl⟩ := se_of b b.size 0 1 [] (by omega) (by omega) h
  rw [pre_all] at hl
  exact ⟨n, e, hl⟩
theorem lineAt_in {x : ByteArray} {l : List Tok} (h : SC x 1 l) (p : Nat) : 1 ≤ lineAt l p ∧ lineAt l p ≤ 1 + cntB x := by
  unfold lineAt
  split
  · rename_i t ht
    exact sc_lines h t (List.mem_of_getElem? ht)
  · omega
theorem lines_ok {b : ByteArray} (hb : b.size ≤ 8192) : ((parseF b).2.2 = 0 → (parseF b).2.1 = 0) ∧ ((parseF b).2.2 ≠ 0 → 1 ≤ (parseF b).2.1 ∧ (parseF b).2.1 ≤ 1 + cntB b) := by
  unfold parseF
  by_cases he : (scan b).2.2 = 0
  · rw [if_pos he]
    obtain ⟨l, e, hs⟩ := scan_of he
    rw [e]
    dsimp only
    cases hp : progG l with
    | ok p c => exact ⟨fun _ => rfl, fun h => absurd rfl h⟩
    | er c p =>
      dsimp only
      refine ⟨fun h => ?_, fun _ => lineAt_in hs p⟩
      have := progG_code hp
      omega
  · rw [if_neg he]
    obtain ⟨n, e, hs⟩ := scan_er hb he
    rw [e]
    dsimp only
    exact ⟨fun h => (by cases h), fun _ => se_lines hs⟩
theorem lines_law {b : ByteArray} (hb : b.size ≤ 8192) {j : Nat} (hj : j < b.size) (hw : ¬ isW (byteAt b j)) (hc : cntB b ≤ cntB (b.extract 0 j) + 1) {X Y W : ByteArray} {L : List (Int × Int × ByteArray)} (hX : b = X ++ (nlB ++ Y)) (hn : (parseF b).2.1 = (cntB X : Int)) (he : (parseF b).2.2 = 1) (hs : (X ++ (nlB ++ W)).size ≤ 8192) (hW : PX W L) :
    (parseF (X ++ (nlB ++ W))).2 = ((cntB X : Int), 1) := by
  have hcb : cntB b = cntB X + (1 + cntB Y) := by rw [hX, cntB_app, cntB_app]; rfl
  unfold parseF at hn he
  by_cases h0 : (scan b).2.2 = 0
  · rw [if_pos h0] at hn he
    obtain ⟨l, e, hsc⟩ := scan_of h0
    rw [e] at hn he
    dsimp only at hn he
    cases hp : progG l with
    | ok p c => rw [hp] at he; cases he
    | er c p =>
      rw [hp] at hn he
      dsimp only at hn he
      subst he
      obtain ⟨lX, lY, line', el, s1, s2, s3⟩ := sc_split hsc X Y hX
      obtain ⟨lW, hw2⟩ := sc_join s1 hW
      have hpl : p < lX.length := by
        rcases Nat.lt_or_ge p lX.length with h | h
        · exact h
        · exfalso
          have hlst : 1 + (cntB X : Int) ≤ lineAt l p := by
            unfold lineAt
            by_cases hpl : p < l.length
            · rw [show min p (l.length - 1) = p by omega, List.getElem?_eq_getElem hpl]
              dsimp only
              have hm : l[p] ∈ lY := by
                subst el
                rw [List.getElem_append_right (by omega)]
                exact List.getElem_mem _
              have := (sc_lines s3 _ hm).1
              omega
            · obtain ⟨t, h1, h2⟩ := sc_last hsc j hj hw
              rw [show min p (l.length - 1) = l.length - 1 by omega, h1]
              dsimp only
              omega
          omega
      have hag : Ag l (lX ++ lW) lX.length := ⟨fun i hi => by rw [el, List.getElem?_append_left hi, List.getElem?_append_left hi], by rw [el, List.length_append]; omega, by rw [List.length_append]; omega⟩
      obtain ⟨g1, g2⟩ := progG_same hag hpl hp
      unfold parseF
      rw [scan_to hs hw2, if_pos rfl]
      dsimp only
      rw [g1]
      dsimp only
      rw [g2, hn]
  · rw [if_neg h0] at hn he
    obtain ⟨n, e, hse⟩ := scan_er hb h0
    rw [e] at hn
    dsimp only at hn
    subst hn
    have h1 := se_join hse X Y W hX (by omega)
    have e2 : scan (X ++ (nlB ++ W)) = ([], (cntB X : Int), 1) := by
      unfold scan
      rw [if_neg (by omega), se_to h1 _ 0 [] (Nat.zero_le _) (pre_all _).symm]
    unfold parseF
    rw [e2, if_neg (show ¬ (1 : Int) = 0 by decide)]
end Go.Proofs.YtlniadfidfmckaaDoor
end

section
namespace Go.Proofs.YtlniadfidfmckaaDoor
open Go.Vc
set_option maxHeartbeats 4000000
attribute [local irreducible] JL JC JQ OpWp Con ConN

/-- A deck: the list, and some place in it. -/
abbrev DkRow (L : List Int) : List C := [.list (L.map Irow), .ex (fun i : Fin (L.length + 1) => .val (.int .i64 (i.1 : Int)))]
abbrev Dk (b : Nat) (L : List Int) : Ch := .blk b 52 (DkRow L)

theorem gFew_c (a : List Int) : Con Tryd.prog 4 [.cell (.list (a.map Irow))] [] (fun K => K (Bl (decide (a.length ≤ 400))) []) := by
  refine con_intro Tryd.func4 rfl rfl (Nat.le_of_ble_eq_true rfl) (fun c hc => R_ (E_ r_ (T_ (R_ (M_ r_ (o_ r_ (br_ r_ (fun hlen => o_ r_ (cu_ r_ r_ (E_ r_ (T_ (ar_ (jq_ret1 rfl rfl [] rfl (fun K h => ?_))))))))))))))
  have e : decide (a.length ≤ 400) = decide (((a.map Irow).length : Int) ≤ 400) := by simp; omega
  rw [e] at h
  exact h

theorem gMod_c (n k : Int) (hk : 1 ≤ k ∧ k ≤ 1000000000) (_hn : -9223372036854775808 ≤ n ∧ n ≤ 9223372036854775807) : Con Tryd.prog 9 [In .i64 n, In .i64 k] [] (fun K => K (In .i64 (n % k)) []) := by
  have h1 := Int.tmod_lt_of_pos n (show 0 < k by omega)
  have h2 : -k < n.tmod k := by
    have := Int.tmod_lt_of_pos (-n) (show 0 < k by omega)
    rw [Int.neg_tmod] at this
    omega
  have e : (n.tmod k + k) % k = n % k := by
    rw [Int.add_emod_right, Int.tmod_eq_emod]
    split
    · rw [show (n % k - ((0 : Nat) : Int)) = n % k by omega]
      exact Int.emod_emod_of_dvd n (Int.dvd_refl k)
    · rw [Int.sub_emod, show ((k.natAbs : Int)) = k by omega, Int.emod_self, Int.sub_zero, Int.emod_emod_of_dvd _ (Int.dvd_refl k)]
      exact Int.emod_emod_of_dvd n (Int.dvd_refl k)
  refine con_intro Tryd.func9 rfl rfl (Nat.le_of_ble_eq_true rfl) (fun c hc => R_ (E_ r_ (T_ (R_ (M_ r_ (M_ r_ (o_ r_ (ch_ r_ r_ g_ (M_ r_ (o_ r_ (bj_ r_ r_ g_ (M_ r_ (o_ r_ (ow_rem64 r_ r_ g_ g_ (E_ r_ (T_ (ar_ (jq_ret1 rfl rfl [] rfl (fun K h => by rw [← e] at h; exact h)))))))))))))))))))
theorem gNew_c (L : List Int) : Con Tryd.prog 8 [.cell (.list (L.map Irow))] [] (fun K => ∀ b, K (Ptr b) [Dk b L]) := by
  refine con_intro Tryd.func8 rfl rfl (Nat.le_of_ble_eq_true rfl) (fun c hc => R_ (E_ r_ (T_ (R_ (M_ r_ (o_ r_ (bu_ r_ r_ r_ r_ r_ (o_ r_ (ci_ r_ (fun bx => E_ r_ (T_ (ar_ (jq_row 0 (DkRow L) rfl (.cons (.refl _) (.cons (.ex (fun i : Fin (L.length + 1) => .val (.int .i64 (i.1 : Int))) ⟨0, by omega⟩) .nil)) (jq_ret1 rfl rfl [0] rfl (fun K h => h bx)))))))))))))))

/-- A number from 0 to n - 1; 0 where n is less. -/
abbrev Upto (n : Int) : S := .ex (fun i : {i : Int // 0 ≤ i ∧ (i < n ∨ i = 0)} => In .i64 i.1)
theorem gNext_c (L : List Int) (b : Nat) (n : Int) (hL : ∀ x ∈ L, -9223372036854775808 ≤ x ∧ x ≤ 9223372036854775807) (hlen : L.length ≤ 400) (hn : n ≤ 1000000000) :
    Con Tryd.prog 30 [Ptr b, In .i64 n] [Dk b L] (fun K => K (Upto n) [Dk b L]) := by
  refine con_intro Tryd.func30 rfl rfl (Nat.le_of_ble_eq_true rfl) (fun c hc => jc_open 0 rfl (.there .here) (fun i => ?_))
  obtain ⟨i, hi⟩ := i
  dsimp only
  have fin : ∀ k : Nat, k ≤ L.length → RowLe [.list (L.map Irow), .val (.int .i64 (k : Int))] (DkRow L) := fun k hk => .cons (.refl _) (.cons (.ex (fun i : Fin (L.length + 1) => .val (.int .i64 (i.1 : Int))) ⟨k, by omega⟩) .nil)
  have up : ∀ k, 0 ≤ k ∧ (k < n ∨ k = 0) → SLe (In .i64 k) (Upto n) := fun k hk => SLe.ex (fun i : {i : Int // 0 ≤ i ∧ (i < n ∨ i = 0)} => In .i64 i.1) ⟨k, hk⟩
  by_cases hge : (((L.map Irow).length : Nat) : Int) ≤ (i : Int)
  · refine R_ (E_ r_ (T_ (am_ (am_ (ao_ r_ r_ k_ k_ (yM_ r_ (yN_ r_ (yF_ r_ (yL_ 0 r_ (yM_ r_ (yN_ r_ (yF_ r_ (yL_ 0 r_ (aa_ (fun c => br_ r_ (fun hlen => p_)) (aa_ (fun c => cn_ r_ r_ p_) ?_)))))))))))))))
    refine yM_ r_ (ac_ r_ u_ (ac_ r_ u_ (aa_ (fun c => bp_ r_ u_ r_ p_) (ae_ (al_ (jc_cond rfl (fun _ => R_ (E_ r_ (T_ (ar_ (aw_ (jq_row 0 _ rfl (fin i g_) (jq_sle 4 rfl (up 0 g_) (jq_ret1 rfl rfl [0] rfl (fun K h => h))))))))) (fun h => by cases h)))))))
  · by_cases hn1 : n ≤ 1
    · refine R_ (E_ r_ (T_ (am_ (am_ (ao_ r_ r_ k_ k_ (yM_ r_ (yN_ r_ (yF_ r_ (yL_ 0 r_ (yM_ r_ (yN_ r_ (yF_ r_ (yL_ 0 r_ (aa_ (fun c => br_ r_ (fun hlen => p_)) (aa_ (fun c => cn_ r_ r_ p_) ?_)))))))))))))))
      refine yM_ r_ (ab_ r_ w_ (fun c => bd_ r_ p_) (ab_ r_ w_ (fun c => cu_ r_ r_ p_) (aa_ (fun c => bv_ r_ w_ r_ p_) (ae_ (al_ (jc_condd rfl (fun _ => R_ (E_ r_ (T_ (ar_ (aw_ (jq_row 0 _ rfl (fin i g_) (jq_sle 4 rfl (up 0 g_) (jq_ret1 rfl rfl [0] rfl (fun K h => h))))))))) (fun h => absurd hn1 h)))))))
    · have hlt : i < L.length := by simp at hge; omega
      have hlt2 : ((i : Int) + 1 - 1).toNat < L.length := by omega
      have hr := hL L[((i : Int) + 1 - 1).toNat] (List.getElem_mem hlt2)
      have hm := Int.emod_nonneg L[((i : Int) + 1 - 1).toNat] (show n ≠ 0 by omega)
      have hm2 := Int.emod_lt_of_pos L[((i : Int) + 1 - 1).toNat] (show 0 < n by omega)
      refine R_ (E_ r_ (T_ (am_ (am_ (ao_ r_ r_ k_ k_ (yM_ r_ (yN_ r_ (yF_ r_ (yL_ 0 r_ (yM_ r_ (yN_ r_ (yF_ r_ (yL_ 0 r_ (aa_ (fun c => br_ r_ (fun hlen => p_)) (aa_ (fun c => cn_ r_ r_ p_) ?_)))))))))))))))
      refine yM_ r_ (ab_ r_ w_ (fun c => bd_ r_ p_) (ab_ r_ w_ (fun c => cu_ r_ r_ p_) (aa_ (fun c => bv_ r_ w_ r_ p_) (ae_ (al_ (jc_condd rfl (fun h => absurd h hn1) (fun _ => as_ (al_ (R_ (M_ r_ (N_ r_ (F_ r_ (L_ 0 r_ (o_ r_ (bj_ r_ r_ g_ (N_ r_ ?_))))))))))))))))
      refine F_ r_ (W_ 0 r_ (T_ (am_ (ao_ r_ r_ k_ k_ (yM_ r_ (yN_ r_ (yF_ r_ (yL_ 0 r_ (yM_ r_ (yN_ r_ (yF_ r_ (yL_ 0 r_ (aa_ (fun c => cg_ r_ r_ g_ p_) (aa_ (fun c => cv_ r_ r_ g_ g_ r_ r_ b_ p_) (aa_ (fun c => cb_ r_ r_ p_) ?_)))))))))))))))
      refine yM_ r_ (aa_ (fun c => bm_ r_ (gMod_c _ _ g_ hr) p_) (yE_ r_ (ae_ (al_ (ar_ (jq_row 0 _ rfl (fin (i + 1) g_) (jq_sle 4 rfl (up _ ⟨hm, .inl hm2⟩) (jq_ret1 rfl rfl [0] rfl (fun K h => h)))))))))

theorem gNum_c (n : Int) : Con Tryd.prog 97 [In .i64 n] [] (fun K => K (.row (T.nu n).row') []) := by
  refine con_intro Tryd.func97 rfl rfl (Nat.le_of_ble_eq_true rfl) (fun c hc => R_ (o_ r_ (bl_ r_ r_ (fun bl => T_ (R_ (M_ r_ (o_ r_ (bu_ r_ r_ r_ r_ r_ (S_ 0 r_ (T_ (ar_ (jq_row 0 (T.nu n).row' rfl ?_ ?_))))))))))))
  · (repeat (first | exact RowLe.nil | refine RowLe.cons (CLe.refl _) ?_ | refine RowLe.cons CLe.nil ?_))
  · refine jq_retRow rfl rfl rfl rfl 0 rfl [] rfl (fun K h => h)
theorem gName_c (s : ByteArray) : Con Tryd.prog 100 [Str s] [] (fun K => K (.row (T.nm s).row') []) := by
  refine con_intro Tryd.func100 rfl rfl (Nat.le_of_ble_eq_true rfl) (fun c hc => R_ (o_ r_ (bl_ r_ r_ (fun bl => T_ (R_ (M_ r_ (o_ r_ (bu_ r_ r_ r_ r_ r_ (S_ 0 r_ (T_ (ar_ (jq_row 0 (T.nm s).row' rfl ?_ ?_))))))))))))
  · (repeat (first | exact RowLe.nil | refine RowLe.cons (CLe.refl _) ?_ | refine RowLe.cons CLe.nil ?_))
  · refine jq_retRow rfl rfl rfl rfl 0 rfl [] rfl (fun K h => h)
theorem gBin_c (o : Int) (a b : T) : Con Tryd.prog 98 [In .i64 o, .row a.row', .row b.row'] [] (fun K => K (.row (T.bn o a b).row') []) := by
  refine con_intro Tryd.func98 rfl rfl (Nat.le_of_ble_eq_true rfl) (fun c hc => R_ (o_ r_ (ci_ r_ (fun bx => o_ r_ (ci_ r_ (fun bx => o_ r_ (bl_ r_ r_ (fun bl => T_ (R_ (M_ r_ (A_ 2 r_ (A_ 1 r_ (o_ r_ (bq_ r_ r_ b_ r_ r_ b_ (o_ r_ (bu_ r_ r_ r_ r_ r_ (S_ 0 r_ (T_ (ar_ (jq_row 0 (T.bn o a b).row' rfl ?_ ?_))))))))))))))))))))
  · (repeat (first | exact RowLe.nil | refine RowLe.cons (CLe.refl _) ?_ | refine RowLe.cons CLe.nil ?_))
    exact RowLe.cons (CLe.eq (by simp [T.row_eq, T.args])) .nil
  · refine jq_retRow rfl rfl rfl rfl 0 rfl [] rfl (fun K h => h)

abbrev InR (L : List Int) : Prop := ∀ x ∈ L, -9223372036854775808 ≤ x ∧ x ≤ 9223372036854775807
theorem Nx_c {L : List Int} {b : Nat} (n : Int) (hL : InR L) (hLn : L.length ≤ 400) (hn : n ≤ 1000000000) :
    Con Tryd.prog 30 [Ptr b, In .i64 n] [Dk b L] (fun K => ∀ i : Int, (0 ≤ i ∧ (i < n ∨ i = 0)) → K (In .i64 i) [Dk b L]) :=
  con_exP (gNext_c L b n hL hLn hn)

theorem gOp_c {L : List Int} {b : Nat} (hL : InR L) (hLn : L.length ≤ 400) :
    Con Tryd.prog 99 [Ptr b] [Dk b L] (fun K => ∀ i : Int, (1 ≤ i ∧ i ≤ 14) → K (In .i64 i) [Dk b L]) := by
  refine con_intro Tryd.func99 rfl rfl (Nat.le_of_ble_eq_true rfl) (fun c hc => R_ (E_ r_ (T_ (R_ (M_ r_ (o_ r_ (bt_ [0] rfl rfl (Nx_c _ hL hLn g_) (fun i hi => o_ r_ (bj_ r_ r_ g_ (E_ r_ (T_ (ar_ (jq_ret1 rfl rfl [0] rfl (fun K h => h (1 + i) g_))))))))))))))

theorem gWord_c {L : List Int} {b : Nat} (hL : InR L) (hLn : L.length ≤ 400) :
    Con Tryd.prog 96 [Ptr b] [Dk b L] (fun K => ∀ i : Int, (-2147483648 ≤ i ∧ i ≤ 2147483647) → K (In .i64 i) [Dk b L]) := by
  refine con_intro Tryd.func96 rfl rfl (Nat.le_of_ble_eq_true rfl) (fun c hc => R_ (E_ r_ (T_ (am_ (R_ (M_ r_ (o_ r_ (bt_ [0] rfl rfl (Nx_c _ hL hLn g_) (fun k hk => T_ (au_ (R_ (o_ r_ (bn_ r_ r_ (E_ r_ (T_ (jc_condd rfl (fun h0 => ?_) (fun h0 => ?_)))))))))))))))))
  · refine R_ (M_ r_ (o_ r_ (bt_ [0] rfl rfl (Nx_c _ hL hLn g_) (fun i hi => o_ r_ (cy_ r_ g_ (E_ r_ (T_ (ar_ (az_ (aw_ (jq_ret1 rfl rfl [0] rfl (fun K h => h _ g_))))))))))))
  refine R_ (o_ r_ (bn_ r_ r_ (E_ r_ (T_ (jc_condd rfl (fun h1 => ?_) (fun h1 => ?_))))))
  · refine R_ (M_ r_ (o_ r_ (bt_ [0] rfl rfl (Nx_c _ hL hLn g_) (fun i hi => o_ r_ (cg_ r_ r_ g_ (E_ r_ (T_ (ar_ (az_ (aw_ (jq_ret1 rfl rfl [0] rfl (fun K h => h _ g_))))))))))))
  refine R_ (o_ r_ (bn_ r_ r_ (E_ r_ (T_ (jc_condd rfl (fun h2 => ?_) (fun h2 => ?_))))))
  · refine R_ (M_ r_ (o_ r_ (bt_ [0] rfl rfl (Nx_c _ hL hLn g_) (fun i hi => o_ r_ (bj_ r_ r_ g_ (E_ r_ (T_ (ar_ (az_ (aw_ (jq_ret1 rfl rfl [0] rfl (fun K h => h _ g_))))))))))))
  refine R_ (o_ r_ (bn_ r_ r_ (E_ r_ (T_ (jc_condd rfl (fun h3 => ?_) (fun h3 => ?_))))))
  · refine R_ (M_ r_ (o_ r_ (bt_ [0] rfl rfl (Nx_c _ hL hLn g_) (fun i hi => ?_))))
    have h5 : (0 : Int) ≤ 1 * 2 ^ i.toNat ∧ (1 : Int) * 2 ^ i.toNat ≤ 1073741824 := by
      have h6 : (2 : Nat) ^ i.toNat ≤ 2 ^ 30 := Nat.pow_le_pow_right (by omega) (by omega)
      have h7 : ((2 ^ i.toNat : Nat) : Int) = (2 : Int) ^ i.toNat := by simp
      have h8 : (0 : Int) ≤ (2 : Int) ^ i.toNat := h7 ▸ Int.natCast_nonneg _
      omega
    refine o_ r_ (ow_convU64 r_ r_ r_ g_ (o_ r_ (ow_shl64 r_ r_ g_ g_ (E_ r_ (T_ (ar_ (az_ (aw_ (jq_ret1 rfl rfl [0] rfl (fun K h => h _ g_))))))))))
  · refine as_ (ay_ (al_ (R_ (M_ r_ (o_ r_ (bt_ [0] rfl rfl (Nx_c _ hL hLn g_) (fun i hi => E_ r_ (T_ (ar_ (jq_ret1 rfl rfl [0] rfl (fun K h => h _ g_)))))))))))

/-- The deck, the variables, the slice of the loops under way, the arrays, the shared arrays, what is held, labels, statements left, loops under way. -/
abbrev MkRow (bd : Nat) (V : List ByteArray) (lv : Value) (A : List ByteArray) (Sh : List Shd) (hs : ByteArray) (lab st il : Int) : List C :=
  [.val (.pointer (some ⟨bd, 0, none⟩)), .list (V.map Wrow), .val lv, .list (A.map Wrow), .list (Sh.map ShRow), .val (.string hs), .val (.int .i64 lab), .val (.int .i64 st), .val (.int .i64 il)]
abbrev Mk (bm bd : Nat) (V : List ByteArray) (lv : Value) (A : List ByteArray) (Sh : List Shd) (hs : ByteArray) (lab st il : Int) : Ch := .blk bm 115 (MkRow bd V lv A Sh hs lab st il)

theorem gname_c {L : List Int} {bm bd : Nat} {V A : List ByteArray} {lv : Value} {Sh : List Shd} {hs : ByteArray} {lab st il : Int} (hL : InR L) (hLn : L.length ≤ 400) (l : List ByteArray) (h0 : 0 < l.length) (h1 : l.length ≤ 1000) :
    Con Tryd.prog 86 [Ptr bm, .cell (.list (l.map Wrow))] [Mk bm bd V lv A Sh hs lab st il, Dk bd L] (fun K => ∀ s : ByteArray, s ∈ l → K (Str s) [Mk bm bd V lv A Sh hs lab st il, Dk bd L]) := by
  refine con_intro Tryd.func86 rfl rfl (Nat.le_of_ble_eq_true rfl) (fun c hc => R_ (E_ r_ (T_ (R_ (M_ r_ (M_ r_ (N_ r_ (F_ r_ (L_ 0 r_ (M_ r_ (o_ r_ (br_ r_ (fun hlen => o_ r_ (bt_ [1] rfl rfl (Nx_c _ hL hLn (by simp; omega)) (fun i hi => ?_)))))))))))))))
  simp only [List.length_map] at hi
  refine o_ r_ (cv_ r_ r_ g_ g_ r_ r_ b_ (o_ r_ (cb_ r_ r_ (E_ r_ (T_ (ar_ (jq_ret1 rfl rfl [1, 0] rfl (fun K h => h _ (List.getElem_mem _)))))))))
end Go.Proofs.YtlniadfidfmckaaDoor
end

section
namespace Go.Proofs.YtlniadfidfmckaaDoor
open Go.Vc
set_option maxHeartbeats 4000000
attribute [local irreducible] JL JC JQ OpWp Con ConN


def usableF (A : List ByteArray) (Sh : List Shd) (hs : ByteArray) : List ByteArray := A ++ Sh.filterMap fun s => if s.2.2 = hs then some s.1 else none
theorem usable_len (A : List ByteArray) (Sh : List Shd) (hs : ByteArray) : (usableF A Sh hs).length ≤ A.length + Sh.length := by
  unfold usableF
  rw [List.length_append]
  have := List.length_filterMap_le (fun s : Shd => if s.2.2 = hs then some s.1 else none) Sh
  omega
/-- An expression of at most a depth, of some variables, arrays. -/
inductive ExG (V U : List ByteArray) : Nat → T → Prop
  | nu (d : Nat) (n : Int) (h : -2147483647 ≤ n ∧ n ≤ 2147483647) : ExG V U d (.nu n)
  | nm (d : Nat) (s : ByteArray) (h : s ∈ V) : ExG V U d (.nm s)
  | ix (d : Nat) (s : ByteArray) (t : T) (h : s ∈ U) (ht : ExG V U d t) : ExG V U (d + 1) (.ix s t)
  | bn (d : Nat) (o : Int) (a b : T) (ho : 1 ≤ o ∧ o ≤ 14) (ha : ExG V U d a) (hb : ExG V U d b) : ExG V U (d + 1) (.bn o a b)
theorem ExG.pos {x : Int} (h : 0 < x) : x.toNat = (x - 1).toNat + 1 := by omega
section
variable {L : List Int} {bm bd : Nat} {V A LS : List ByteArray} {lv : Value} {Sh : List Shd} {hs : ByteArray} {lab st il : Int}

theorem gusable_c (hA : A.length ≤ 100) (hSh : Sh.length ≤ 100) :
    Con Tryd.prog 85 [Ptr bm] [Mk bm bd V lv A Sh hs lab st il] (fun K => K (.cell (.list ((usableF A Sh hs).map Wrow))) [Mk bm bd V lv A Sh hs lab st il]) := by
  have eS : (Sh.map ShRow).length = Sh.length := List.length_map _
  refine con_intro Tryd.func85 rfl rfl (Nat.le_of_ble_eq_true rfl) (fun c hc => R_ (E_ r_ (T_ (R_ (o_ r_ (ow_buildSliceOwn rfl rfl b_ rfl rfl b_ (fun v0 hv0 fv0 => M_ r_ (N_ r_ (F_ r_ (L_ 1 r_ (o_ r_ (ow_appendM (f := Wrow) (l1 := []) (l2 := A) 0 rfl rfl rfl rfl rfl rfl rfl (fun _ => rfl) (by show (0 + _) * 16 ≤ _; omega) (by simp; omega) (fun v1 hv1 => E_ r_ (T_ (am_ (R_ (E_ r_ ?_)))))))))))))))))
  refine T_ (au_ (jc_loopS (ι := Nat × Value) [] (fun i => i.1 ≤ Sh.length) (fun i => [(0, Ptr bm), (3, .cell (.val i.2)), (4, In .i64 (i.1 : Int))]) (fun i => [.own i.2 9 1 ((usableF A (Sh.take i.1) hs).map Wrow), Mk bm bd V lv A Sh hs lab st il]) (fun i => Sh.length - i.1) (0, v1) (Nat.zero_le _) ?_ ?_ ?_))
  · rw [show usableF A (Sh.take 0) hs = A by simp [usableF]]
    exact bc_ 0 r_ (bc_ 0 r_ sub_end)
  · (repeat (first | exact True.intro | refine ⟨rfl, ?_⟩))
  rintro ⟨k, v⟩ hk
  dsimp only at hk ⊢
  have hlen := usable_len A (Sh.take k) hs
  have htk : (Sh.take k).length ≤ k := by rw [List.length_take]; omega
  refine jc_reset [(0, Ptr bm), (3, .cell (.val v)), (4, In .i64 (k : Int))] [.own v 9 1 ((usableF A (Sh.take k) hs).map Wrow), Mk bm bd V lv A Sh hs lab st il] ?_ ⟨[0, 0], [], rfl⟩ ?_
  · (repeat (first | exact True.intro | refine ⟨rfl, ?_⟩))
  by_cases hlt : k < Sh.length
  · have hlt' : (k : Int) < ((Sh.map ShRow).length : Int) := by omega
    by_cases he : Sh[k].2.2 = hs
    · have e2 : usableF A (Sh.take (k + 1)) hs = usableF A (Sh.take k) hs ++ [Sh[k].1] := by
        unfold usableF
        rw [List.take_succ_eq_append_getElem hlt, List.filterMap_append, List.append_assoc]
        simp [he]
      refine am_ (R_ (M_ r_ (M_ r_ (N_ r_ (F_ r_ (L_ 1 r_ (o_ r_ (br_ r_ (fun hlen => o_ r_ (bw_ r_ r_ (T_ (aq_ r_ u_ (as_ (al_ (B_ (am_ (ao_ r_ r_ k_ k_ ?_)))))))))))))))))
      refine yM_ r_ (yN_ r_ (yF_ r_ (yL_ 1 r_ (yM_ r_ (aa_ (fun c => cc_ r_ r_ g_ r_ r_ b_ p_) (aa_ (fun c => cf_ r_ r_ r_ b_ r_ b_ p_) (aa_ (fun c => cb_ r_ r_ p_) (yM_ r_ (yN_ r_ (yF_ r_ (yL_ 1 r_ (aa_ (fun c => cs_ r_ r_ p_) (ae_ (al_ (aq_ r_ u_ ?_)))))))))))))))
      refine an_ (M_ r_ (M_ r_ (N_ r_ (F_ r_ (L_ 1 r_ (M_ r_ (o_ r_ (cc_ r_ r_ g_ r_ r_ b_ (o_ r_ (cf_ r_ r_ r_ b_ r_ b_ (o_ r_ (cf_ r_ r_ r_ b_ r_ b_ (o_ r_ (cb_ r_ r_ (o_ r_ (bq_ r_ r_ b_ r_ r_ b_ ?_))))))))))))))))
      refine o_ r_ (ow_append1 0 (Sh[k].1) rfl rfl rfl rfl rfl rfl rfl (fun _ => rfl) (by show (_ + _) * 16 ≤ _; first | omega | (simp only [List.length_append]; omega)) (by first | omega | (simp only [List.length_append]; omega)) (fun v2 hv2 => E_ r_ (ak_ (ay_ (al_ (an_ (M_ r_ (o_ r_ (bj_ r_ r_ g_ (E_ r_ (ak_ (jq_againS (i := (k, v)) ((k + 1, v2) : Nat × Value) hlt (by dsimp only; omega) ?_ ?_))))))))))))
      · rw [e2]
        exact bc_ 0 r_ (bc_ 0 r_ sub_end)
      · (repeat (first | exact True.intro | refine ⟨rfl, ?_⟩))
    · have e2 : usableF A (Sh.take (k + 1)) hs = usableF A (Sh.take k) hs := by
        unfold usableF
        rw [List.take_succ_eq_append_getElem hlt, List.filterMap_append]
        simp [he]
      refine am_ (R_ (M_ r_ (M_ r_ (N_ r_ (F_ r_ (L_ 1 r_ (o_ r_ (br_ r_ (fun hlen => o_ r_ (bw_ r_ r_ (T_ (aq_ r_ u_ (as_ (al_ (B_ (am_ (ao_ r_ r_ k_ k_ ?_)))))))))))))))))
      refine yM_ r_ (yN_ r_ (yF_ r_ (yL_ 1 r_ (yM_ r_ (aa_ (fun c => cc_ r_ r_ g_ r_ r_ b_ p_) (aa_ (fun c => cf_ r_ r_ r_ b_ r_ b_ p_) (aa_ (fun c => cb_ r_ r_ p_) (yM_ r_ (yN_ r_ (yF_ r_ (yL_ 1 r_ (aa_ (fun c => cs_ r_ r_ p_) (ae_ (al_ (ap_ r_ w_ ?_)))))))))))))))
      refine as_ (ay_ (al_ (an_ (M_ r_ (o_ r_ (bj_ r_ r_ g_ (E_ r_ (ak_ (jq_againS (i := (k, v)) ((k + 1, v) : Nat × Value) hlt (by dsimp only; omega) ?_ ?_)))))))))
      · rw [e2]
        exact bc_ 0 r_ (bc_ 0 r_ sub_end)
      · (repeat (first | exact True.intro | refine ⟨rfl, ?_⟩))
  · have hlt' : ¬ (k : Int) < ((Sh.map ShRow).length : Int) := by omega
    have e2 : Sh.take k = Sh := List.take_of_length_le (by omega)
    rw [e2]
    refine am_ (R_ (M_ r_ (M_ r_ (N_ r_ (F_ r_ (L_ 1 r_ (o_ r_ (br_ r_ (fun hlen => o_ r_ (bw_ r_ r_ (T_ (ap_ r_ w_ (av_ (ax_ (ax_ (ba_ (al_ ?_)))))))))))))))))
    refine R_ (M_ r_ (E_ r_ (T_ (ar_ (jq_freeze 2 0 rfl rfl (by rw [hc]; simp [hb]) (jq_ret1 rfl rfl [0] rfl (fun K h => h)))))))
theorem gtarget_c (hL : InR L) (hLn : L.length ≤ 400) (hV0 : 0 < V.length) (hV : V.length ≤ 100) (hLS : LS.length ≤ 100) :
    Con Tryd.prog 90 [Ptr bm] [Mk bm bd V lv A Sh hs lab st il, Dk bd L, .own lv 9 1 (LS.map Wrow)] (fun K => ∀ s : ByteArray, s ∈ V → K (Str s) [Mk bm bd V lv A Sh hs lab st il, Dk bd L, .own lv 9 1 (LS.map Wrow)]) := by
  have eV : (V.map Wrow).length = V.length := List.length_map _
  refine con_intro Tryd.func90 rfl rfl (Nat.le_of_ble_eq_true rfl) (fun c hc => R_ (E_ r_ (T_ (R_ (M_ r_ (M_ r_ (N_ r_ (F_ r_ (L_ 0 r_ (o_ r_ (bt_ [0, 0] rfl rfl (gname_c hL hLn V hV0 g_) (fun s hs1 => E_ r_ (T_ (am_ (R_ (E_ r_ ?_))))))))))))))))
  refine T_ (au_ (jc_loop [0, 3] (fun k => k ≤ LS.length) (fun k => [(4, In .i64 (k : Int))]) (fun _ => [Mk bm bd V lv A Sh hs lab st il, Dk bd L, .own lv 9 1 (LS.map Wrow)]) (fun k => LS.length - k) 0 [0, 0, 0] (Nat.zero_le _) rfl ?_ ?_))
  · (repeat (first | exact True.intro | refine ⟨rfl, ?_⟩))
  · intro k hk
    refine am_ (R_ (M_ r_ (M_ r_ (N_ r_ (F_ r_ (L_ 0 r_ (o_ r_ (cw_ 2 r_ r_ (fun hlen => o_ r_ (bw_ r_ r_ (T_ (jc_condd rfl (fun hlt => ?_) (fun hge => ?_)))))))))))))
    · simp only [List.length_map, Int.ofNat_lt] at hlt
      refine as_ (al_ (B_ (R_ (M_ r_ (N_ r_ (F_ r_ (L_ 0 r_ (M_ r_ (o_ r_ (dc_ 2 rfl rfl rfl g_ (by simp only [List.length_map]; omega) rfl (o_ r_ (db_ 2 r_ r_ r_ g_ r_ (M_ r_ (o_ r_ (cs_ r_ r_ (T_ (jc_condd rfl (fun he => ?_) (fun hne => ?_))))))))))))))))))
      · refine am_ (ao_ r_ r_ k_ k_ (yM_ r_ (yN_ r_ (yF_ r_ (yL_ 0 r_ (yM_ r_ (yN_ r_ (yF_ r_ (yL_ 0 r_ (aa_ (fun c => br_ r_ (fun hlen => p_)) (aa_ (fun c => cg_ r_ r_ g_ p_) (aa_ (fun c => cv_ r_ r_ g_ g_ r_ r_ b_ p_) (aa_ (fun c => cb_ r_ r_ p_) (yE_ r_ (ae_ ?_)))))))))))))))
        refine al_ (ar_ (az_ (aw_ (aw_ (az_ (aw_ (jq_ret1 rfl rfl [0, 0, 0] rfl (fun K h => h _ (List.getElem_mem _)))))))))
      · refine as_ (ay_ (al_ (an_ (M_ r_ (o_ r_ (bj_ r_ r_ g_ (E_ r_ (ak_ (jq_again (k + 1) [0, 0, 0] hlt g_ rfl ?_)))))))))
        (repeat (first | exact True.intro | refine ⟨rfl, ?_⟩))
    · refine av_ (ax_ (ax_ (ba_ (al_ (R_ (M_ r_ (E_ r_ (T_ (ar_ (jq_ret1 rfl rfl [0, 0, 0] rfl (fun K h => h _ hs1)))))))))))

theorem gexpr_step (hL : InR L) (hLn : L.length ≤ 400) (hV0 : 0 < V.length) (hV : V.length ≤ 100) (hA : A.length ≤ 100) (hSh : Sh.length ≤ 100) (d : Int) (hd0 : -100 ≤ d) (hd1 : d ≤ 100)
    (ih : 0 < d → Con Tryd.prog 87 [Ptr bm, In .i64 (d - 1)] [Mk bm bd V lv A Sh hs lab st il, Dk bd L] (fun K => ∀ e : T, ExG V (usableF A Sh hs) (d - 1).toNat e → K (.row e.row') [Mk bm bd V lv A Sh hs lab st il, Dk bd L])) :
    Con Tryd.prog 87 [Ptr bm, In .i64 d] [Mk bm bd V lv A Sh hs lab st il, Dk bd L] (fun K => ∀ e : T, ExG V (usableF A Sh hs) d.toNat e → K (.row e.row') [Mk bm bd V lv A Sh hs lab st il, Dk bd L]) := by
  refine con_intro Tryd.func87 rfl rfl (Nat.le_of_ble_eq_true rfl) (fun c hc => R_ (o_ r_ (bl_ r_ r_ (fun bl => T_ (R_ (M_ r_ (N_ r_ (F_ r_ (L_ 1 r_ (o_ r_ (bt_ [2] rfl rfl (Nx_c _ hL hLn g_) (fun k0 hk0 => E_ r_ (T_ (am_ (R_ (M_ r_ (o_ r_ (cu_ r_ r_ ?_))))))))))))))))))
  refine T_ ?_
  have ht : 0 ≤ k0 % 3 ∧ k0 % 3 ≤ 2 := by omega
  refine jc_cut (ι := Int) [0, 1, 4] (fun k => 0 ≤ k ∧ k ≤ 5 ∧ (d ≤ 0 → k ≤ 2)) (fun k => [(5, In .i64 k)]) (fun _ => [Mk bm bd V lv A Sh hs lab st il, Dk bd L, .blk bl 47 [.val (.int .i64 0), .val (.int .i64 0), .val (.string ⟨#[]⟩), .val (.int .i64 0), .val (.slice none 0 0)]]) ?_ ?_
  · refine jc_condd rfl (fun hd => ?_) (fun hd => ?_)
    · refine an_ (M_ r_ (o_ r_ (ow_rem64 r_ r_ g_ g_ (E_ r_ (ak_ (jq_cut (k0 % 3) [2, 0, 0] ⟨ht.1, by omega, fun _ => ht.2⟩ rfl ?_))))))
      (repeat (first | exact True.intro | refine ⟨rfl, ?_⟩))
    · refine as_ (jq_cut k0 [2, 0, 0] ⟨hk0.1, by omega, fun h => absurd h hd⟩ rfl ?_)
      (repeat (first | exact True.intro | refine ⟨rfl, ?_⟩))
  · intro k ⟨hka, hkb, hkd⟩
    refine am_ (R_ (M_ r_ (T_ (au_ (R_ (o_ r_ (bn_ r_ r_ (E_ r_ (T_ (jc_condd rfl (fun h0 => ?_) (fun h0 => ?_)))))))))))
    · refine R_ (M_ r_ (N_ r_ (F_ r_ (L_ 0 r_ (o_ r_ (bt_ [1] rfl rfl (Nx_c _ hL hLn g_) (fun n1 hn1 => E_ r_ (T_ (am_ (R_ (M_ r_ (N_ r_ (F_ r_ (L_ 1 r_ (o_ r_ (bt_ [0] rfl rfl (Nx_c _ hL hLn g_) (fun n2 hn2 => o_ r_ (bn_ r_ r_ ?_))))))))))))))))))
      refine T_ (jc_cut (ι := Int) [0, 1, 4] (fun k => -2147483647 ≤ k ∧ k ≤ 2147483647) (fun k => [(6, In .i64 k)]) (fun _ => [Mk bm bd V lv A Sh hs lab st il, Dk bd L, .blk bl 47 [.val (.int .i64 0), .val (.int .i64 0), .val (.string ⟨#[]⟩), .val (.int .i64 0), .val (.slice none 0 0)]]) ?_ ?_)
      · refine jc_condd rfl (fun _ => ?_) (fun _ => ?_)
        · refine an_ (M_ r_ (N_ r_ (F_ r_ (L_ 1 r_ (o_ r_ (bt_ [0] rfl rfl (gWord_c hL hLn) (fun n3 hn3 => o_ r_ (ck_ r_ r_ (E_ r_ (ak_ (jq_cut (max (-2147483647) n3) [1, 0, 0] g_ rfl ?_)))))))))))
          (repeat (first | exact True.intro | refine ⟨rfl, ?_⟩))
        · refine as_ (jq_cut n1 [1, 0, 0] g_ rfl ?_)
          (repeat (first | exact True.intro | refine ⟨rfl, ?_⟩))
      · intro n3 hn3
        refine R_ (M_ r_ (o_ r_ (bm_ r_ (gNum_c _) (S_ 2 r_ (T_ (ar_ (az_ (aw_ (jq_retRow rfl rfl rfl rfl 0 rfl [1, 1] rfl (fun K h => h _ (.nu _ _ hn3)))))))))))
    · refine R_ (o_ r_ (bn_ r_ r_ (E_ r_ (T_ (jc_condd rfl (fun h3 => ?_) (fun h3 => ?_))))))
      · refine R_ (M_ r_ ?_)
        have hU := usable_len A Sh hs
        refine o_ r_ (bi_ [0] r_ r_ (gusable_c hA hSh) (E_ r_ (T_ (R_ (M_ r_ (o_ r_ (br_ r_ (fun hlen => o_ r_ (bz_ r_ r_ (T_ (jc_condd rfl (fun hp => ?_) (fun hp => ?_))))))))))))
        · simp only [List.length_map] at hp
          refine R_ (M_ r_ (M_ r_ (o_ r_ (bt_ [0, 0] rfl rfl (gname_c hL hLn (usableF A Sh hs) g_ g_) (fun s hs1 => M_ r_ (M_ r_ (o_ r_ (cg_ r_ r_ g_ (o_ r_ (bt_ [0, 0] rfl rfl (ih g_) (fun e1 he1 => o_ r_ (bq_ r_ r_ b_ r_ r_ b_ (o_ r_ (bu_ r_ r_ r_ r_ r_ (S_ 2 r_ (T_ (ar_ (az_ (aw_ (jq_row 0 (T.ix s e1).row' rfl ?_ ?_))))))))))))))))))))
          · (repeat (first | exact RowLe.nil | refine RowLe.cons (CLe.refl _) ?_ | refine RowLe.cons CLe.nil ?_))
            exact RowLe.cons (CLe.eq (by simp [T.row_eq, T.args])) .nil
          · refine jq_retRow rfl rfl rfl rfl 0 rfl [1, 1] rfl (fun K h => h _ (by rw [ExG.pos (x := d) g_]; exact .ix _ _ _ hs1 he1))
        · refine as_ (ay_ (al_ (R_ (M_ r_ (M_ r_ (N_ r_ (F_ r_ (L_ 0 r_ (o_ r_ (bt_ [0, 0] rfl rfl (gname_c hL hLn V hV0 g_) (fun s hs1 => o_ r_ (bm_ r_ (gName_c _) (S_ 2 r_ (T_ (ar_ (jq_retRow rfl rfl rfl rfl 0 rfl [1, 1] rfl (fun K h => h _ (.nm _ _ hs1))))))))))))))))))
      · refine am_ (R_ (o_ r_ (bn_ r_ r_ (E_ r_ (T_ (jc_condd rfl (fun h4 => ?_) (fun h4 => ?_)))))))
        · refine as_ (al_ (jc_condd rfl (fun _ => R_ (M_ r_ (N_ r_ (F_ r_ (L_ 0 r_ (o_ r_ (bt_ [1] rfl rfl (gOp_c hL hLn) (fun o ho => M_ r_ (M_ r_ (o_ r_ (cg_ r_ r_ g_ (o_ r_ (bt_ [1, 0] rfl rfl (ih g_) (fun e1 he1 => M_ r_ (M_ r_ (o_ r_ (cg_ r_ r_ g_ ?_))))))))))))))))) (fun h => absurd h4 h)))
          refine o_ r_ (bt_ [0, 0] rfl rfl (ih g_) (fun e2 he2 => o_ r_ (bm_ r_ (gBin_c _ _ _) (S_ 2 r_ (T_ (ar_ (az_ (aw_ (jq_retRow rfl rfl rfl rfl 0 rfl [1, 1] rfl (fun K h => h _ (by rw [ExG.pos (x := d) g_]; exact .bn _ _ _ _ ho he1 he2)))))))))))
        · refine an_ (o_ r_ (bn_ r_ r_ (E_ r_ (T_ (jc_condd rfl (fun h5 => ?_) (fun h5 => ?_))))))
          · refine R_ (M_ r_ (N_ r_ (F_ r_ (L_ 0 r_ (o_ r_ (bt_ [1] rfl rfl (gOp_c hL hLn) (fun o ho => M_ r_ (M_ r_ (o_ r_ (cg_ r_ r_ g_ (o_ r_ (bt_ [1, 0] rfl rfl (ih g_) (fun e1 he1 => M_ r_ (M_ r_ (o_ r_ (cg_ r_ r_ g_ (o_ r_ (bt_ [0, 0] rfl rfl (ih g_) (fun e2 he2 => o_ r_ (bm_ r_ (gBin_c _ _ _) (S_ 2 r_ ?_)))))))))))))))))))))
            refine T_ (ar_ (az_ (aw_ (jq_retRow rfl rfl rfl rfl 0 rfl [1, 1] rfl (fun K h => h _ (by rw [ExG.pos (x := d) g_]; exact .bn _ _ _ _ ho he1 he2))))))
          · refine as_ (ay_ (al_ (R_ (M_ r_ (M_ r_ (N_ r_ (F_ r_ (L_ 0 r_ (o_ r_ (bt_ [0, 0] rfl rfl (gname_c hL hLn V hV0 g_) (fun s hs1 => o_ r_ (bm_ r_ (gName_c _) (S_ 2 r_ (T_ (ar_ (jq_retRow rfl rfl rfl rfl 0 rfl [1, 1] rfl (fun K h => h _ (.nm _ _ hs1))))))))))))))))))

theorem gexpr_c (hL : InR L) (hLn : L.length ≤ 400) (hV0 : 0 < V.length) (hV : V.length ≤ 100) (hA : A.length ≤ 100) (hSh : Sh.length ≤ 100) : ∀ (n : Nat) (d : Int), d ≤ n → -100 ≤ d → n ≤ 100 →
    Con Tryd.prog 87 [Ptr bm, In .i64 d] [Mk bm bd V lv A Sh hs lab st il, Dk bd L] (fun K => ∀ e : T, ExG V (usableF A Sh hs) d.toNat e → K (.row e.row') [Mk bm bd V lv A Sh hs lab st il, Dk bd L])
  | 0, d, h1, h2, _ => gexpr_step hL hLn hV0 hV hA hSh d h2 (by omega) (fun h => by omega)
  | n + 1, d, h1, h2, h3 => gexpr_step hL hLn hV0 hV hA hSh d h2 (by omega) (fun h => gexpr_c hL hLn hV0 hV hA hSh n (d - 1) (by omega) (by omega) (by omega))
end
end Go.Proofs.YtlniadfidfmckaaDoor
end

section
namespace Go.Proofs.YtlniadfidfmckaaDoor
open Go.Vc
set_option maxHeartbeats 4000000
attribute [local irreducible] JL JC JQ OpWp Con ConN


section
variable {L : List Int} {bm bd : Nat} {V A LS : List ByteArray} {lv : Value} {Sh : List Shd} {hs : ByteArray} {lab st il : Int}

theorem gcondition_c (hL : InR L) (hLn : L.length ≤ 400) (hV0 : 0 < V.length) (hV : V.length ≤ 100) (hA : A.length ≤ 100) (hSh : Sh.length ≤ 100) :
    Con Tryd.prog 88 [Ptr bm] [Mk bm bd V lv A Sh hs lab st il, Dk bd L] (fun K => ∀ e : T, ExG V (usableF A Sh hs) 2 e → K (.row e.row') [Mk bm bd V lv A Sh hs lab st il, Dk bd L]) := by
  refine con_intro Tryd.func88 rfl rfl (Nat.le_of_ble_eq_true rfl) (fun c hc => R_ (o_ r_ (bl_ r_ r_ (fun bl => T_ (am_ (R_ (M_ r_ (N_ r_ (F_ r_ (L_ 1 r_ (o_ r_ (bt_ [2] rfl rfl (Nx_c _ hL hLn g_) (fun k0 hk0 => o_ r_ (bn_ r_ r_ (T_ (jc_condd rfl (fun h3 => ?_) (fun h3 => ?_)))))))))))))))))
  · refine R_ (M_ r_ (o_ r_ (bt_ [2, 0] rfl rfl (gexpr_c hL hLn hV0 hV hA hSh 2 2 g_ g_ g_) (fun e1 he1 => S_ 2 r_ (T_ (ar_ (aw_ (jq_retRow rfl rfl rfl rfl 0 rfl [1, 1] rfl (fun K h => h _ he1)))))))))
  · refine as_ (al_ (am_ (jc_anyB 20 none rfl k_ k_ (yM_ r_ (yN_ r_ (yF_ r_ (yL_ 2 r_ (aa_ (fun c => ow_callA [0] r_ r_ (gNext_c L _ _ hL hLn g_)) (aa_ (fun c => ow_exarg 15 rfl (fun i => bj_ rfl rfl (by have := i.2; omega) ⟨rfl, .refl _⟩)) (yM_ r_ (yM_ r_ (yN_ r_ (yF_ r_ (yL_ 2 r_ (aa_ (fun c => ow_callA [2, 0] r_ r_ (con_toEx (gname_c hL hLn V hV0 g_))) ?_)))))))))))))))
    refine aa_ (fun c => ow_exarg 22 rfl (fun i => bm_ rfl (gName_c _) ⟨rfl, .refl _⟩)) (yM_ r_ (yN_ r_ (yF_ r_ (yL_ 2 r_ (aa_ (fun c => ow_callA [0] r_ r_ (gNext_c L _ _ hL hLn g_)) (aa_ (fun c => ow_exarg 28 rfl (fun i => bm_ rfl (gNum_c _) ⟨rfl, .refl _⟩)) (aa_ (fun c => ow_exarg 16 rfl (fun i => ow_exarg 23 rfl (fun j => ow_exarg 29 rfl (fun k => bm_ rfl (gBin_c _ _ _) ⟨rfl, .refl _⟩)))) (ae_ (afin_none ?_)))))))))
    refine jl_slot 30 rfl (fun i => jl_slot 30 rfl (fun j => jl_slot 30 rfl (fun k => S_ 1 r_ (T_ (ar_ (jq_retRow rfl rfl rfl rfl 0 rfl [2, 1] rfl (fun K h => h _ (.bn _ _ _ _ (by have := i.2; omega) (.nm _ _ j.2) (.nu _ _ (by have := k.2; omega))))))))))
end

def czT : T → Int
  | .nu n => if 0 ≤ n ∧ n ≤ 9 then 1 else 13
  | .nm _ => 3
  | .ix _ t => 5 + czT t
  | .bn _ a b => 6 + czT a + czT b
theorem czT_nn : ∀ t : T, 0 ≤ czT t
  | .nu n => by unfold czT; split <;> omega
  | .nm _ => by unfold czT; omega
  | .ix _ t => by have := czT_nn t; unfold czT; omega
  | .bn _ a b => by have := czT_nn a; have := czT_nn b; unfold czT; omega
def czTs : List T → Int
  | [] => 0
  | t :: l => czT t + czTs l
mutual
def Sm.cz : Sm → Int
  | .mk k _ i v _ _ t e => (if k = 1 then 15 else if k = 2 then 17 else if k = 3 then 50 else if k = 4 then 42 else 29) + czTs i + czTs v + Sm.czs t + Sm.czs e
def Sm.czs : List Sm → Int
  | [] => 0
  | s :: l => s.cz + Sm.czs l
end
theorem Sm.czs_app : ∀ l m : List Sm, Sm.czs (l ++ m) = Sm.czs l + Sm.czs m
  | [], m => by simp [Sm.czs]
  | s :: l, m => by simp only [List.cons_append, Sm.czs, Sm.czs_app l m]; omega
theorem czTs_nn : ∀ l : List T, 0 ≤ czTs l
  | [] => by simp [czTs]
  | t :: l => by have := czT_nn t; have := czTs_nn l; unfold czTs; omega
mutual
theorem Sm.cz_nn : ∀ s : Sm, 0 ≤ s.cz
  | .mk k _ i v _ _ t e => by
    have h1 := Sm.czs_nn t
    have h2 := Sm.czs_nn e
    have h3 := czTs_nn i
    have h4 := czTs_nn v
    have h5 : 0 ≤ (if k = 1 then 15 else if k = 2 then 17 else if k = 3 then 50 else if k = 4 then 42 else 29 : Int) := by (repeat' split) <;> omega
    simp only [Sm.cz]
    omega
theorem Sm.czs_nn : ∀ l : List Sm, 0 ≤ Sm.czs l
  | [] => by simp [Sm.czs]
  | s :: l => by have h1 := Sm.cz_nn s; have h2 := Sm.czs_nn l; simp only [Sm.czs]; omega
end
theorem Sm.czs_take (l : List Sm) (n : Nat) : Sm.czs (l.take n) ≤ Sm.czs l := by
  have := Sm.czs_app (l.take n) (l.drop n)
  rw [List.take_append_drop] at this
  have := Sm.czs_nn (l.drop n)
  omega
theorem ExG.cz {V U : List ByteArray} : ∀ {d : Nat} {t : T}, ExG V U d t → czT t ≤ 19 * 2 ^ d - 6 := by
  intro d t h
  have hp : ∀ d : Nat, 1 ≤ (2 : Int) ^ d := fun d => Int.pow_pos (by decide)
  induction h with
  | nu d n h => have := hp d; unfold czT; split <;> omega
  | nm d s h => have := hp d; unfold czT; omega
  | ix d s t _ _ ih => have := hp d; unfold czT; rw [Int.pow_succ]; omega
  | bn d o a b _ _ _ ia ib => have := hp d; unfold czT; rw [Int.pow_succ]; omega
theorem ExG.cz1 {V U : List ByteArray} {t : T} (h : ExG V U 1 t) : czT t ≤ 32 := h.cz
theorem ExG.cz2 {V U : List ByteArray} {t : T} (h : ExG V U 2 t) : czT t ≤ 70 := h.cz

inductive PcG (St : Int → Int → List Sm → Prop) : Nat → Int → Int → List Sm → Prop
  | nil (lab : Int) : PcG St 0 lab lab []
  | snoc (n : Nat) (lab lab1 lab2 : Int) (l l2 : List Sm) (h1 : PcG St n lab lab1 l) (h2 : St lab1 lab2 l2) : PcG St (n + 1) lab lab2 (l ++ l2)
/-- At most so many pieces, whose labels go from one to another. -/
def BlG (St : Int → Int → List Sm → Prop) (most : Int) (lab lab' : Int) (l : List Sm) : Prop := ∃ n : Nat, (n : Int) ≤ most ∧ PcG St n lab lab' l
abbrev E0 : ByteArray := ⟨#[]⟩
def LeafG (V U : List ByteArray) (lab lab' : Int) (l : List Sm) : Prop :=
  lab' = lab ∧ ((∃ s e, s ∈ V ∧ ExG V U 2 e ∧ l = [.mk 1 s [] [e] 0 0 [] []]) ∨ ∃ s e1 e2, s ∈ U ∧ ExG V U 1 e1 ∧ ExG V U 2 e2 ∧ l = [.mk 2 s [e1] [e2] 0 0 [] []])
def IfG (V U : List ByteArray) (St : Int → Int → List Sm → Prop) (lab lab' : Int) (l : List Sm) : Prop :=
  lab < 12 ∧ ∃ c l1 l2 lab1, ExG V U 2 c ∧ BlG St 2 (lab + 1) lab1 l1 ∧ (l2 = [] ∧ lab' = lab1 ∨ BlG St 2 lab1 lab' l2) ∧ l = [.mk 3 E0 [] [c] 0 (lab + 1) l1 l2]
def WhG (V U : List ByteArray) (St : Int → Int → List Sm → Prop) (lab lab' : Int) (l : List Sm) : Prop :=
  ∃ c mx l1, ExG V U 2 c ∧ (0 ≤ mx ∧ mx ≤ 5) ∧ BlG St 2 (lab + 1) lab' l1 ∧ l = [.mk 4 E0 [] [c] mx (lab + 1) l1 []]
def CtG (V : List ByteArray) (St : Int → Int → List Sm → Prop) (lab lab' : Int) (l : List Sm) : Prop :=
  ∃ v n op top mx l1 st, v ∈ V ∧ (0 ≤ n ∧ n ≤ 2) ∧ (0 ≤ op ∧ op ≤ 1) ∧ ((∃ t, (0 ≤ t ∧ t ≤ 5) ∧ top = .nu t) ∨ ∃ s ∈ V, top = .nm s) ∧ (0 ≤ mx ∧ mx ≤ 5) ∧ (1 ≤ st ∧ st ≤ 3) ∧ BlG St 2 (lab + 1) lab' l1 ∧
    l = [.mk 1 v [] [.nu n] 0 0 [] [], .mk 4 E0 [] [.bn (11 + op) (.nm v) top] mx (lab + 1) (l1 ++ [.mk 1 v [] [.bn 1 (.nm v) (.nu st)] 0 0 [] []]) []]
def LpG (V U : List ByteArray) (il : Int) (St : Int → Int → List Sm → Prop) (lab lab' : Int) (l : List Sm) : Prop := il < 2 ∧ lab < 12 ∧ (WhG V U St lab lab' l ∨ CtG V St lab lab' l)
def LkG (Sh : List Shd) (hs : ByteArray) (St : ByteArray → Int → Int → List Sm → Prop) (lab lab' : Int) (l : List Sm) : Prop := hs = E0 ∧ ∃ sh ∈ Sh, ∃ l1, BlG (St sh.2.2) 2 lab lab' l1 ∧ l = [.mk 5 sh.2.2 [] [] 0 0 l1 []]
/-- What one call makes, at a depth, within so many loops, with a resource held. -/
def StG (V A : List ByteArray) (Sh : List Shd) : Nat → Int → ByteArray → Int → Int → List Sm → Prop
  | 0, _, hs => LeafG V (usableF A Sh hs)
  | d + 1, il, hs => fun lab lab' l => LeafG V (usableF A Sh hs) lab lab' l ∨ IfG V (usableF A Sh hs) (StG V A Sh d il hs) lab lab' l ∨ LpG V (usableF A Sh hs) il (StG V A Sh d (il + 1) hs) lab lab' l ∨ LkG Sh hs (StG V A Sh d il) lab lab' l
theorem StG.leaf {V A : List ByteArray} {Sh : List Shd} {d : Nat} {il : Int} {hs : ByteArray} {lab lab' : Int} {l : List Sm} (h : LeafG V (usableF A Sh hs) lab lab' l) : StG V A Sh d il hs lab lab' l := by
  cases d with
  | zero => exact h
  | succ d => exact .inl h

theorem cz_1 (n i v m lb t e) : Sm.cz (.mk 1 n i v m lb t e) = 15 + czTs i + czTs v + Sm.czs t + Sm.czs e := by simp [Sm.cz]
theorem cz_2 (n i v m lb t e) : Sm.cz (.mk 2 n i v m lb t e) = 17 + czTs i + czTs v + Sm.czs t + Sm.czs e := by simp [Sm.cz]
theorem cz_3 (n i v m lb t e) : Sm.cz (.mk 3 n i v m lb t e) = 50 + czTs i + czTs v + Sm.czs t + Sm.czs e := by simp [Sm.cz]
theorem cz_4 (n i v m lb t e) : Sm.cz (.mk 4 n i v m lb t e) = 42 + czTs i + czTs v + Sm.czs t + Sm.czs e := by simp [Sm.cz]
theorem cz_5 (n i v m lb t e) : Sm.cz (.mk 5 n i v m lb t e) = 29 + czTs i + czTs v + Sm.czs t + Sm.czs e := by simp [Sm.cz]
theorem leaf_cz {V U : List ByteArray} {a b : Int} {l : List Sm} (h : LeafG V U a b l) : Sm.czs l ≤ 120 := by
  obtain ⟨_, ⟨s, e, _, he, rfl⟩ | ⟨s, e1, e2, _, he1, he2, rfl⟩⟩ := h
  · have := he.cz2
    simp only [Sm.czs, cz_1, czTs]
    omega
  · have := he1.cz1
    have := he2.cz2
    simp only [Sm.czs, cz_2, czTs]
    omega
theorem while_cz {V U : List ByteArray} {e : T} {mx lb a b : Int} {l : List Sm} (he : ExG V U 2 e) (h : Sm.czs l ≤ 120 * (a - b)) : Sm.czs [.mk 4 ⟨#[]⟩ [] [e] mx lb l []] ≤ 120 * (a + 1 - b) := by
  have := he.cz2
  simp only [Sm.czs, cz_4, czTs]
  omega
theorem count_cz {V : List ByteArray} {v : ByteArray} {n op sp mx lb a b : Int} {top : T} {l : List Sm} (hn : 0 ≤ n ∧ n ≤ 9) (hs : 0 ≤ 1 + sp ∧ 1 + sp ≤ 9) (ht : (∃ t, (0 ≤ t ∧ t ≤ 5) ∧ top = .nu t) ∨ ∃ s ∈ V, top = .nm s) (h : Sm.czs l ≤ 120 * (a - b)) :
    Sm.czs [.mk 1 v [] [.nu n] 0 0 [] [], .mk 4 ⟨#[]⟩ [] [.bn (11 + op) (.nm v) top] mx lb (l ++ [.mk 1 v [] [.bn 1 (.nm v) (.nu (1 + sp))] 0 0 [] []]) []] ≤ 120 * (a + 1 - b) := by
  have e1 : czT (.nu n) = 1 := if_pos hn
  have e2 : czT (.nu (1 + sp)) = 1 := if_pos hs
  have e3 : czT top ≤ 3 := by
    rcases ht with ⟨t, ht, rfl⟩ | ⟨s, _, rfl⟩
    · rw [czT, if_pos (by omega)]; omega
    · exact Int.le_refl _
  have e5 : czT (.bn (11 + op) (.nm v) top) = 6 + 3 + czT top := rfl
  have e6 : czT (.bn 1 (.nm v) (.nu (1 + sp))) = 6 + 3 + czT (.nu (1 + sp)) := rfl
  simp only [Sm.czs, cz_1, cz_4, czTs, Sm.czs_app]
  omega
theorem if_cz {V U : List ByteArray} {e : T} {lb a b c : Int} {l m : List Sm} (he : ExG V U 2 e) (h1 : Sm.czs l ≤ 120 * (a - b)) (h2 : Sm.czs m ≤ 120 * (b - c)) : Sm.czs [.mk 3 ⟨#[]⟩ [] [e] 0 lb l m] ≤ 120 * (a + 1 - c) := by
  have := he.cz2
  simp only [Sm.czs, cz_3, czTs]
  omega
theorem lock_cz {s : ByteArray} {a b : Int} {l : List Sm} (h : Sm.czs l ≤ 120 * (a - b)) : Sm.czs [.mk 5 s [] [] 0 0 l []] ≤ 120 * (a + 1 - b) := by
  simp only [Sm.czs, cz_5, czTs]
  omega
theorem nil_cz {a : Int} : Sm.czs [] ≤ 120 * (a - a) := by simp only [Sm.czs]; omega
attribute [local irreducible] Sm.czs Sm.cz czT czTs

/-- What turns in a maker. -/
structure Ms where
  lv : Value
  lab : Int
  st : Int
abbrev Ms.ok (m : Ms) : Prop := (0 ≤ m.lab ∧ m.lab ≤ 12) ∧ 0 ≤ m.st ∧ m.st ≤ 14
/-- What is given throughout. -/
structure Gv (L : List Int) (V A : List ByteArray) (Sh : List Shd) : Prop where
  hL : InR L
  hLn : L.length ≤ 400
  hV0 : 0 < V.length
  hV : V.length ≤ 100
  hA : A.length ≤ 100
  hSh : Sh.length ≤ 100
def StmtP (L : List Int) (bm bd : Nat) (V A : List ByteArray) (Sh : List Shd) (d : Nat) : Prop :=
  ∀ (m : Ms) (hs : ByteArray) (il : Int) (LS : List ByteArray) (x : Int), m.ok → 0 ≤ il → il ≤ 2 → LS.length ≤ il → x = d →
    Con Tryd.prog 73 [Ptr bm, In .i64 x] [Mk bm bd V m.lv A Sh hs m.lab m.st il, Dk bd L, .own m.lv 9 1 (LS.map Wrow)]
      (fun K => ∀ r : Ms × List Sm, (r.1.ok ∧ r.2.length ≤ 2 ∧ StG V A Sh d il hs m.lab r.1.lab r.2 ∧ Sm.czs r.2 ≤ 120 * (m.st + 1 - r.1.st)) → K (.cell (.list (r.2.map Sm.row))) [Mk bm bd V r.1.lv A Sh hs r.1.lab r.1.st il, Dk bd L, .own r.1.lv 9 1 (LS.map Wrow)])
def BlockP (L : List Int) (bm bd : Nat) (V A : List ByteArray) (Sh : List Shd) (d : Nat) : Prop :=
  ∀ (m : Ms) (hs : ByteArray) (il : Int) (LS : List ByteArray) (x most : Int), m.ok → 0 ≤ il → il ≤ 2 → LS.length ≤ il → x = d → 1 ≤ most → most ≤ 5 →
    ConN Tryd.prog 50 [Ptr bm, In .i64 x, In .i64 most] [Mk bm bd V m.lv A Sh hs m.lab m.st il, Dk bd L, .own m.lv 9 1 (LS.map Wrow)]
      (fun n K => ∀ r : Ms × Value × List Sm, (r.1.ok ∧ FreshN n r.2.1 ∧ (r.2.2.length : Int) ≤ 2 * most ∧ BlG (StG V A Sh d il hs) most m.lab r.1.lab r.2.2 ∧ Sm.czs r.2.2 ≤ 120 * (m.st - r.1.st)) →
        K (.cell (.val r.2.1)) [.own r.2.1 111 8 (r.2.2.map Sm.row), Mk bm bd V r.1.lv A Sh hs r.1.lab r.1.st il, Dk bd L, .own r.1.lv 9 1 (LS.map Wrow)])
section
variable {L : List Int} {bm bd : Nat} {V A : List ByteArray} {Sh : List Shd}

theorem block_step (gv : Gv L V A Sh) (d : Nat) (hstm : StmtP L bm bd V A Sh d) : BlockP L bm bd V A Sh d := by
  intro m hs0 il LS x most hm hil hil2 hLS hx hmo hmo5
  obtain ⟨lv0, lab0, st0⟩ := m
  refine con_introN Tryd.func50 rfl rfl (Nat.le_of_ble_eq_true rfl) (fun c hc => R_ (E_ r_ (T_ (R_ (E_ r_ (T_ (am_ (R_ (M_ r_ (N_ r_ (F_ r_ (L_ 0 r_ (M_ r_ (o_ r_ (bt_ [1] rfl rfl (Nx_c _ gv.hL gv.hLn g_) (fun k0 hk0 => o_ r_ (bj_ r_ r_ g_ ?_)))))))))))))))))
  refine E_ r_ (T_ (au_ (jc_ownNil 111 8 g_ ?_)))
  obtain ⟨n0, hn0⟩ : ∃ n : Nat, 1 + k0 = (n : Int) := ⟨(1 + k0).toNat, by omega⟩
  rw [hn0]
  refine jc_loop (ι := Nat × Ms × Value × List Sm) [0, 1, 2] (fun i => ((i.1 : Int) ≤ most ∧ i.2.1.ok) ∧ c.Fresh i.2.2.1 ∧ ((i.2.2.2.length : Int) + 2 * (i.1 : Int) ≤ 2 * most ∧ Sm.czs i.2.2.2 ≤ 120 * (st0 - i.2.1.st) ∧ ∃ n : Nat, (n : Int) + (i.1 : Int) ≤ most ∧ PcG (StG V A Sh d il hs0) n lab0 i.2.1.lab i.2.2.2)) (fun i => [(7, .cell (.val i.2.2.1)), (8, In .i64 (i.1 : Int))])
    (fun i => [.own i.2.2.1 111 8 (i.2.2.2.map Sm.row), Mk bm bd V i.2.1.lv A Sh hs0 i.2.1.lab i.2.1.st il, Dk bd L, .own i.2.1.lv 9 1 (LS.map Wrow)]) (fun i => i.1) (n0, ⟨lv0, lab0, st0⟩, .slice none 0 0, []) [0, 1, 0, 0] ⟨⟨by dsimp only; omega, hm⟩, fresh_nil, by dsimp only; simp only [List.length_nil]; omega, nil_cz, 0, by dsimp only; omega, .nil _⟩ rfl ?_ ?_
  · (repeat (first | exact True.intro | refine ⟨rfl, ?_⟩))
  · rintro ⟨k, m, v, l⟩ ⟨⟨hk, hok⟩, hf, hl, hcz, np, hnp, hsh⟩
    obtain ⟨lv, lab, st⟩ := m
    obtain ⟨⟨hlab0, hlab1⟩, hst0, hst1⟩ := hok
    dsimp only at hk hlab0 hlab1 hst0 hst1 hf hl hcz hnp hsh ⊢
    have fin : ∀ K : S → List Ch → Prop, (∀ r : Ms × Value × List Sm, (r.1.ok ∧ FreshN c.B.heap.size r.2.1 ∧ (r.2.2.length : Int) ≤ 2 * most ∧ BlG (StG V A Sh d il hs0) most lab0 r.1.lab r.2.2 ∧ Sm.czs r.2.2 ≤ 120 * (st0 - r.1.st)) →
        K (.cell (.val r.2.1)) [.own r.2.1 111 8 (r.2.2.map Sm.row), Mk bm bd V r.1.lv A Sh hs0 r.1.lab r.1.st il, Dk bd L, .own r.1.lv 9 1 (LS.map Wrow)]) →
        K (.cell (.val v)) [.own v 111 8 (l.map Sm.row), Mk bm bd V lv A Sh hs0 lab st il, Dk bd L, .own lv 9 1 (LS.map Wrow)] :=
      fun K h => h (⟨lv, lab, st⟩, v, l) ⟨⟨⟨hlab0, hlab1⟩, hst0, hst1⟩, hf, by dsimp only; omega, ⟨np, by omega, hsh⟩, hcz⟩
    by_cases hk0 : (0 : Int) < (k : Int)
    · refine am_ (R_ (M_ r_ (o_ r_ (bz_ r_ r_ (M_ r_ (ah_ r_ u_ b_ (bd_ r_ (ah_ r_ u_ b_ (bh_ r_ (ah_ r_ u_ b_ (bf_ r_ r_ r_ b_ (ah_ r_ u_ b_ (bg_ 1 r_ r_ r_ r_ (ah_ r_ u_ b_ (bz_ r_ r_ (o_ r_ (bp_ r_ u_ r_ (T_ (jc_condd rfl (fun hst => ?_) (fun hst => ?_))))))))))))))))))))
      · refine as_ (al_ (B_ (R_ (M_ r_ (N_ r_ (F_ r_ (L_ 1 r_ (o_ r_ (cg_ r_ r_ g_ (N_ r_ (F_ r_ (W_ 1 r_ (T_ (an_ (M_ r_ (M_ r_ ?_))))))))))))))))
        refine M_ r_ (o_ r_ (bt_ [0, 1, 1] rfl rfl (hstm ⟨lv, lab, st - 1⟩ hs0 il LS x ⟨⟨hlab0, hlab1⟩, by dsimp only; omega⟩ hil hil2 hLS hx) (fun r hr => ?_)))
        obtain ⟨⟨lv2, lab2, st2⟩, l2⟩ := r
        obtain ⟨hok2, hl2, hsh2, hcz2⟩ := hr
        dsimp only at hok2 hl2 hsh2 hcz2 ⊢
        skip
        refine o_ r_ (ow_appendMF 3 rfl rfl rfl rfl rfl rfl rfl (fun a => by rw [Sm.row_eq]; rfl) (by show (_ + _) * 136 ≤ _; first | omega | (simp only [List.length_append]; omega)) (by first | omega | (simp only [List.length_append]; omega)) (fun v2 hv2 fv2 => E_ r_ (ak_ (ay_ (al_ (an_ (M_ r_ (o_ r_ (cg_ r_ r_ g_ (E_ r_ (ak_ ?_)))))))))))
        refine jq_again (i := (k, ⟨lv, lab, st⟩, v, l)) (k - 1, ⟨lv2, lab2, st2⟩, v2, l ++ l2) [0, 0, 0, 0] ⟨⟨by dsimp only; omega, hok2⟩, fv2 hf, by dsimp only; simp only [List.length_append]; omega, by dsimp only; rw [Sm.czs_app]; omega, np + 1, by dsimp only; omega, .snoc _ _ _ _ _ _ hsh hsh2⟩ (by dsimp only; omega) rfl ?_
        rw [show (((k - 1 : Nat) : Int)) = (k : Int) - 1 by omega]
        (repeat (first | exact True.intro | refine ⟨rfl, ?_⟩))
      · exact av_ (ax_ (ax_ (ba_ (al_ (R_ (M_ r_ (E_ r_ (T_ (ar_ (jq_ret1 rfl rfl [0, 0, 0, 0] rfl fin))))))))))
    · refine am_ (R_ (M_ r_ (o_ r_ (bz_ r_ r_ (M_ r_ (ai_ r_ w_ b_ (ai_ r_ w_ b_ (ai_ r_ w_ b_ (ai_ r_ w_ b_ (ai_ r_ w_ b_ (o_ r_ (bv_ r_ w_ r_ (T_ (jc_cond rfl (fun h => by cases h) (fun _ => av_ (ax_ (ax_ ?_)))))))))))))))))
      exact ba_ (al_ (R_ (M_ r_ (E_ r_ (T_ (ar_ (jq_ret1 rfl rfl [0, 0, 0, 0] rfl fin)))))))
end
end Go.Proofs.YtlniadfidfmckaaDoor
end

section
namespace Go.Proofs.YtlniadfidfmckaaDoor
open Go.Vc
set_option maxHeartbeats 4000000
attribute [local irreducible] JL JC JQ OpWp Con ConN
attribute [local irreducible] StG Sm.czs Sm.cz czT czTs

def LoopP (L : List Int) (bm bd : Nat) (V A : List ByteArray) (Sh : List Shd) (d : Nat) : Prop :=
  ∀ (m : Ms) (hs : ByteArray) (il : Int) (LS : List ByteArray) (x : Int), m.ok → m.lab ≤ 11 → 0 ≤ il → il ≤ 1 → LS.length ≤ il → x = (d + 1 : Nat) →
    Con Tryd.prog 89 [Ptr bm, In .i64 x] [Mk bm bd V m.lv A Sh hs m.lab m.st il, Dk bd L, .own m.lv 9 1 (LS.map Wrow)]
      (fun K => ∀ r : Ms × List Sm, (r.1.ok ∧ r.2.length ≤ 2 ∧ LpG V (usableF A Sh hs) il (StG V A Sh d (il + 1) hs) m.lab r.1.lab r.2 ∧ Sm.czs r.2 ≤ 120 * (m.st + 1 - r.1.st)) → K (.cell (.list (r.2.map Sm.row))) [Mk bm bd V r.1.lv A Sh hs r.1.lab r.1.st il, Dk bd L, .own r.1.lv 9 1 (LS.map Wrow)])

theorem sm_le (k : Int) (nm : ByteArray) (I V : List T) (mx lb : Int) (tt ee : List Sm) {cI cV cT cE : C} (hI : CLe cI (.list (I.map T.row))) (hV : CLe cV (.list (V.map T.row))) (hT : CLe cT (.list (tt.map Sm.row))) (hE : CLe cE (.list (ee.map Sm.row))) :
    RowLe [.val (.int .i64 k), .val (.string nm), cI, cV, .val (.int .i64 mx), .val (.int .i64 lb), cT, cE] (Sm.row (.mk k nm I V mx lb tt ee)) := by
  rw [Sm.row_eq]
  exact .cons (.refl _) (.cons (.refl _) (.cons hI (.cons hV (.cons (.refl _) (.cons (.refl _) (.cons hT (.cons hE .nil)))))))
theorem sm_le' (k : Int) (nm : ByteArray) (I V : List T) (mx lb : Int) (tt ee : List Sm) {cI cV cT cE : C} (hI : CLe cI (.list (I.map T.row))) (hV : CLe cV (.list (V.map T.row))) (hT : CLe cT (.list (tt.map Sm.row))) (hE : CLe cE (.list (ee.map Sm.row))) :
    RowLe [.val (.int .i64 k), .val (.string nm), cI, cV, .val (.int .i64 mx), .val (.int .i64 lb), cT, cE] (Sm.row' (.mk k nm I V mx lb tt ee)) := by
  rw [← Sm.row_eq]; exact sm_le k nm I V mx lb tt ee hI hV hT hE
theorem ex1_le (e : T) : CLe (.list [e.row']) (.list ([e].map T.row)) := CLe.eq (by simp [T.row_eq])
section
variable {L : List Int} {bm bd : Nat} {V A : List ByteArray} {Sh : List Shd}

theorem loop_step (gv : Gv L V A Sh) (d : Nat) (hd10 : d ≤ 10) (hblk : BlockP L bm bd V A Sh d) : LoopP L bm bd V A Sh d := by
  intro m hs0 il LS x hm hm11 hil hil2 hLS hx
  obtain ⟨lv0, lab0, st0⟩ := m
  obtain ⟨⟨hlab0, hlab1⟩, hst0, hst1⟩ := hm
  dsimp only at hlab0 hlab1 hst0 hst1 hm11 ⊢
  refine con_intro Tryd.func89 rfl rfl (Nat.le_of_ble_eq_true rfl) (fun c hc => R_ (E_ r_ (T_ (R_ (M_ r_ (N_ r_ (F_ r_ (L_ 0 r_ (o_ r_ (bj_ r_ r_ g_ (N_ r_ (F_ r_ (W_ 0 r_ (T_ (R_ (M_ r_ ?_))))))))))))))))
  refine N_ r_ (F_ r_ (L_ 0 r_ (o_ r_ (bj_ r_ r_ g_ (N_ r_ (F_ r_ (W_ 0 r_ (T_ (am_ (jc_anyB 11 (some 10) rfl k_ k_ (yM_ r_ (yN_ r_ (yF_ r_ (yL_ 0 r_ (yM_ r_ (yN_ r_ ?_))))))))))))))))
  refine yF_ r_ (yL_ 0 r_ (aa_ (fun c => ow_callA [1] r_ r_ (gNext_c L _ _ gv.hL gv.hLn g_)) (aa_ (fun c => ow_exarg 31 rfl (fun i => bu_ rfl rfl rfl rfl rfl ⟨rfl, .refl _⟩)) (af_ (ae_ (afin_some rfl rfl rfl (fun bS => jl_slot 32 rfl (fun mx => S_ 0 r_ (T_ (am_ (R_ (M_ r_ (N_ r_ (F_ r_ (L_ 1 r_ ?_)))))))))))))))
  refine o_ r_ (bt_ [2] rfl rfl (Nx_c _ gv.hL gv.hLn g_) (fun k0 hk0 => o_ r_ (bn_ r_ r_ (T_ (jc_condd rfl (fun h3 => ?_) (fun h3 => ?_))))))
  · refine R_ (M_ r_ (o_ r_ (bt_ [2, 0] rfl rfl (gcondition_c gv.hL gv.hLn gv.hV0 gv.hV gv.hA gv.hSh) (fun e1 he1 => o_ r_ (bq_ r_ r_ b_ r_ r_ b_ (F_ r_ (W_ 2 r_ (T_ (R_ (M_ r_ (M_ r_ (o_ r_ (cg_ r_ r_ g_ (o_ r_ (ow_callNP [1, 1, 1] rfl rfl (hblk ⟨lv0, lab0 + 1, st0⟩ hs0 (il + 1) LS (x - 1) 2 ⟨⟨by dsimp only; omega, by dsimp only; omega⟩, hst0, hst1⟩ g_ g_ g_ g_ g_ g_) (fun r n hn hr => ?_))))))))))))))))
    obtain ⟨⟨lv2, lab2, st2⟩, v2, l2⟩ := r
    obtain ⟨hok2, hf2, hl2, hsh2, hcz2⟩ := hr
    dsimp only at hok2 hl2 hsh2 hcz2 ⊢
    refine jl_freezeF 46 0 rfl rfl (hf2.mono hn) (F_ r_ (W_ 3 r_ (T_ (R_ (M_ r_ (N_ r_ (F_ r_ (L_ 1 r_ (o_ r_ (cg_ r_ r_ g_ (N_ r_ (F_ r_ (W_ 1 r_ (T_ (R_ (A_ 1 r_ ?_))))))))))))))))
    refine o_ r_ (bq_ r_ r_ b_ r_ r_ b_ (E_ r_ (T_ (ar_ (aw_ (jq_sle 4 rfl (SLe.cell (CLe.list (.cons (sm_le 4 ⟨#[]⟩ [] [e1] mx.1 (lab0 + 1) l2 [] .nil (ex1_le e1) (.refl _) .nil) .nil))) ?_))))))
    have fin : ∀ K : S → List Ch → Prop, (∀ r : Ms × List Sm, (r.1.ok ∧ r.2.length ≤ 2 ∧ LpG V (usableF A Sh hs0) il (StG V A Sh d (il + 1) hs0) lab0 r.1.lab r.2 ∧ Sm.czs r.2 ≤ 120 * (st0 + 1 - r.1.st)) → K (.cell (.list (r.2.map Sm.row))) [Mk bm bd V r.1.lv A Sh hs0 r.1.lab r.1.st il, Dk bd L, .own r.1.lv 9 1 (LS.map Wrow)]) →
        K (.cell (.list [Sm.row (.mk 4 ⟨#[]⟩ [] [e1] mx.1 (lab0 + 1) l2 [])])) [Mk bm bd V lv2 A Sh hs0 lab2 st2 (il + 1 - 1), Dk bd L, .own lv2 9 1 (LS.map Wrow)] := by
      intro K h
      rw [show il + 1 - 1 = il by omega]
      exact h (⟨lv2, lab2, st2⟩, [.mk 4 ⟨#[]⟩ [] [e1] mx.1 (lab0 + 1) l2 []]) ⟨hok2, by simp, ⟨by omega, by omega, .inl ⟨e1, mx.1, l2, he1, by have := mx.2; omega, hsh2, rfl⟩⟩, while_cz he1 hcz2⟩
    exact jq_ret1 rfl rfl [0, 1, 1] rfl fin
  · refine as_ (al_ (R_ (M_ r_ (o_ r_ (bt_ [2, 0, 1] rfl rfl (gtarget_c gv.hL gv.hLn gv.hV0 gv.hV g_) (fun tg htg => E_ r_ (T_ (R_ (M_ r_ (N_ r_ (F_ r_ (L_ 0 r_ (o_ r_ (bt_ [1] rfl rfl (Nx_c _ gv.hL gv.hLn g_) (fun sp hsp => o_ r_ (bj_ r_ r_ g_ (E_ r_ (T_ ?_))))))))))))))))))
    refine R_ (M_ r_ (N_ r_ (F_ r_ (L_ 1 r_ (o_ r_ (bt_ [0] rfl rfl (Nx_c _ gv.hL gv.hLn g_) (fun tp htp => o_ r_ (bm_ r_ (gNum_c _) (o_ r_ (bl_ r_ r_ (fun bl => S_ 0 r_ (T_ (am_ (R_ (M_ r_ (N_ r_ (F_ r_ (L_ 2 r_ ?_))))))))))))))))))
    refine o_ r_ (bt_ [1] rfl rfl (Nx_c _ gv.hL gv.hLn g_) (fun k4 hk4 => o_ r_ (bn_ r_ r_ (T_ ?_))))
    refine jc_cut (ι := T) [0, 1, 5, 6, 7, 8] (fun top => (∃ t, (0 ≤ t ∧ t ≤ 5) ∧ top = .nu t) ∨ ∃ s ∈ V, top = .nm s) (fun _ => []) (fun e => [Mk bm bd V lv0 A Sh hs0 (lab0 + 1) st0 (il + 1), Dk bd L, .own lv0 9 1 (LS.map Wrow), .blk bS 111 [.val (.int .i64 4), .val (.string ⟨#[]⟩), .val (.slice none 0 0), .val (.slice none 0 0), .val (.int .i64 mx.1), .val (.int .i64 (lab0 + 1)), .val (.slice none 0 0), .val (.slice none 0 0)], .blk bl 47 (T.row' e)]) ?_ ?_
    · refine jc_condd rfl (fun h2 => ?_) (fun h2 => ?_)
      · refine an_ (M_ r_ (M_ r_ (N_ r_ (F_ r_ (L_ 2 r_ (o_ r_ (bt_ [2, 0] rfl rfl (gname_c gv.hL gv.hLn V gv.hV0 (by have := gv.hV; omega)) (fun nm hnm => o_ r_ (bm_ r_ (gName_c _) (S_ 2 r_ (ak_ (jq_cut (T.nm nm) [1, 1, 1, 1, 0] (.inr ⟨nm, hnm, rfl⟩) rfl ?_))))))))))))
        (repeat (first | exact True.intro | refine ⟨rfl, ?_⟩))
      · refine as_ (jq_cut (T.nu tp) [2, 0, 1, 1, 0] (.inl ⟨tp, by omega, rfl⟩) rfl ?_)
        (repeat (first | exact True.intro | refine ⟨rfl, ?_⟩))
    · intro e8 he8
      refine R_ (M_ r_ (M_ r_ (N_ r_ (F_ r_ (L_ 0 r_ (M_ r_ (o_ r_ (bq_ r_ r_ b_ r_ r_ b_ (o_ r_ (ow_append1F 2 (tg) rfl rfl rfl rfl rfl rfl rfl (fun _ => rfl) (by show (_ + _) * 16 ≤ _; first | omega | (simp only [List.length_append]; omega)) (by first | omega | (simp only [List.length_append]; omega)) (fun lv1 hlv1 flv1 => N_ r_ (F_ r_ (W_ 1 r_ (T_ (am_ (jc_anyB 12 none rfl k_ k_ (yM_ r_ ?_)))))))))))))))))
      refine yN_ r_ (yF_ r_ (yL_ 0 r_ (aa_ (fun c => ow_callA [2] r_ r_ (gNext_c L _ _ gv.hL gv.hLn g_)) (aa_ (fun c => ow_exarg 98 rfl (fun i => bj_ rfl rfl (by have := i.2; omega) ⟨rfl, .refl _⟩)) (yM_ r_ (aa_ (fun c => bm_ r_ (gName_c _) p_) (aa_ (fun c => bs_ 4 r_ r_ r_ r_ p_) (aa_ (fun c => ow_exarg 99 rfl (fun i => bm_ rfl (gBin_c _ _ _) ⟨rfl, .refl _⟩)) ?_))))))))
      refine aa_ (fun c => ow_exarg 103 rfl (fun i => bq_ rfl rfl b_ rfl rfl b_ ⟨rfl, .refl _⟩)) (yF_ r_ (ae_ (afin_none (jl_slot 104 rfl (fun op => W_ 3 r_ (T_ (R_ (M_ r_ (M_ r_ (o_ r_ (cg_ r_ r_ g_ ?_)))))))))))
      have con := hblk ⟨lv1, lab0 + 1, st0⟩ hs0 (il + 1) (LS ++ [tg]) (x - 1) 2 ⟨⟨by dsimp only; omega, by dsimp only; omega⟩, hst0, hst1⟩ (by omega) (by omega) (by simp only [List.length_append, List.length_cons, List.length_nil]; omega) (by omega) (by omega) (by omega)
      dsimp only at con
      refine o_ r_ (ow_callNP [1, 2, 1] rfl rfl (con) (fun r n hn hr => ?_))
      obtain ⟨⟨lv2, lab2, st2⟩, v2, l2⟩ := r
      obtain ⟨hok2, hf2, hl2, hsh2, hcz2⟩ := hr
      dsimp only at hok2 hl2 hsh2 hf2 hcz2 ⊢
      refine M_ r_ (M_ r_ (o_ r_ (bm_ r_ (gName_c _) (M_ r_ (o_ r_ (bm_ r_ (gNum_c _) (o_ r_ (bm_ r_ (gBin_c _ _ _) (o_ r_ (bq_ r_ r_ b_ r_ r_ b_ (o_ r_ (bu_ r_ r_ r_ r_ r_ (o_ r_ (bq_ r_ r_ b_ r_ r_ b_ (jl_sle 118 rfl (SLe.cell (CLe.list (.cons (sm_le 1 tg [] [.bn 1 (.nm tg) (.nu (1 + sp))] 0 0 [] [] .nil (ex1_le _) .nil .nil) .nil))) ?_)))))))))))))))
      refine o_ r_ (ow_append1F 0 ((.mk 1 tg [] [.bn 1 (.nm tg) (.nu (1 + sp))] 0 0 [] [])) rfl rfl rfl rfl rfl rfl rfl (fun a => by rw [Sm.row_eq]; rfl) (by show (_ + _) * 136 ≤ _; first | omega | (simp only [List.length_append]; omega)) (by first | omega | (simp only [List.length_append]; omega)) (fun v3 hv3 fv3 => jl_freezeF 119 0 rfl rfl (fv3 (hf2.mono hn)) (F_ r_ (W_ 3 r_ (T_ (am_ ?_))))))
      have eL : (List.map Wrow (LS ++ [tg])).length = LS.length + 1 := by simp
      refine jc_anyB 12 none rfl k_ k_ (yM_ r_ (yM_ r_ (yN_ r_ (yF_ r_ (yL_ 1 r_ (yM_ r_ (yN_ r_ (yF_ r_ (yL_ 1 r_ (aa_ (fun c => cw_ 3 r_ r_ (fun hlen => p_)) (aa_ (fun c => cg_ r_ r_ g_ p_) ?_)))))))))))
      (first | refine any_op (fun c => ow_trim 3 rfl rfl rfl (by omega) (by omega) ⟨rfl, .refl _⟩) ?_ | refine any_op (fun c => ow_trim 2 rfl rfl rfl (by omega) (by omega) ⟨rfl, .refl _⟩) ?_ | refine any_op (fun c => ow_trim 4 rfl rfl rfl (by omega) (by omega) ⟨rfl, .refl _⟩) ?_)
      refine ae_ ?_
      try refine afin_none ?_
      rw [show ((((List.map Wrow (LS ++ [tg])).length : Nat) : Int) - 1).toNat = LS.length by omega]
      (first | refine jl_trim 3 LS.length rfl (by omega) ?_ | refine jl_trim 2 LS.length rfl (by omega) ?_ | refine jl_trim 4 LS.length rfl (by omega) ?_)
      rw [show (List.map Wrow (LS ++ [tg])).take LS.length = List.map Wrow LS by rw [List.map_append, List.take_left' (by simp)]]
      generalize trimV lv2 LS.length = lv3
      refine N_ r_ (F_ r_ (W_ 2 r_ (T_ (R_ (M_ r_ (N_ r_ (F_ r_ (L_ 0 r_ (o_ r_ (cg_ r_ r_ g_ (N_ r_ (F_ r_ (W_ 0 r_ (T_ (am_ (ao_ r_ r_ k_ k_ ?_))))))))))))))))
      refine yM_ r_ (yM_ r_ (yN_ r_ (yF_ r_ (yL_ 0 r_ (aa_ (fun c => ow_callA [3] r_ r_ (gNext_c L _ _ gv.hL gv.hLn g_)) (aa_ (fun c => ow_exarg 147 rfl (fun i => bm_ rfl (gNum_c _) ⟨rfl, .refl _⟩)) (aa_ (fun c => ow_exarg 148 rfl (fun i => bq_ rfl rfl b_ rfl rfl b_ ⟨rfl, .refl _⟩)) (aa_ (fun c => ow_exarg 149 rfl (fun i => bu_ rfl rfl rfl rfl rfl ⟨rfl, .refl _⟩)) (aa_ (fun c => bs_ 2 r_ r_ r_ r_ p_) ?_)))))))))
      refine aa_ (fun c => ow_exarg 150 rfl (fun i => bq_ rfl rfl b_ rfl rfl b_ ⟨rfl, .refl _⟩)) (yE_ r_ (ae_ (al_ (ar_ (jq_slot 4 rfl (fun i => ?_))))))
      refine jq_sle 4 rfl (SLe.cell (CLe.list (.cons (sm_le 1 tg [] [.nu i.1] 0 0 [] [] .nil (ex1_le _) .nil .nil) (.cons (sm_le 4 ⟨#[]⟩ [] [.bn (11 + op.1) (.nm tg) e8] mx.1 (lab0 + 1) (l2 ++ [(.mk 1 tg [] [.bn 1 (.nm tg) (.nu (1 + sp))] 0 0 [] [])]) [] .nil (ex1_le _) (.refl _) .nil) .nil)))) ?_
      have fin : ∀ K : S → List Ch → Prop, (∀ r : Ms × List Sm, (r.1.ok ∧ r.2.length ≤ 2 ∧ LpG V (usableF A Sh hs0) il (StG V A Sh d (il + 1) hs0) lab0 r.1.lab r.2 ∧ Sm.czs r.2 ≤ 120 * (st0 + 1 - r.1.st)) → K (.cell (.list (r.2.map Sm.row))) [Mk bm bd V r.1.lv A Sh hs0 r.1.lab r.1.st il, Dk bd L, .own r.1.lv 9 1 (LS.map Wrow)]) →
          K (.cell (.list [Sm.row (.mk 1 tg [] [.nu i.1] 0 0 [] []), Sm.row (.mk 4 ⟨#[]⟩ [] [.bn (11 + op.1) (.nm tg) e8] mx.1 (lab0 + 1) (l2 ++ [.mk 1 tg [] [.bn 1 (.nm tg) (.nu (1 + sp))] 0 0 [] []]) [])])) [Mk bm bd V lv3 A Sh hs0 lab2 st2 (il + 1 - 1), Dk bd L, .own lv3 9 1 (LS.map Wrow)] := by
        intro K h
        rw [show il + 1 - 1 = il by omega]
        exact h (⟨lv3, lab2, st2⟩, [.mk 1 tg [] [.nu i.1] 0 0 [] [], .mk 4 ⟨#[]⟩ [] [.bn (11 + op.1) (.nm tg) e8] mx.1 (lab0 + 1) (l2 ++ [.mk 1 tg [] [.bn 1 (.nm tg) (.nu (1 + sp))] 0 0 [] []]) []])
          ⟨hok2, by simp, ⟨by clear he8; omega, by clear he8; omega, .inr ⟨tg, i.1, op.1, e8, mx.1, l2, 1 + sp, htg, by clear he8; have := i.2; omega, by clear he8; have := op.2; omega, he8, by clear he8; have := mx.2; omega, by clear he8 hok2; omega, hsh2, rfl⟩⟩, count_cz (by have := i.2; clear he8; omega) (by clear he8; omega) he8 hcz2⟩
      first | exact jq_ret1 rfl rfl [0, 1, 0] rfl fin | exact jq_ret1 rfl rfl [0, 2, 0] rfl fin | exact jq_ret1 rfl rfl [0, 3, 0] rfl fin | exact jq_ret1 rfl rfl [0, 4, 0] rfl fin
end
end Go.Proofs.YtlniadfidfmckaaDoor
end

section
namespace Go.Proofs.YtlniadfidfmckaaDoor
open Go.Vc
set_option maxHeartbeats 4000000
attribute [local irreducible] JL JC JQ OpWp Con ConN
theorem StG.inn {V A : List ByteArray} {Sh : List Shd} {d : Nat} {il : Int} {hs : ByteArray} {lab lab' : Int} {l : List Sm} (h : IfG V (usableF A Sh hs) (StG V A Sh d il hs) lab lab' l ∨ LpG V (usableF A Sh hs) il (StG V A Sh d (il + 1) hs) lab lab' l ∨ LkG Sh hs (StG V A Sh d il) lab lab' l) : StG V A Sh (d + 1) il hs lab lab' l := .inr h
attribute [local irreducible] StG Sm.czs Sm.cz czT czTs

section
variable {L : List Int} {bm bd : Nat} {V A : List ByteArray} {Sh : List Shd}

theorem stmt_step (gv : Gv L V A Sh) (d : Nat) (hd10 : d ≤ 10) (hblk : ∀ d', d = d' + 1 → BlockP L bm bd V A Sh d') (hloop : ∀ d', d = d' + 1 → LoopP L bm bd V A Sh d') : StmtP L bm bd V A Sh d := by
  intro m hs0 il LS x hm hil hil2 hLS hx
  obtain ⟨lv0, lab0, st0⟩ := m
  obtain ⟨⟨hlab0, hlab1⟩, hst0, hst1⟩ := hm
  dsimp only at hlab0 hlab1 hst0 hst1 ⊢
  refine con_intro Tryd.func73 rfl rfl (Nat.le_of_ble_eq_true rfl) (fun c hc => R_ (E_ r_ (T_ (R_ (M_ r_ (N_ r_ (F_ r_ (L_ 0 r_ (o_ r_ (bt_ [1] rfl rfl (Nx_c _ gv.hL gv.hLn g_) (fun k0 hk0 => E_ r_ (T_ (am_ (am_ (jc_cut (ι := Bool) [0, 1, 4, 5] (fun b => b = false → 0 < x ∧ lab0 < 12) (fun b => [(23, Bl b)]) (fun _ => [Mk bm bd V lv0 A Sh hs0 lab0 st0 il, Dk bd L, .own lv0 9 1 (LS.map Wrow)]) ?_ ?_)))))))))))))))
  · by_cases hx0 : x ≤ 0
    · refine an_ (M_ r_ (o_ r_ (cu_ r_ r_ (M_ r_ (ai_ r_ u_ b_ (ai_ r_ u_ b_ (ai_ r_ u_ b_ (ai_ r_ u_ b_ (ai_ r_ u_ b_ (o_ r_ (bp_ r_ u_ r_ (ak_ (jq_cut true [1, 0, 0] (by simp) rfl ?_)))))))))))))
      (repeat (first | exact True.intro | refine ⟨rfl, ?_⟩))
    · refine an_ (M_ r_ (o_ r_ (cu_ r_ r_ (M_ r_ (ah_ r_ w_ b_ (bd_ r_ (ah_ r_ w_ b_ (bh_ r_ (ah_ r_ w_ b_ (bf_ r_ r_ r_ b_ (ah_ r_ w_ b_ (bg_ 1 r_ r_ r_ r_ (ah_ r_ w_ b_ (cn_ r_ r_ (o_ r_ (bv_ r_ w_ r_ (ak_ (jq_cut (decide (12 ≤ lab0)) [1, 0, 0] (by simp; omega) rfl ?_))))))))))))))))))
      (repeat (first | exact True.intro | refine ⟨rfl, ?_⟩))
  intro b hb
  skip
  have ht : 0 ≤ k0 % 3 ∧ k0 % 3 ≤ 2 := by omega
  refine jc_cut (ι := Int) [0, 1, 4] (fun k => 0 ≤ k ∧ k ≤ 8 ∧ (2 < k → 0 < x ∧ lab0 < 12)) (fun k => [(5, In .i64 k)]) (fun _ => [Mk bm bd V lv0 A Sh hs0 lab0 st0 il, Dk bd L, .own lv0 9 1 (LS.map Wrow)]) ?_ ?_
  · refine jc_cond rfl (fun h => ?_) (fun h => ?_)
    · refine an_ (M_ r_ (o_ r_ (ow_rem64 r_ r_ g_ g_ (E_ r_ (ak_ (jq_cut (k0 % 3) [0, 0, 0] g_ rfl ?_))))))
      (repeat (first | exact True.intro | refine ⟨rfl, ?_⟩))
    · refine as_ (jq_cut k0 [0, 0, 0] ⟨hk0.1, by omega, fun _ => hb h⟩ rfl ?_)
      (repeat (first | exact True.intro | refine ⟨rfl, ?_⟩))
  intro k ⟨hk1, hk8, hkd⟩
  clear ht
  have fin1 : ∀ (s : Sm) (m : Ms), m.ok → StG V A Sh d il hs0 lab0 m.lab [s] → Sm.czs [s] ≤ 120 * (st0 + 1 - m.st) → ∀ K : S → List Ch → Prop, (∀ r : Ms × List Sm, (r.1.ok ∧ r.2.length ≤ 2 ∧ StG V A Sh d il hs0 lab0 r.1.lab r.2 ∧ Sm.czs r.2 ≤ 120 * (st0 + 1 - r.1.st)) → K (.cell (.list (r.2.map Sm.row))) [Mk bm bd V r.1.lv A Sh hs0 r.1.lab r.1.st il, Dk bd L, .own r.1.lv 9 1 (LS.map Wrow)]) →
      K (.cell (.list [s.row])) [Mk bm bd V m.lv A Sh hs0 m.lab m.st il, Dk bd L, .own m.lv 9 1 (LS.map Wrow)] :=
    fun s m hm hs hz K h => h (m, [s]) ⟨hm, by simp, hs, hz⟩
  have fin0 : ∀ (s : Sm), LeafG V (usableF A Sh hs0) lab0 lab0 [s] → ∀ K : S → List Ch → Prop, (∀ r : Ms × List Sm, (r.1.ok ∧ r.2.length ≤ 2 ∧ StG V A Sh d il hs0 lab0 r.1.lab r.2 ∧ Sm.czs r.2 ≤ 120 * (st0 + 1 - r.1.st)) → K (.cell (.list (r.2.map Sm.row))) [Mk bm bd V r.1.lv A Sh hs0 r.1.lab r.1.st il, Dk bd L, .own r.1.lv 9 1 (LS.map Wrow)]) →
      K (.cell (.list [s.row])) [Mk bm bd V lv0 A Sh hs0 lab0 st0 il, Dk bd L, .own lv0 9 1 (LS.map Wrow)] :=
    fun s hs => fin1 s ⟨lv0, lab0, st0⟩ ⟨⟨hlab0, hlab1⟩, hst0, hst1⟩ (.leaf hs) (by have := leaf_cz hs; dsimp only; omega)
  have hU := usable_len A Sh hs0
  have hUA := gv.hA
  have hUS := gv.hSh
  refine am_ (R_ (M_ r_ (T_ (jc_cut (ι := Unit) [0, 1] (fun _ => True) (fun _ => []) (fun _ => [Mk bm bd V lv0 A Sh hs0 lab0 st0 il, Dk bd L, .own lv0 9 1 (LS.map Wrow)]) ?_ ?_))))
  · refine au_ (R_ (o_ r_ (bn_ r_ r_ (E_ r_ (T_ (jc_condd rfl (fun h1 => ?_) (fun h1 => ?_)))))))
    · refine R_ (M_ r_ (o_ r_ (bi_ [0] r_ r_ (gusable_c gv.hA gv.hSh) (E_ r_ (T_ (R_ (M_ r_ (o_ r_ (br_ r_ (fun hlen => o_ r_ (bz_ r_ r_ (T_ (jc_condd rfl (fun hp => ?_) (fun hp => ?_))))))))))))))
      · simp only [List.length_map] at hp
        refine R_ (M_ r_ (M_ r_ (o_ r_ (bt_ [0, 0] rfl rfl (gname_c gv.hL gv.hLn (usableF A Sh hs0) g_ g_) (fun s1 hs1 => M_ r_ (o_ r_ (bt_ [0, 0] rfl rfl (gexpr_c gv.hL gv.hLn gv.hV0 gv.hV gv.hA gv.hSh 1 1 g_ g_ g_) (fun e1 he1 => o_ r_ (bq_ r_ r_ b_ r_ r_ b_ (M_ r_ (o_ r_ (bt_ [0, 0] rfl rfl (gexpr_c gv.hL gv.hLn gv.hV0 gv.hV gv.hA gv.hSh 2 2 g_ g_ g_) (fun e2 he2 => o_ r_ (bq_ r_ r_ b_ r_ r_ b_ ?_))))))))))))))
        exact o_ r_ (bu_ r_ r_ r_ r_ r_ (o_ r_ (bq_ r_ r_ b_ r_ r_ b_ (E_ r_ (T_ (ar_ (az_ (aw_ (jq_sle 4 rfl (SLe.cell (CLe.list (.cons (sm_le 2 s1 [e1] [e2] 0 0 [] [] (ex1_le e1) (ex1_le e2) .nil .nil) .nil))) (jq_ret1 rfl rfl [0, 0, 0] rfl (fin0 _ ⟨rfl, .inr ⟨s1, e1, e2, hs1, he1, he2, rfl⟩⟩)))))))))))
      · refine as_ (ay_ (jq_cut () [0, 0, 0] trivial rfl ?_))
        (repeat (first | exact True.intro | refine ⟨rfl, ?_⟩))
    · refine am_ (jc_cut (ι := Bool) [0, 1, 26] (fun b => b = decide (k = 3 ∨ k = 4 ∨ k = 5)) (fun b => [(45, Bl b)]) (fun _ => [Mk bm bd V lv0 A Sh hs0 lab0 st0 il, Dk bd L, .own lv0 9 1 (LS.map Wrow)]) ?_ ?_)
      · refine R_ (o_ r_ (bn_ r_ r_ (E_ r_ (T_ (jc_condd rfl (fun h3 => ?_) (fun h3 => ?_))))))
        · refine as_ (jq_cut (decide (k = 3)) [0, 0, 0] (by rw [decide_eq_decide]; omega) rfl ?_)
          (repeat (first | exact True.intro | refine ⟨rfl, ?_⟩))
        · refine R_ (o_ r_ (bn_ r_ r_ (E_ r_ (T_ (jc_condd rfl (fun h4 => ?_) (fun h4 => ?_))))))
          · refine as_ (jq_cut (decide (k = 4)) [0, 0, 0] (by rw [decide_eq_decide]; omega) rfl ?_)
            (repeat (first | exact True.intro | refine ⟨rfl, ?_⟩))
          · refine an_ (o_ r_ (bn_ r_ r_ (E_ r_ (ak_ (jq_cut (decide (k = 5)) [0, 0, 0] (by rw [decide_eq_decide]; omega) rfl ?_)))))
            (repeat (first | exact True.intro | refine ⟨rfl, ?_⟩))
      intro b hb
      refine jc_cond rfl (fun hbt => ?_) (fun hbt => ?_)
      · have hk3 : k = 3 ∨ k = 4 ∨ k = 5 := by rw [hb] at hbt; exact of_decide_eq_true hbt
        obtain ⟨hx0, hl12⟩ := hkd (by omega)
        obtain ⟨d', rfl⟩ : ∃ d', d = d' + 1 := ⟨d - 1, by omega⟩
        have hblk := hblk d' rfl
        clear hloop
        refine R_ (M_ r_ (N_ r_ (F_ r_ (L_ 0 r_ (o_ r_ (bj_ r_ r_ g_ (N_ r_ (F_ r_ (W_ 0 r_ (T_ (am_ (jc_anyB 9 (some 8) rfl k_ k_ (yM_ r_ (yN_ r_ (yF_ r_ (yL_ 0 r_ ?_))))))))))))))))
        refine yM_ r_ (aa_ (fun c => ow_callA [0, 0] r_ r_ (con_toEx (gcondition_c gv.hL gv.hLn gv.hV0 gv.hV gv.hA gv.hSh))) (aa_ (fun c => ow_exarg 61 rfl (fun i => bq_ rfl rfl b_ rfl rfl b_ ⟨rfl, .refl _⟩)) (aa_ (fun c => ow_exarg 62 rfl (fun i => bu_ rfl rfl rfl rfl rfl ⟨rfl, .refl _⟩)) (af_ (ae_ (afin_some rfl rfl rfl (fun bS => jl_slot 63 rfl (fun e1 => S_ 0 r_ (T_ (R_ (M_ r_ (M_ r_ (o_ r_ (cg_ r_ r_ g_ ?_))))))))))))))
        refine o_ r_ (ow_callNP [1, 1, 1] rfl rfl (hblk ⟨lv0, lab0 + 1, st0⟩ hs0 il LS (x - 1) 2 ⟨⟨by dsimp only; omega, by dsimp only; omega⟩, hst0, hst1⟩ hil hil2 hLS g_ g_ g_) (fun r n hn hr => ?_))
        obtain ⟨⟨lv1, lab1, st1⟩, v1, l1⟩ := r
        obtain ⟨hok1, hf1, hl1, hsh1, hcz1⟩ := hr
        dsimp only at hok1 hl1 hsh1 hf1 hcz1 ⊢
        refine jl_freezeF 67 0 rfl rfl (hf1.mono hn) (F_ r_ (W_ 3 r_ (T_ (am_ ?_))))
        refine jc_cut (ι := Ms × List Sm) [0, 1, 7] (fun r => r.1.ok ∧ r.2.length ≤ 4 ∧ (r.2 = [] ∧ r.1.lab = lab1 ∨ BlG (StG V A Sh d' il hs0) 2 lab1 r.1.lab r.2) ∧ Sm.czs r.2 ≤ 120 * (st1 - r.1.st)) (fun _ => []) (fun r => [Mk bm bd V r.1.lv A Sh hs0 r.1.lab r.1.st il, Dk bd L, .own r.1.lv 9 1 (LS.map Wrow), .blk bS 111 (Sm.row' (.mk 3 ⟨#[]⟩ [] [e1.1] 0 (lab0 + 1) l1 r.2))]) ?_ ?_
        · refine R_ (M_ r_ (N_ r_ (F_ r_ (L_ 1 r_ (o_ r_ (bt_ [2] rfl rfl (Nx_c _ gv.hL gv.hLn g_) (fun k4 hk4 => o_ r_ (bn_ r_ r_ (T_ (jc_condd rfl (fun h2 => ?_) (fun h2 => ?_)))))))))))
          · refine an_ (M_ r_ (M_ r_ (o_ r_ (cg_ r_ r_ g_ (o_ r_ (ow_callNP [2, 0, 1] rfl rfl (hblk ⟨lv1, lab1, st1⟩ hs0 il LS (x - 1) 2 hok1 hil hil2 hLS g_ g_ g_) (fun r n2 hn2 hr => ?_)))))))
            obtain ⟨⟨lv2, lab2, st2⟩, v2, l2⟩ := r
            obtain ⟨hok2, hf2, hl2, hsh2, hcz2⟩ := hr
            dsimp only at hok2 hl2 hsh2 hf2 hcz2 ⊢
            refine jl_freezeF 78 0 rfl rfl (hf2.mono hn2) (F_ r_ (W_ 3 r_ (ak_ ?_)))
            (first | refine jq_row 0 _ rfl (sm_le' 3 ⟨#[]⟩ [] [e1.1] 0 (lab0 + 1) l1 l2 .nil (ex1_le e1.1) (.refl _) (.refl _)) ?_ | refine jq_row 1 _ rfl (sm_le' 3 ⟨#[]⟩ [] [e1.1] 0 (lab0 + 1) l1 l2 .nil (ex1_le e1.1) (.refl _) (.refl _)) ?_ | refine jq_row 2 _ rfl (sm_le' 3 ⟨#[]⟩ [] [e1.1] 0 (lab0 + 1) l1 l2 .nil (ex1_le e1.1) (.refl _) (.refl _)) ?_ | refine jq_row 3 _ rfl (sm_le' 3 ⟨#[]⟩ [] [e1.1] 0 (lab0 + 1) l1 l2 .nil (ex1_le e1.1) (.refl _) (.refl _)) ?_)
            (first | refine jq_cut (⟨lv2, lab2, st2⟩, l2) [1, 1, 1, 0] ⟨hok2, by dsimp only; omega, .inr hsh2, hcz2⟩ rfl ?_ | refine jq_cut (⟨lv2, lab2, st2⟩, l2) [1, 2, 1, 0] ⟨hok2, by dsimp only; omega, .inr hsh2, hcz2⟩ rfl ?_ | refine jq_cut (⟨lv2, lab2, st2⟩, l2) [2, 1, 1, 0] ⟨hok2, by dsimp only; omega, .inr hsh2, hcz2⟩ rfl ?_ | refine jq_cut (⟨lv2, lab2, st2⟩, l2) [2, 2, 1, 0] ⟨hok2, by dsimp only; omega, .inr hsh2, hcz2⟩ rfl ?_ | refine jq_cut (⟨lv2, lab2, st2⟩, l2) [3, 1, 1, 0] ⟨hok2, by dsimp only; omega, .inr hsh2, hcz2⟩ rfl ?_ | refine jq_cut (⟨lv2, lab2, st2⟩, l2) [3, 2, 1, 0] ⟨hok2, by dsimp only; omega, .inr hsh2, hcz2⟩ rfl ?_)
            (repeat (first | exact True.intro | refine ⟨rfl, ?_⟩))
          · refine as_ ?_
            (first | refine jq_row 0 _ rfl (sm_le' 3 ⟨#[]⟩ [] [e1.1] 0 (lab0 + 1) l1 [] .nil (ex1_le e1.1) (.refl _) .nil) ?_ | refine jq_row 1 _ rfl (sm_le' 3 ⟨#[]⟩ [] [e1.1] 0 (lab0 + 1) l1 [] .nil (ex1_le e1.1) (.refl _) .nil) ?_ | refine jq_row 2 _ rfl (sm_le' 3 ⟨#[]⟩ [] [e1.1] 0 (lab0 + 1) l1 [] .nil (ex1_le e1.1) (.refl _) .nil) ?_ | refine jq_row 3 _ rfl (sm_le' 3 ⟨#[]⟩ [] [e1.1] 0 (lab0 + 1) l1 [] .nil (ex1_le e1.1) (.refl _) .nil) ?_)
            (first | refine jq_cut (⟨lv1, lab1, st1⟩, []) [1, 1, 1, 0] ⟨hok1, by simp, .inl ⟨rfl, rfl⟩, nil_cz⟩ rfl ?_ | refine jq_cut (⟨lv1, lab1, st1⟩, []) [1, 2, 1, 0] ⟨hok1, by simp, .inl ⟨rfl, rfl⟩, nil_cz⟩ rfl ?_ | refine jq_cut (⟨lv1, lab1, st1⟩, []) [2, 1, 1, 0] ⟨hok1, by simp, .inl ⟨rfl, rfl⟩, nil_cz⟩ rfl ?_ | refine jq_cut (⟨lv1, lab1, st1⟩, []) [2, 2, 1, 0] ⟨hok1, by simp, .inl ⟨rfl, rfl⟩, nil_cz⟩ rfl ?_ | refine jq_cut (⟨lv1, lab1, st1⟩, []) [3, 1, 1, 0] ⟨hok1, by simp, .inl ⟨rfl, rfl⟩, nil_cz⟩ rfl ?_ | refine jq_cut (⟨lv1, lab1, st1⟩, []) [3, 2, 1, 0] ⟨hok1, by simp, .inl ⟨rfl, rfl⟩, nil_cz⟩ rfl ?_)
            (repeat (first | exact True.intro | refine ⟨rfl, ?_⟩))
        · rintro ⟨⟨lv2, lab2, st2⟩, l2⟩ ⟨hok2, hl2, hsh2, hcz2⟩
          dsimp only at hok2 hl2 hsh2 hcz2 ⊢
          exact R_ (A_ 3 r_ (o_ r_ (bq_ r_ r_ b_ r_ r_ b_ (E_ r_ (T_ (ar_ (az_ (aw_ (jq_sle 4 rfl (SLe.cell (CLe.list (.cons (sm_le 3 ⟨#[]⟩ [] [e1.1] 0 (lab0 + 1) l1 l2 (.refl _) (.refl _) (.refl _) (.refl _)) .nil))) (jq_ret1 rfl rfl [0, 0, 0] rfl (fin1 _ ⟨lv2, lab2, st2⟩ hok2 (.inn (.inl ⟨hl12, e1.1, l1, l2, lab1, e1.2, hsh1, hsh2, rfl⟩)) (if_cz e1.2 hcz1 hcz2))))))))))))
      · refine am_ (jc_cut (ι := Bool) [0, 1, 26] (fun b => b = decide (k = 6 ∨ k = 7)) (fun b => [(82, Bl b)]) (fun _ => [Mk bm bd V lv0 A Sh hs0 lab0 st0 il, Dk bd L, .own lv0 9 1 (LS.map Wrow)]) ?_ ?_)
        · refine R_ (o_ r_ (bn_ r_ r_ (E_ r_ (T_ (jc_condd rfl (fun h6 => ?_) (fun h6 => ?_))))))
          · refine as_ (jq_cut (decide (k = 6)) [0, 0, 0] (by rw [decide_eq_decide]; omega) rfl ?_)
            (repeat (first | exact True.intro | refine ⟨rfl, ?_⟩))
          · refine an_ (o_ r_ (bn_ r_ r_ (E_ r_ (ak_ (jq_cut (decide (k = 7)) [0, 0, 0] (by rw [decide_eq_decide]; omega) rfl ?_)))))
            (repeat (first | exact True.intro | refine ⟨rfl, ?_⟩))
        intro b hb
        refine jc_cond rfl (fun hbt => ?_) (fun hbt => ?_)
        · have hk6 : k = 6 ∨ k = 7 := by rw [hb] at hbt; exact of_decide_eq_true hbt
          obtain ⟨hx0, hl12⟩ := hkd (by omega)
          obtain ⟨d', rfl⟩ : ∃ d', d = d' + 1 := ⟨d - 1, by omega⟩
          have hloop := hloop d' rfl
          clear hblk
          refine R_ (M_ r_ (N_ r_ (F_ r_ (L_ 0 r_ (o_ r_ (bw_ r_ r_ (T_ (jc_condd rfl (fun hil1 => ?_) (fun hil1 => ?_)))))))))
          · refine R_ (M_ r_ (M_ r_ (o_ r_ (bt_ [0, 0, 0] rfl rfl (hloop ⟨lv0, lab0, st0⟩ hs0 il LS x ⟨⟨hlab0, hlab1⟩, hst0, hst1⟩ (by dsimp only; omega) hil g_ hLS hx) (fun r hr => ?_)))))
            obtain ⟨m1, l1⟩ := r
            dsimp only at hr ⊢
            exact E_ r_ (T_ (ar_ (az_ (aw_ (jq_ret1 rfl rfl [0, 0, 0] rfl (fun K h => h (m1, l1) ⟨hr.1, hr.2.1, .inn (.inr (.inl hr.2.2.1)), hr.2.2.2⟩))))))
          · refine as_ (ay_ (jq_cut () [0, 0, 0] trivial rfl ?_))
            (repeat (first | exact True.intro | refine ⟨rfl, ?_⟩))
        · refine R_ (o_ r_ (bn_ r_ r_ (E_ r_ (T_ (jc_condd rfl (fun h8 => ?_) (fun h8 => ?_))))))
          · obtain ⟨hx0, hl12⟩ := hkd (by omega)
            obtain ⟨d', rfl⟩ : ∃ d', d = d' + 1 := ⟨d - 1, by omega⟩
            have hblk := hblk d' rfl
            clear hloop
            refine am_ (jc_cut (ι := Bool) [0, 1] (fun b => b = true → hs0 = ⟨#[]⟩ ∧ 0 < Sh.length) (fun b => [(107, Bl b)]) (fun _ => [Mk bm bd V lv0 A Sh hs0 lab0 st0 il, Dk bd L, .own lv0 9 1 (LS.map Wrow)]) ?_ ?_)
            · by_cases hh : hs0 = ⟨#[]⟩
              · refine an_ (M_ r_ (N_ r_ (F_ r_ (L_ 0 r_ (o_ r_ (cs_ r_ r_ (M_ r_ (ah_ r_ u_ b_ (bd_ r_ (ah_ r_ u_ b_ (bh_ r_ (ah_ r_ u_ b_ (bf_ r_ r_ r_ b_ (ah_ r_ u_ b_ (bg_ 0 r_ r_ r_ r_ (ah_ r_ u_ b_ (br_ r_ (fun hlen => ah_ r_ u_ b_ (bz_ r_ r_ (o_ r_ (bp_ r_ u_ r_ (ak_ (jq_cut (decide (0 < ((Sh.map ShRow).length : Int))) [0, 0, 0] (by simp [hh]) rfl ?_)))))))))))))))))))))))
                (repeat (first | exact True.intro | refine ⟨rfl, ?_⟩))
              · refine an_ (M_ r_ (N_ r_ (F_ r_ (L_ 0 r_ (o_ r_ (cs_ r_ r_ (M_ r_ (ai_ r_ w_ b_ (ai_ r_ w_ b_ (ai_ r_ w_ b_ (ai_ r_ w_ b_ (ai_ r_ w_ b_ (ai_ r_ w_ b_ (o_ r_ (bv_ r_ w_ r_ (ak_ (jq_cut false [0, 0, 0] (by simp) rfl ?_)))))))))))))))))
                (repeat (first | exact True.intro | refine ⟨rfl, ?_⟩))
            intro b2 hb2
            refine jc_cond rfl (fun hbt => ?_) (fun hbt => ?_)
            · obtain ⟨rfl, hSh0⟩ := hb2 hbt
              have hShm := gv.hSh
              have eSh : (Sh.map ShRow).length = Sh.length := List.length_map _
              refine am_ (jc_anyB 18 none rfl k_ k_ (yM_ r_ (yM_ r_ (yN_ r_ (yF_ r_ (yL_ 0 r_ (yM_ r_ (yN_ r_ (yF_ r_ (yL_ 0 r_ (yM_ r_ (yN_ r_ (yF_ r_ (yL_ 0 r_ (aa_ (fun c => br_ r_ (fun hlen => p_)) ?_)))))))))))))))
              refine aa_ (fun c => ow_callA [1] r_ r_ (gNext_c L _ _ gv.hL gv.hLn g_)) (aa_ (fun c => ow_exarg 122 rfl (fun i => cv_ rfl rfl (by have := i.2; omega) (by have := i.2; omega) rfl rfl b_ ⟨rfl, .refl _⟩)) (aa_ (fun c => ow_exarg 123 rfl (fun i => cf_ rfl rfl rfl b_ rfl b_ ⟨rfl, .refl _⟩)) (aa_ (fun c => ow_exarg 124 rfl (fun i => cb_ rfl rfl ⟨rfl, .refl _⟩)) (ae_ (afin_none (jl_slot 125 rfl (fun i => N_ r_ (F_ r_ ?_))))))))
              refine W_ 0 r_ (T_ (R_ (M_ r_ (N_ r_ (F_ r_ (L_ 0 r_ (E_ r_ (T_ (R_ (M_ r_ (M_ r_ (M_ r_ (o_ r_ (cg_ r_ r_ g_ (o_ r_ (ow_callNP [0, 0, 0] rfl rfl (hblk ⟨lv0, lab0, st0⟩ Sh[i.1.toNat].2.2 il LS (x - 1) 2 ⟨⟨hlab0, hlab1⟩, hst0, hst1⟩ hil hil2 hLS g_ g_ g_) (fun r n hn hr => ?_)))))))))))))))))
              obtain ⟨⟨lv1, lab1, st1⟩, v1, l1⟩ := r
              obtain ⟨hok1, hf1, hl1, hsh1, hcz1⟩ := hr
              dsimp only at hok1 hl1 hsh1 hf1 hcz1 ⊢
              refine jl_freezeF 136 0 rfl rfl (hf1.mono hn) (o_ r_ (bu_ r_ r_ r_ r_ r_ (o_ r_ (bl_ r_ r_ (fun bl => S_ 0 r_ (T_ (R_ (M_ r_ (N_ r_ (F_ r_ (W_ 1 r_ (T_ (R_ (A_ 1 r_ (o_ r_ (bq_ r_ r_ b_ r_ r_ b_ (E_ r_ (T_ ?_))))))))))))))))))
              refine ar_ (az_ (aw_ (jq_sle 4 rfl (SLe.cell (CLe.list (.cons (sm_le 5 Sh[i.1.toNat].2.2 [] [] 0 0 l1 [] .nil .nil (.refl _) .nil) .nil))) ?_)))
              first | exact jq_ret1 rfl rfl [0, 1, 1] rfl (fin1 _ ⟨lv1, lab1, st1⟩ hok1 (.inn (.inr (.inr ⟨rfl, _, List.getElem_mem (h := by have := i.2; omega), l1, hsh1, rfl⟩))) (lock_cz hcz1)) | exact jq_ret1 rfl rfl [0, 2, 1] rfl (fin1 _ ⟨lv1, lab1, st1⟩ hok1 (.inn (.inr (.inr ⟨rfl, _, List.getElem_mem (h := by have := i.2; omega), l1, hsh1, rfl⟩))) (lock_cz hcz1)) | exact jq_ret1 rfl rfl [0, 0, 0] rfl (fin1 _ ⟨lv1, lab1, st1⟩ hok1 (.inn (.inr (.inr ⟨rfl, _, List.getElem_mem (h := by have := i.2; omega), l1, hsh1, rfl⟩))) (lock_cz hcz1)) | exact jq_ret1 rfl rfl [0, 0, 1] rfl (fin1 _ ⟨lv1, lab1, st1⟩ hok1 (.inn (.inr (.inr ⟨rfl, _, List.getElem_mem (h := by have := i.2; omega), l1, hsh1, rfl⟩))) (lock_cz hcz1)) | exact jq_ret1 rfl rfl [0, 1, 0] rfl (fin1 _ ⟨lv1, lab1, st1⟩ hok1 (.inn (.inr (.inr ⟨rfl, _, List.getElem_mem (h := by have := i.2; omega), l1, hsh1, rfl⟩))) (lock_cz hcz1)) | exact jq_ret1 rfl rfl [1, 0, 0] rfl (fin1 _ ⟨lv1, lab1, st1⟩ hok1 (.inn (.inr (.inr ⟨rfl, _, List.getElem_mem (h := by have := i.2; omega), l1, hsh1, rfl⟩))) (lock_cz hcz1)) | exact jq_ret1 rfl rfl [1, 1, 0] rfl (fin1 _ ⟨lv1, lab1, st1⟩ hok1 (.inn (.inr (.inr ⟨rfl, _, List.getElem_mem (h := by have := i.2; omega), l1, hsh1, rfl⟩))) (lock_cz hcz1))
            · refine as_ (ay_ (jq_cut () [0, 0, 0] trivial rfl ?_))
              (repeat (first | exact True.intro | refine ⟨rfl, ?_⟩))
          · refine as_ (ay_ (jq_cut () [0, 0, 0] trivial rfl ?_))
            (repeat (first | exact True.intro | refine ⟨rfl, ?_⟩))
  · intro _ _
    refine R_ (M_ r_ (o_ r_ (bt_ [0, 0, 0] rfl rfl (gtarget_c gv.hL gv.hLn gv.hV0 gv.hV g_) (fun s1 hs1 => M_ r_ (o_ r_ (bt_ [0, 0] rfl rfl (gexpr_c gv.hL gv.hLn gv.hV0 gv.hV gv.hA gv.hSh 2 2 g_ g_ g_) (fun e1 he1 => o_ r_ (bq_ r_ r_ b_ r_ r_ b_ (o_ r_ (bu_ r_ r_ r_ r_ r_ (o_ r_ (bq_ r_ r_ b_ r_ r_ b_ (E_ r_ (T_ (ar_ ?_)))))))))))))))
    exact jq_sle 4 rfl (SLe.cell (CLe.list (.cons (sm_le 1 s1 [] [e1] 0 0 [] [] .nil (ex1_le e1) .nil .nil) .nil))) (jq_ret1 rfl rfl [0, 0, 0] rfl (fin0 _ ⟨rfl, .inl ⟨s1, e1, hs1, he1, rfl⟩⟩))
end
end Go.Proofs.YtlniadfidfmckaaDoor
end

section
namespace Go.Proofs.YtlniadfidfmckaaDoor
open Go.Vc
set_option maxHeartbeats 4000000
attribute [local irreducible] JL JC JQ OpWp Con ConN

def lim (n : Int) : Int := min n 1099511627776
def wP : Nat → T → Int
  | 0, _ => 1099511627776
  | f + 1, e => e.args.foldl (fun n x => lim (n + wP f x)) 1
def wParts (e : T) (f : Nat) : Int := wP f e
def wPartsL (l : List T) (f : Nat) (n : Int) : Int := l.foldl (fun n e => lim (n + wParts e f)) n
theorem wParts_zero (e : T) : wParts e 0 = 1099511627776 := rfl
theorem wParts_succ (e : T) (f : Nat) : wParts e (f + 1) = wPartsL e.args f 1 := rfl
theorem lim_bd (n : Int) (h : 0 ≤ n) : 0 ≤ lim n ∧ lim n ≤ 1099511627776 := by unfold lim; omega
theorem wPartsL_bd (f : Nat) (hf : ∀ e, 0 ≤ wParts e f ∧ wParts e f ≤ 1099511627776) : ∀ (l : List T) (n : Int), 0 ≤ n ∧ n ≤ 1099511627776 → 0 ≤ wPartsL l f n ∧ wPartsL l f n ≤ 1099511627776
  | [], n, h => by simpa [wPartsL] using h
  | e :: r, n, h => wPartsL_bd f hf r _ (lim_bd _ (by have := hf e; omega))
theorem wParts_bd : ∀ (f : Nat) (e : T), 0 ≤ wParts e f ∧ wParts e f ≤ 1099511627776
  | 0, e => by rw [wParts_zero]; omega
  | f + 1, e => by rw [wParts_succ]; exact wPartsL_bd f (wParts_bd f) _ _ (by omega)
theorem wPartsL_snoc (f : Nat) (e : T) (l : List T) (n : Int) : wPartsL (l ++ [e]) f n = lim (wPartsL l f n + wParts e f) := by simp [wPartsL]
theorem wPartsL_take (f : Nat) (l : List T) (n : Int) (k : Nat) (h : k < l.length) : wPartsL (l.take (k + 1)) f n = lim (wPartsL (l.take k) f n + wParts l[k] f) := by
  rw [List.take_succ_eq_append_getElem h, wPartsL_snoc]
mutual
/-- The weight of a statement; of the depths, 'fuel' are left. -/
def wOne : Nat → Sm → Int
  | 0, _ => 1099511627776
  | f + 1, s =>
    if s.kind = 1 ∨ s.kind = 2 then lim (1 + wPartsL s.index 20 0 + wPartsL s.value 20 0)
    else if s.kind = 3 then lim (2 + wPartsL s.value 20 0 + wAll f s.thn 0 + wAll f s.els 0)
    else if s.kind = 4 then lim (2 + (Max.max 0 (min s.max 33) + 1) * lim (2 + wPartsL s.value 20 0 + wAll f s.thn 0))
    else if s.kind = 5 then lim (2 + wAll f s.thn 0)
    else 0
def wAll : Nat → List Sm → Int → Int
  | _, [], n => n
  | f, s :: r, n => wAll f r (lim (n + wOne f s))
end
theorem prod_bd (a b : Int) (h1 : 0 ≤ a) (h2 : a ≤ 34) (h3 : 0 ≤ b) (h4 : b ≤ 1099511627776) : 0 ≤ a * b ∧ a * b ≤ 37383395344384 := by
  refine ⟨Int.mul_nonneg h1 h3, ?_⟩
  have := Int.mul_le_mul h2 h4 h3 (by omega)
  omega

mutual
theorem wOne_bd : ∀ (f : Nat) (s : Sm), 0 ≤ wOne f s ∧ wOne f s ≤ 1099511627776
  | 0, s => by rw [wOne]; omega
  | f + 1, s => by
    have b1 := wPartsL_bd 20 (wParts_bd 20) s.index 0 (by omega)
    have b2 := wPartsL_bd 20 (wParts_bd 20) s.value 0 (by omega)
    have b3 := wAll_bd f s.thn 0 (by omega)
    have b4 := wAll_bd f s.els 0 (by omega)
    rw [wOne]
    split
    · exact lim_bd _ g_
    split
    · exact lim_bd _ g_
    split
    · have b5 := lim_bd (2 + wPartsL s.value 20 0 + wAll f s.thn 0) (by omega)
      have b7 := prod_bd (Max.max 0 (min s.max 33) + 1) _ (by omega) (by omega) b5.1 b5.2
      exact lim_bd _ g_
    split
    · exact lim_bd _ g_
    · omega
theorem wAll_bd : ∀ (f : Nat) (l : List Sm) (n : Int), 0 ≤ n ∧ n ≤ 1099511627776 → 0 ≤ wAll f l n ∧ wAll f l n ≤ 1099511627776
  | f, [], n, h => by simpa [wAll] using h
  | f, s :: r, n, h => by
    rw [wAll]
    exact wAll_bd f r _ (lim_bd _ (by have := wOne_bd f s; omega))
end

theorem wAll_snoc (f : Nat) (e : Sm) : ∀ (l : List Sm) (n : Int), wAll f (l ++ [e]) n = lim (wAll f l n + wOne f e)
  | [], n => by simp [wAll]
  | a :: l, n => by simp only [List.cons_append, wAll]; exact wAll_snoc f e l _
theorem wAll_take (f : Nat) (l : List Sm) (n : Int) (k : Nat) (h : k < l.length) : wAll f (l.take (k + 1)) n = lim (wAll f (l.take k) n + wOne f l[k]) := by
  rw [List.take_succ_eq_append_getElem h, wAll_snoc]


theorem wexpr_c : ∀ (fuel : Nat) (e : T) (depth : Int), 0 ≤ depth → depth + fuel = 21 → Con Tryd.prog 101 [.row e.row', In .i64 depth] [] (fun K => K (In .i64 (wParts e fuel)) []) := by
  intro fuel
  induction fuel with
  | zero =>
    intro e depth h0 h1
    refine con_intro Tryd.func101 rfl rfl (Nat.le_of_ble_eq_true rfl) (fun c hc => R_ (o_ r_ (ci_ r_ (fun bx => E_ r_ (T_ (am_ (R_ (M_ r_ (o_ r_ (bz_ r_ r_ (T_ (jc_condd rfl (fun h => R_ (E_ r_ (T_ (ar_ (aw_ ?_))))) (fun h => absurd (show 20 < depth by omega) h)))))))))))))
    refine jq_ret1 rfl rfl [] rfl (fun K h => by rw [wParts_zero] at h; exact h)
  | succ f ih =>
    intro e depth h0 h1
    refine con_intro Tryd.func101 rfl rfl (Nat.le_of_ble_eq_true rfl) (fun c hc => R_ (o_ r_ (ci_ r_ (fun bx => E_ r_ (T_ (am_ (R_ (M_ r_ (o_ r_ (bz_ r_ r_ (T_ (jc_condd rfl (fun h => by omega) (fun h => as_ (al_ (R_ (E_ r_ (T_ ?_)))))))))))))))))
    refine am_ (R_ (E_ r_ (T_ (au_ (jc_loop [1, 2] (fun k => k ≤ e.args.length) (fun k => [(5, In .i64 (wPartsL (e.args.take k) f 1)), (6, In .i64 (k : Int))]) (fun _ => [.blk bx 47 e.row']) (fun k => e.args.length - k) 0 [0] (Nat.zero_le _) rfl ?_ ?_)))))
    · (repeat (first | exact True.intro | refine ⟨rfl, ?_⟩))
    · intro k hk
      refine am_ (R_ (M_ r_ (F_ r_ (L_ 0 r_ (o_ r_ (br_ r_ (fun hlen => o_ r_ (bw_ r_ r_ (T_ ?_)))))))))
      have hmax : e.args.length ≤ 9223372036854775807 := by simpa using hlen
      refine jc_condd rfl (fun hlt => ?_) (fun hge => ?_)
      · simp only [List.length_map, Int.ofNat_lt] at hlt
        have b1 := wParts_bd f e.args[k]
        have b2 := wPartsL_bd f (wParts_bd f) (e.args.take k) 1 (by omega)
        refine as_ (al_ (B_ (an_ (M_ r_ (F_ r_ (L_ 0 r_ (M_ r_ (o_ r_ (cc_ r_ r_ g_ (T.row_eq _) r_ b_ (o_ r_ (cr_ r_ r_ r_ (M_ r_ (o_ r_ (bj_ r_ r_ g_ (o_ r_ (bm_ r_ (ih _ _ g_ g_) (o_ r_ (bj_ r_ r_ g_ (o_ r_ (cl_ r_ r_ (E_ r_ ?_)))))))))))))))))))))
        refine ak_ (ay_ (al_ (an_ (M_ r_ (o_ r_ (bj_ r_ r_ g_ (E_ r_ (ak_ (jq_again (k + 1) [0] hlt g_ rfl ?_)))))))))
        · rw [wPartsL_take f e.args 1 k hlt]
          unfold lim
          rw [Int.min_comm]
          (repeat (first | exact True.intro | refine ⟨rfl, ?_⟩))
      · simp only [List.length_map, Int.ofNat_lt] at hge
        refine av_ (ax_ (ax_ (ba_ (al_ (R_ (M_ r_ (E_ r_ (T_ (ar_ (jq_ret1 rfl rfl [] rfl (fun K h => by rw [wParts_succ, ← List.take_of_length_le (Nat.le_of_not_lt hge)] at h; exact h)))))))))))

theorem rexprs_c (l : List T) : Con Tryd.prog 91 [.cell (.list (l.map T.row))] [] (fun K => K (In .i64 (wPartsL l 20 0)) []) := by
  refine con_intro Tryd.func91 rfl rfl (Nat.le_of_ble_eq_true rfl) (fun c hc => R_ (E_ r_ (T_ (R_ (E_ r_ (T_ (am_ (R_ (E_ r_ (T_ (au_ (jc_loop [0] (fun k => k ≤ l.length) (fun k => [(3, In .i64 (wPartsL (l.take k) 20 0)), (4, In .i64 (k : Int))]) (fun _ => []) (fun k => l.length - k) 0 [] (Nat.zero_le _) rfl ?_ ?_))))))))))))
  · (repeat (first | exact True.intro | refine ⟨rfl, ?_⟩))
  · intro k hk
    refine am_ (R_ (M_ r_ (M_ r_ (o_ r_ (br_ r_ (fun hlen => o_ r_ (bw_ r_ r_ (T_ ?_))))))))
    have hmax : l.length ≤ 9223372036854775807 := by simpa using hlen
    refine jc_condd rfl (fun hlt => ?_) (fun hge => ?_)
    · simp only [List.length_map, Int.ofNat_lt] at hlt
      have b1 := wParts_bd 20 l[k]
      have b2 := wPartsL_bd 20 (wParts_bd 20) (l.take k) 0 (by omega)
      refine as_ (al_ (B_ (an_ (M_ r_ (M_ r_ (M_ r_ (o_ r_ (cc_ r_ r_ g_ (T.row_eq _) r_ b_ (o_ r_ (cr_ r_ r_ r_ (o_ r_ (bm_ r_ (wexpr_c 20 _ _ g_ g_) (o_ r_ (bj_ r_ r_ g_ (o_ r_ (cl_ r_ r_ (E_ r_ (ak_ (ay_ (al_ ?_))))))))))))))))))))
      refine an_ (M_ r_ (o_ r_ (bj_ r_ r_ g_ (E_ r_ (ak_ (jq_again (k + 1) [] hlt g_ rfl ?_))))))
      · rw [wPartsL_take 20 l 0 k hlt]
        unfold lim
        rw [Int.min_comm]
        (repeat (first | exact True.intro | refine ⟨rfl, ?_⟩))
    · simp only [List.length_map, Int.ofNat_lt] at hge
      refine av_ (ax_ (ax_ (ba_ (al_ (R_ (M_ r_ (E_ r_ (T_ (ar_ (jq_ret1 rfl rfl [] rfl (fun K h => by rw [← List.take_of_length_le (Nat.le_of_not_lt hge)] at h; exact h)))))))))))

theorem lim_lim (a b : Int) (h : 0 ≤ a) : lim (a + lim b) = lim (a + b) := by unfold lim; omega
theorem wAll_full (l : List Sm) : ∀ n, n = 1099511627776 → wAll 0 l n = 1099511627776 := by
  induction l with
  | nil => intro n h; simpa [wAll] using h
  | cons s l ih => intro n h; rw [wAll]; exact ih _ (by subst h; rw [wOne]; rfl)

theorem rweight_zero (l : List Sm) (depth : Int) (h1 : depth = 21) : Con Tryd.prog 75 [.cell (.list (l.map Sm.row)), In .i64 depth] [] (fun K => K (In .i64 (wAll 0 l 0)) []) := by
  refine con_intro Tryd.func75 rfl rfl (Nat.le_of_ble_eq_true rfl) (fun c hc => R_ (E_ r_ (T_ (R_ (E_ r_ (T_ (am_ (R_ (E_ r_ (T_ (au_ (jc_loop [0, 1] (fun k : Nat => k = 0) (fun k => [(5, In .i64 0), (6, In .i64 (k : Int))]) (fun _ => []) (fun k => l.length - k) 0 [] rfl rfl ?_ ?_))))))))))))
  · (repeat (first | exact True.intro | refine ⟨rfl, ?_⟩))
  · rintro k hk
    refine am_ (R_ (M_ r_ (M_ r_ (o_ r_ (br_ r_ (fun hlen => o_ r_ (bw_ r_ r_ (T_ (jc_condd rfl (fun hlt => ?_) (fun hge => ?_))))))))))
    · refine as_ (al_ (B_ (am_ (R_ (M_ r_ (o_ r_ (bz_ r_ r_ (T_ (jc_condd rfl (fun _ => R_ (E_ r_ (T_ (ar_ (aw_ (az_ (aw_ ?_))))))) (fun h => by omega))))))))))
      refine aw_ (az_ (aw_ (jq_ret1 rfl rfl [] rfl (fun K h => ?_))))
      cases l with
      | nil => simp at hlt; omega
      | cons s l => rw [wAll, wAll_full l _ (by simp [wOne, lim])] at h; exact h
    · refine av_ (ax_ (ax_ (ba_ (al_ (R_ (M_ r_ (E_ r_ (T_ (ar_ ?_)))))))))
      have : l = [] := by cases l with
        | nil => rfl
        | cons s l => simp at hge; omega
      subst this
      refine jq_ret1 rfl rfl [] rfl (fun K h => by simpa [wAll] using h)

theorem rweight_succ (f : Nat) (ih : ∀ (l : List Sm) (depth : Int), 0 ≤ depth → depth + f = 21 → Con Tryd.prog 75 [.cell (.list (l.map Sm.row)), In .i64 depth] [] (fun K => K (In .i64 (wAll f l 0)) []))
    (l : List Sm) (depth : Int) (h0 : 0 ≤ depth) (h1 : depth + (f + 1 : Nat) = 21) : Con Tryd.prog 75 [.cell (.list (l.map Sm.row)), In .i64 depth] [] (fun K => K (In .i64 (wAll (f + 1) l 0)) []) := by
  refine con_intro Tryd.func75 rfl rfl (Nat.le_of_ble_eq_true rfl) (fun c hc => R_ (E_ r_ (T_ (R_ (E_ r_ (T_ (am_ (R_ (E_ r_ (T_ (au_ (jc_loop [0, 1] (fun k => k ≤ l.length) (fun k => [(5, In .i64 (wAll (f + 1) (l.take k) 0)), (6, In .i64 (k : Int))]) (fun _ => []) (fun k => l.length - k) 0 [] (Nat.zero_le _) rfl ?_ ?_))))))))))))
  · rw [List.take_zero, wAll]
    (repeat (first | exact True.intro | refine ⟨rfl, ?_⟩))
  · intro k hk
    refine am_ (R_ (M_ r_ (M_ r_ (o_ r_ (br_ r_ (fun hlen => o_ r_ (bw_ r_ r_ (T_ ?_))))))))
    have hmax : l.length ≤ 9223372036854775807 := by simpa using hlen
    refine jc_condd rfl (fun hlt => ?_) (fun hge => ?_)
    · simp only [List.length_map, Int.ofNat_lt] at hlt
      have b1 := wPartsL_bd 20 (wParts_bd 20) l[k].index 0 (by omega)
      have b2 := wPartsL_bd 20 (wParts_bd 20) l[k].value 0 (by omega)
      have b3 := wAll_bd f l[k].thn 0 (by omega)
      have b4 := wAll_bd f l[k].els 0 (by omega)
      have b8 := wAll_bd (f + 1) (l.take k) 0 (by omega)
      refine as_ (al_ (B_ (am_ (R_ (M_ r_ (o_ r_ (bz_ r_ r_ (T_ (jc_condd rfl (fun h => by omega) (fun h => as_ (al_ (R_ (M_ r_ (M_ r_ (o_ r_ (cc_ r_ r_ g_ (Sm.row_eq _) r_ b_ (o_ r_ (cr_ r_ r_ r_ ?_))))))))))))))))))
      refine o_ r_ (bl_ r_ r_ (fun bl => S_ 0 r_ (T_ (R_ (E_ r_ (T_ (am_ (R_ (F_ r_ (L_ 0 r_ (T_ (jc_cut (ι := Int) [0, 1, 5, 6] (fun n => 0 ≤ n ∧ n ≤ 1099511627776000000 ∧ lim n = wOne (f + 1) l[k]) (fun n => [(8, In .i64 n)]) (fun _ => []) ?_ ?_))))))))))))
      · refine au_ (am_ (R_ (o_ r_ (bn_ r_ r_ (E_ r_ (T_ (jc_condd rfl (fun hk1 => ?_) (fun hk1 => ?_))))))))
        · refine as_ (al_ (jc_condd rfl (fun _ => ao_ r_ r_ k_ k_ (yF_ r_ (yL_ 0 r_ (aa_ (fun c => bm_ r_ (rexprs_c _) p_) (aa_ (fun c => bj_ r_ r_ g_ p_) (yF_ r_ (yL_ 0 r_ (aa_ (fun c => bm_ r_ (rexprs_c _) p_) (aa_ (fun c => bj_ r_ r_ g_ p_) (yE_ r_ (ae_ (ay_ (jq_cut (1 + wPartsL l[k].index 20 0 + wPartsL l[k].value 20 0) [] ⟨by omega, by omega, by rw [wOne, if_pos (.inl hk1)]⟩ rfl ?_))))))))))))) (fun h => absurd hk1 h)))
          (repeat (first | exact True.intro | refine ⟨rfl, ?_⟩))
        · refine an_ (o_ r_ (bn_ r_ r_ (E_ r_ (T_ (jc_condd rfl (fun hk2 => ?_) (fun hk2 => ?_))))))
          · refine ao_ r_ r_ k_ k_ (yF_ r_ (yL_ 0 r_ (aa_ (fun c => bm_ r_ (rexprs_c _) p_) (aa_ (fun c => bj_ r_ r_ g_ p_) (yF_ r_ (yL_ 0 r_ (aa_ (fun c => bm_ r_ (rexprs_c _) p_) (aa_ (fun c => bj_ r_ r_ g_ p_) (yE_ r_ (ae_ (ay_ (jq_cut (1 + wPartsL l[k].index 20 0 + wPartsL l[k].value 20 0) [] ⟨by omega, by omega, by rw [wOne, if_pos (.inr hk2)]⟩ rfl ?_))))))))))))
            (repeat (first | exact True.intro | refine ⟨rfl, ?_⟩))
          · have h12 : ¬ (l[k].kind = 1 ∨ l[k].kind = 2) := by omega
            refine R_ (o_ r_ (bn_ r_ r_ (E_ r_ (T_ (jc_condd rfl (fun hk3 => ?_) (fun hk3 => ?_))))))
            · refine ao_ r_ r_ k_ k_ (yF_ r_ (yL_ 0 r_ (aa_ (fun c => bm_ r_ (rexprs_c _) p_) (aa_ (fun c => bj_ r_ r_ g_ p_) (yF_ r_ (yL_ 0 r_ (yM_ r_ (aa_ (fun c => bj_ r_ r_ g_ p_) (aa_ (fun c => bm_ r_ (ih _ _ g_ g_) p_) (aa_ (fun c => bj_ r_ r_ g_ p_) (yF_ r_ (yL_ 0 r_ (yM_ r_ (aa_ (fun c => bj_ r_ r_ g_ p_) (aa_ (fun c => bm_ r_ (ih _ _ g_ g_) p_) ?_)))))))))))))))
              refine aa_ (fun c => bj_ r_ r_ g_ p_) (yE_ r_ (ae_ (ay_ (jq_cut (2 + wPartsL l[k].value 20 0 + wAll f l[k].thn 0 + wAll f l[k].els 0) [] ⟨by omega, by omega, by rw [wOne, if_neg h12, if_pos hk3]⟩ rfl ?_))))
              (repeat (first | exact True.intro | refine ⟨rfl, ?_⟩))
            · refine R_ (o_ r_ (bn_ r_ r_ (E_ r_ (T_ (jc_condd rfl (fun hk4 => ?_) (fun hk4 => ?_))))))
              · have b5 := lim_bd (2 + wPartsL l[k].value 20 0 + wAll f l[k].thn 0) (by omega)
                unfold lim at b5
                rw [Int.min_comm] at b5
                have b6 : 0 ≤ Max.max 0 (min l[k].max 33) + 1 ∧ Max.max 0 (min l[k].max 33) + 1 ≤ 34 := by omega
                have b7 := prod_bd _ _ b6.1 b6.2 b5.1 b5.2
                refine R_ (F_ r_ (L_ 0 r_ (o_ r_ (cl_ r_ r_ (o_ r_ (ck_ r_ r_ (E_ r_ (T_ (ao_ r_ r_ k_ k_ (yM_ r_ (aa_ (fun c => bj_ r_ r_ g_ p_) (yF_ r_ (yL_ 0 r_ (aa_ (fun c => bm_ r_ (rexprs_c _) p_) (aa_ (fun c => bj_ r_ r_ g_ p_) (yF_ r_ (yL_ 0 r_ ?_)))))))))))))))))
                refine yM_ r_ (aa_ (fun c => bj_ r_ r_ g_ p_) (aa_ (fun c => bm_ r_ (ih _ _ g_ g_) p_) (aa_ (fun c => bj_ r_ r_ g_ p_) (aa_ (fun c => cl_ r_ r_ p_) (aa_ (fun c => cz_ r_ r_ g_ p_) (aa_ (fun c => bj_ r_ r_ g_ p_) (yE_ r_ (ae_ (ay_ ?_)))))))))
                refine jq_cut (2 + (Max.max 0 (min l[k].max 33) + 1) * min 1099511627776 (2 + wPartsL l[k].value 20 0 + wAll f l[k].thn 0)) [] ⟨by omega, by omega, by rw [wOne, if_neg h12, if_neg hk3, if_pos hk4, Int.min_comm 1099511627776]; rfl⟩ rfl ?_
                (repeat (first | exact True.intro | refine ⟨rfl, ?_⟩))
              · refine R_ (o_ r_ (bn_ r_ r_ (E_ r_ (T_ (jc_condd rfl (fun hk5 => ?_) (fun hk5 => ?_))))))
                · refine an_ (F_ r_ (L_ 0 r_ (M_ r_ (o_ r_ (bj_ r_ r_ g_ (o_ r_ (bm_ r_ (ih _ _ g_ g_) (o_ r_ (bj_ r_ r_ g_ (E_ r_ (ak_ (ay_ (jq_cut (2 + wAll f l[k].thn 0) [] ⟨by omega, by omega, by rw [wOne, if_neg h12, if_neg hk3, if_neg hk4, if_pos hk5]⟩ rfl ?_)))))))))))))
                  (repeat (first | exact True.intro | refine ⟨rfl, ?_⟩))
                · refine as_ (ay_ (jq_cut 0 [] ⟨by omega, by omega, by rw [wOne, if_neg h12, if_neg hk3, if_neg hk4, if_neg hk5]; rfl⟩ rfl ?_))
                  (repeat (first | exact True.intro | refine ⟨rfl, ?_⟩))
      · rintro n ⟨hn0, hn1, hn⟩
        refine an_ (M_ r_ (M_ r_ (o_ r_ (bj_ r_ r_ g_ (o_ r_ (cl_ r_ r_ (E_ r_ (ak_ (ay_ (al_ (an_ (M_ r_ (o_ r_ (bj_ r_ r_ g_ (E_ r_ (ak_ (jq_again (k + 1) [] hlt g_ rfl ?_)))))))))))))))))
        · rw [wAll_take (f + 1) l 0 k hlt, ← hn, lim_lim _ _ b8.1]
          unfold lim
          rw [Int.min_comm]
          (repeat (first | exact True.intro | refine ⟨rfl, ?_⟩))
    · simp only [List.length_map, Int.ofNat_lt] at hge
      refine av_ (ax_ (ax_ (ba_ (al_ (R_ (M_ r_ (E_ r_ (T_ (ar_ (jq_ret1 rfl rfl [] rfl (fun K h => by rw [← List.take_of_length_le (Nat.le_of_not_lt hge)] at h; exact h)))))))))))

theorem rweight_c : ∀ (f : Nat) (l : List Sm) (depth : Int), 0 ≤ depth → depth + f = 21 → Con Tryd.prog 75 [.cell (.list (l.map Sm.row)), In .i64 depth] [] (fun K => K (In .i64 (wAll f l 0)) [])
  | 0, l, depth, _, h1 => rweight_zero l depth (by omega)
  | f + 1, l, depth, h0, h1 => rweight_succ f (rweight_c f) l depth h0 h1
theorem rWeight_c (l : List Sm) : Con Tryd.prog 52 [.cell (.list (l.map Sm.row))] [] (fun K => K (In .i64 (wAll 20 l 0)) []) := by
  refine con_intro Tryd.func52 rfl rfl (Nat.le_of_ble_eq_true rfl) (fun c hc => R_ (E_ r_ (T_ (R_ (M_ r_ (o_ r_ (bm_ r_ (rweight_c 20 _ _ g_ g_) (E_ r_ (T_ (ar_ (jq_ret1 rfl rfl [] rfl (fun K h => h))))))))))))

end Go.Proofs.YtlniadfidfmckaaDoor
end

section
namespace Go.Proofs.YtlniadfidfmckaaDoor
open Go.Vc
set_option maxHeartbeats 4000000
attribute [local irreducible] JL JC JQ OpWp Con ConN

theorem flat_take {f : Sm → List Int} {l : List Sm} {k : Nat} (h : k < l.length) : (l.take (k + 1)).flatMap f = (l.take k).flatMap f ++ f l[k] := by
  rw [List.take_succ_eq_append_getElem h, List.flatMap_append]; simp
theorem flat_le {f : Sm → List Int} {l : List Sm} {k : Nat} (h : k < l.length) : ((l.take k).flatMap f).length + (f l[k]).length ≤ (l.flatMap f).length := by
  have h1 : l = l.take k ++ l[k] :: l.drop (k + 1) := by rw [List.getElem_cons_drop, List.take_append_drop]
  have h2 : (l.flatMap f).length = ((l.take k ++ l[k] :: l.drop (k + 1)).flatMap f).length := by rw [← h1]
  rw [h2]
  simp only [List.flatMap_append, List.flatMap_cons, List.length_append]
  omega

def rlSelf (s : Sm) : List Int := if s.kind = 3 then [s.label] else []
def rlOne : Nat → Sm → List Int
  | 0, _ => []
  | f + 1, s => rlSelf s ++ s.thn.flatMap (rlOne f) ++ s.els.flatMap (rlOne f)
theorem rl_zero (l : List Sm) : l.flatMap (rlOne 0) = [] := by
  induction l with
  | nil => rfl
  | cons s l ih => simp [rlOne]

theorem rlabels_c : ∀ (f : Nat) (l : List Sm) (depth : Int), 0 ≤ depth → depth + f = 21 → (l.flatMap (rlOne f)).length ≤ 1000000 →
    Con Tryd.prog 74 [.cell (.list (l.map Sm.row)), In .i64 depth, In .i64 3] [] (fun K => K (.cell (.list ((l.flatMap (rlOne f)).map Irow))) []) := by
  intro f
  induction f with
  | zero =>
    intro l depth h0 h1 hlim
    refine con_intro Tryd.func74 rfl rfl (Nat.le_of_ble_eq_true rfl) (fun c hc => R_ (E_ r_ (T_ (R_ (E_ r_ (T_ (am_ (R_ (E_ r_ (T_ (au_ (jc_loop [0, 1, 2, 6, 7] (fun _ : Nat => True) (fun _ => [(8, In .i64 0)]) (fun _ => []) (fun _ => 0) 0 [] trivial rfl ?_ ?_))))))))))))
    · (repeat (first | exact True.intro | refine ⟨rfl, ?_⟩))
    · intro k _
      refine am_ (am_ (jc_cut (ι := Unit) [6, 7] (fun _ => True) (fun _ => [(17, Bl false)]) (fun _ => []) ?_ ?_))
      · by_cases hl : (0 : Int) < ((l.map Sm.row).length : Int)
        · refine an_ (M_ r_ (M_ r_ (o_ r_ (br_ r_ (fun hlen => o_ r_ (bw_ r_ r_ (M_ r_ (ah_ r_ u_ b_ (bd_ r_ (ah_ r_ u_ b_ (cu_ r_ r_ (o_ r_ (bp_ r_ u_ r_ (ak_ (jq_cut () [] trivial rfl ?_)))))))))))))))
          rw [show decide (depth ≤ 20) = false from decide_eq_false (by omega)]
          (repeat (first | exact True.intro | refine ⟨rfl, ?_⟩))
        · refine an_ (M_ r_ (M_ r_ (o_ r_ (br_ r_ (fun hlen => o_ r_ (bw_ r_ r_ (M_ r_ (ai_ r_ w_ b_ (ai_ r_ w_ b_ (o_ r_ (bv_ r_ w_ r_ (ak_ (jq_cut () [] trivial rfl ?_)))))))))))))
          (repeat (first | exact True.intro | refine ⟨rfl, ?_⟩))
      · intro _ _
        skip
        refine jc_cond rfl (fun h => by cases h) (fun _ => av_ (ax_ (ax_ (ba_ (al_ (R_ (M_ r_ (E_ r_ (T_ (ar_ ?_))))))))))
        rw [rl_zero]
        refine jq_sle 6 rfl (SLe.cell CLe.nil) (jq_ret1 rfl rfl [] rfl (fun K h => h))
  | succ f ih =>
    intro l depth h0 h1 hlim
    refine con_intro Tryd.func74 rfl rfl (Nat.le_of_ble_eq_true rfl) (fun c hc => R_ (E_ r_ (T_ (R_ (E_ r_ (T_ (am_ (R_ (E_ r_ (T_ (au_ (jc_ownNil 3 1 g_ ?_))))))))))))
    refine jc_loop (ι := Nat × Value) [0, 1, 2] (fun i => i.1 ≤ l.length) (fun i => [(7, .cell (.val i.2)), (8, In .i64 (i.1 : Int))]) (fun i => [.own i.2 3 1 (((l.take i.1).flatMap (rlOne (f + 1))).map Irow)]) (fun i => l.length - i.1) (0, .slice none 0 0) [0] (Nat.zero_le _) rfl ?_ ?_
    · (repeat (first | exact True.intro | refine ⟨rfl, ?_⟩))
    · rintro ⟨k, v⟩ hk
      dsimp only at hk ⊢
      by_cases hlt : (k : Int) < ((l.map Sm.row).length : Int)
      · refine am_ (R_ (M_ r_ (M_ r_ (o_ r_ (br_ r_ (fun hlen => o_ r_ (bw_ r_ r_ (M_ r_ (ah_ r_ u_ b_ (bd_ r_ (ah_ r_ u_ b_ (cu_ r_ r_ (o_ r_ (bp_ r_ u_ r_ (T_ (jc_condd rfl (fun _ => ?_) (fun h => absurd (show depth ≤ 20 by omega) h)))))))))))))))))
        have hmax : l.length ≤ 9223372036854775807 := by simpa using hlen
        simp only [List.length_map, Int.ofNat_lt] at hlt
        have hle := flat_le (f := rlOne (f + 1)) hlt
        have e2 : rlOne (f + 1) l[k] = rlSelf l[k] ++ l[k].thn.flatMap (rlOne f) ++ l[k].els.flatMap (rlOne f) := rfl
        have hl2 := congrArg List.length e2
        simp only [List.length_append] at hl2
        refine as_ (al_ (B_ (R_ (M_ r_ (M_ r_ (o_ r_ (cc_ r_ r_ g_ (Sm.row_eq _) r_ b_ (o_ r_ (cr_ r_ r_ r_ (o_ r_ (bl_ r_ r_ (fun bl => S_ 0 r_ (T_ (am_ (am_ (jc_cut (ι := Unit) [0, 1, 2, 7, 8, 9] (fun _ => True) (fun _ => [(41, Bl (decide (l[k].kind = 3)))]) (fun _ => [.own v 3 1 (((l.take k).flatMap (rlOne (f + 1))).map Irow), .blk bl 111 l[k].row']) ?_ ?_))))))))))))))))
        · by_cases h3 : l[k].kind = 3
          · refine an_ (F_ r_ (L_ 0 r_ (o_ r_ (bn_ r_ r_ (M_ r_ (ai_ r_ u_ b_ (ai_ r_ u_ b_ (ai_ r_ u_ b_ (o_ r_ (bp_ r_ u_ r_ (M_ r_ (ah_ r_ r_ b_ (bd_ r_ (ah_ r_ r_ b_ (bn_ r_ r_ (ah_ r_ r_ b_ (bd_ r_ (ah_ r_ r_ b_ (bf_ r_ r_ r_ b_ (ah_ r_ r_ b_ (bg_ 0 r_ r_ r_ r_ (ah_ r_ r_ b_ (bd_ r_ ?_)))))))))))))))))))))))
            refine ah_ r_ r_ b_ (bn_ r_ r_ (ah_ r_ r_ b_ (bv_ r_ r_ r_ (o_ r_ (bp_ r_ r_ r_ (ak_ (jq_cut () [1, 0] trivial rfl ?_)))))))
            (repeat (first | exact True.intro | refine ⟨rfl, ?_⟩))
          · by_cases h4 : l[k].kind = 4
            · refine an_ (F_ r_ (L_ 0 r_ (o_ r_ (bn_ r_ r_ (M_ r_ (ah_ r_ w_ b_ (bf_ r_ r_ r_ b_ (ah_ r_ w_ b_ (bg_ 0 r_ r_ r_ r_ (ah_ r_ w_ b_ (bn_ r_ r_ (o_ r_ (bv_ r_ w_ r_ (M_ r_ (ah_ r_ u_ b_ (bd_ r_ (ah_ r_ u_ b_ (bn_ r_ r_ (ah_ r_ u_ b_ (bd_ r_ (ah_ r_ r_ b_ (bf_ r_ r_ r_ b_ (ah_ r_ r_ b_ (bg_ 0 r_ r_ r_ r_ (ah_ r_ r_ b_ (bd_ r_ ?_))))))))))))))))))))))))))
              refine ah_ r_ r_ b_ (bn_ r_ r_ (ah_ r_ u_ b_ (bv_ r_ r_ r_ (o_ r_ (bp_ r_ u_ r_ (ak_ (jq_cut () [1, 0] trivial rfl ?_)))))))
              (repeat (first | exact True.intro | refine ⟨rfl, ?_⟩))
            · refine an_ (F_ r_ (L_ 0 r_ (o_ r_ (bn_ r_ r_ (M_ r_ (ah_ r_ w_ b_ (bf_ r_ r_ r_ b_ (ah_ r_ w_ b_ (bg_ 0 r_ r_ r_ r_ (ah_ r_ w_ b_ (bn_ r_ r_ (o_ r_ (bv_ r_ w_ r_ (M_ r_ (ai_ r_ w_ b_ (ai_ r_ w_ b_ (ai_ r_ w_ b_ (aj_ r_ b_ (aj_ r_ b_ (aj_ r_ b_ ?_))))))))))))))))))))
              refine aj_ r_ b_ (ai_ r_ w_ b_ (o_ r_ (bv_ r_ w_ r_ (ak_ ?_))))
              rw [show decide (l[k].kind = 3) = false from decide_eq_false h3]
              refine jq_cut () [1, 0] trivial rfl ?_
              (repeat (first | exact True.intro | refine ⟨rfl, ?_⟩))
        intro _ _
        refine jc_cut (ι := Value) [0, 1, 2, 8, 9] (fun _ => True) (fun v => [(7, .cell (.val v))]) (fun v => [.own v 3 1 (((l.take k).flatMap (rlOne (f + 1)) ++ rlSelf l[k]).map Irow), .blk bl 111 l[k].row']) ?_ ?_
        · have hself : (rlSelf l[k]).length ≤ (rlOne (f + 1) l[k]).length := by rw [e2]; simp only [List.length_append]; omega
          refine jc_condd rfl (fun hw => ?_) (fun hw => ?_)
          · have e1 : rlSelf l[k] = [l[k].label] := by simp [rlSelf, hw]
            rw [e1] at hself ⊢
            simp only [List.length_cons, List.length_nil] at hself
            refine an_ (M_ r_ (F_ r_ (L_ 1 r_ (o_ r_ (bq_ r_ r_ b_ r_ r_ b_ (o_ r_ (ow_append1 0 (l[k].label) rfl rfl rfl rfl rfl rfl rfl (fun _ => rfl) (by show (_ + _) * 8 ≤ _; first | omega | (simp only [List.length_append]; omega)) (by first | omega | (simp only [List.length_append]; omega)) (fun v1 hv1 => E_ r_ (ak_ (jq_cut v1 [0, 0] trivial rfl ?_))))))))))
            (repeat (first | exact True.intro | refine ⟨rfl, ?_⟩))
          · have e1 : rlSelf l[k] = [] := by simp [rlSelf, hw]
            rw [e1, List.append_nil]
            refine as_ (jq_cut v [0, 0] trivial rfl ?_)
            (repeat (first | exact True.intro | refine ⟨rfl, ?_⟩))
        · intro v1 _
          refine R_ (M_ r_ (F_ r_ (L_ 1 r_ (M_ r_ (o_ r_ (bj_ r_ r_ g_ (M_ r_ (o_ r_ (bm_ r_ (ih _ _ g_ g_ g_) (o_ r_ (ow_appendM 0 rfl rfl rfl rfl rfl rfl rfl (fun _ => rfl) (by show (_ + _) * 8 ≤ _; first | omega | (simp only [List.length_append]; omega)) (by first | omega | (simp only [List.length_append]; omega)) (fun v2 hv2 => E_ r_ (T_ (an_ (M_ r_ (F_ r_ (L_ 1 r_ (M_ r_ ?_))))))))))))))))))
          refine o_ r_ (bj_ r_ r_ g_ (M_ r_ (o_ r_ (bm_ r_ (ih _ _ g_ g_ g_) (o_ r_ (ow_appendM 0 rfl rfl rfl rfl rfl rfl rfl (fun _ => rfl) (by show (_ + _) * 8 ≤ _; first | omega | (simp only [List.length_append]; omega)) (by first | omega | (simp only [List.length_append]; omega)) (fun v3 hv3 => E_ r_ (ak_ (ay_ (al_ (an_ (M_ r_ (o_ r_ (bj_ r_ r_ g_ (E_ r_ (ak_ ?_))))))))))))))))
          refine jq_again (i := (k, v)) (k + 1, v3) [0] hlt (by dsimp only; omega) (own_eq (congrArg (List.map Irow) ?_)) ?_
          · rw [flat_take hlt, e2]
            simp only [List.append_assoc]
          · (repeat (first | exact True.intro | refine ⟨rfl, ?_⟩))
      · refine am_ (R_ (M_ r_ (M_ r_ (o_ r_ (br_ r_ (fun hlen => o_ r_ (bw_ r_ r_ (M_ r_ (ai_ r_ w_ b_ (ai_ r_ w_ b_ (o_ r_ (bv_ r_ w_ r_ (T_ (jc_cond rfl (fun h => by cases h) (fun _ => av_ (ax_ (ax_ (ba_ ?_))))))))))))))))))
        refine al_ (R_ (M_ r_ (E_ r_ (T_ (ar_ ?_)))))
        simp only [List.length_map, Int.ofNat_lt] at hlt
        rw [List.take_of_length_le (Nat.le_of_not_lt hlt)]
        refine jq_freeze 6 0 rfl rfl (by rw [hc]; simp [hb]) (jq_ret1 rfl rfl [] rfl (fun K h => h))

def ifsOf (l : List Sm) : List Int := l.flatMap (rlOne 20)
theorem Ifs_c (l : List Sm) (h : (ifsOf l).length ≤ 1000000) : Con Tryd.prog 51 [.cell (.list (l.map Sm.row))] [] (fun K => K (.cell (.list ((ifsOf l).map Irow))) []) := by
  refine con_intro Tryd.func51 rfl rfl (Nat.le_of_ble_eq_true rfl) (fun c hc => R_ (E_ r_ (T_ (R_ (M_ r_ (o_ r_ (bm_ r_ (rlabels_c 20 _ _ g_ g_ h) (E_ r_ (T_ (ar_ (jq_ret1 rfl rfl [] rfl (fun K h => h))))))))))))
end Go.Proofs.YtlniadfidfmckaaDoor
end

section
namespace Go.Proofs.YtlniadfidfmckaaDoor
open Go.Vc
attribute [local irreducible] JL JC JQ OpWp Con ConN

section
variable {L : List Int} {bm bd : Nat} {V A : List ByteArray} {Sh : List Shd}
theorem maker_c (gv : Gv L V A Sh) : ∀ d : Nat, d ≤ 10 → StmtP L bm bd V A Sh d ∧ BlockP L bm bd V A Sh d ∧ LoopP L bm bd V A Sh d
  | 0, h => by
    have h1 : StmtP L bm bd V A Sh 0 := stmt_step gv 0 h (fun d' h => by omega) (fun d' h => by omega)
    have h2 := block_step gv 0 h1
    exact ⟨h1, h2, loop_step gv 0 h h2⟩
  | d + 1, h => by
    obtain ⟨_, g2, g3⟩ := maker_c gv d (by omega)
    have e2 : ∀ d', d + 1 = d' + 1 → BlockP L bm bd V A Sh d' := fun d' e => by
      have e : d' = d := by omega
      subst e
      exact g2
    have e3 : ∀ d', d + 1 = d' + 1 → LoopP L bm bd V A Sh d' := fun d' e => by
      have e : d' = d := by omega
      subst e
      exact g3
    have h1 := stmt_step gv (d + 1) h e2 e3
    have h2 := block_step gv (d + 1) h1
    exact ⟨h1, h2, loop_step gv (d + 1) h h2⟩
end

mutual
def Sm.sz : Sm → Nat
  | .mk _ _ _ _ _ _ t e => 1 + Sm.szs t + Sm.szs e
def Sm.szs : List Sm → Nat
  | [] => 0
  | s :: l => s.sz + Sm.szs l
end
theorem Sm.szs_app : ∀ l m : List Sm, Sm.szs (l ++ m) = Sm.szs l + Sm.szs m
  | [], m => by simp [Sm.szs]
  | s :: l, m => by simp only [List.cons_append, Sm.szs, Sm.szs_app l m]; omega
theorem Sm.sz_eq (s : Sm) : s.sz = 1 + Sm.szs s.thn + Sm.szs s.els := by cases s; simp [Sm.sz, Sm.thn, Sm.els]
theorem Sm.szs_take (l : List Sm) (n : Nat) : Sm.szs (l.take n) ≤ Sm.szs l := by
  have := Sm.szs_app (l.take n) (l.drop n)
  rw [List.take_append_drop] at this
  omega
theorem flat_szs {f : Sm → List Int} (h : ∀ s, (f s).length ≤ s.sz) : ∀ l : List Sm, (l.flatMap f).length ≤ Sm.szs l
  | [] => by simp
  | s :: l => by
    have := flat_szs h l
    have := h s
    simp only [List.flatMap_cons, List.length_append, Sm.szs]
    omega
theorem rlOne_le : ∀ (f : Nat) (s : Sm), (rlOne f s).length ≤ s.sz
  | 0, s => by simp [rlOne]
  | f + 1, s => by
    have h1 := flat_szs (rlOne_le f) s.thn
    have h2 := flat_szs (rlOne_le f) s.els
    have h3 : (rlSelf s).length ≤ 1 := by unfold rlSelf; split <;> simp
    simp only [rlOne, List.length_append, Sm.sz_eq s]
    omega
theorem ifs_le (l : List Sm) : (ifsOf l).length ≤ Sm.szs l := flat_szs (rlOne_le 20) l
def cntG : Nat → Nat
  | 0 => 1
  | d + 1 => 3 + 4 * cntG d
theorem cntG_pos (d : Nat) : 1 ≤ cntG d := by cases d <;> simp [cntG]; omega
theorem pc_szs {St : Int → Int → List Sm → Prop} {n : Nat} (h : ∀ a b l, St a b l → Sm.szs l ≤ n) {k : Nat} {a b : Int} {l : List Sm} (hp : PcG St k a b l) : Sm.szs l ≤ k * n := by
  induction hp with
  | nil => simp [Sm.szs]
  | snoc k _ _ _ l l2 _ h2 ih =>
    have := h _ _ _ h2
    rw [Sm.szs_app, Nat.add_mul]
    omega
theorem bl_szs {St : Int → Int → List Sm → Prop} {n : Nat} (h : ∀ a b l, St a b l → Sm.szs l ≤ n) {m : Nat} {a b : Int} {l : List Sm} (hp : BlG St m a b l) : Sm.szs l ≤ m * n := by
  obtain ⟨k, hk, hp⟩ := hp
  exact Nat.le_trans (pc_szs h hp) (Nat.mul_le_mul_right _ (by omega))
theorem StG_szs {V A : List ByteArray} {Sh : List Shd} : ∀ (d : Nat) (il : Int) (hs : ByteArray) (a b : Int) (l : List Sm), StG V A Sh d il hs a b l → Sm.szs l ≤ cntG d := by
  have leaf : ∀ {U : List ByteArray} {a b : Int} {l : List Sm}, LeafG V U a b l → Sm.szs l = 1 := by
    rintro U a b l ⟨_, ⟨s, e, _, _, rfl⟩ | ⟨s, e, e2, _, _, _, rfl⟩⟩ <;> simp [Sm.szs, Sm.sz]
  intro d
  induction d with
  | zero =>
    intro il hs a b l h
    have := leaf h
    simp [cntG, this]
  | succ d ih =>
    intro il hs a b l h
    have b2 : ∀ il hs a b l, BlG (StG V A Sh d il hs) 2 a b l → Sm.szs l ≤ 2 * cntG d := fun il hs a b l h => bl_szs (m := 2) (ih il hs) h
    have hp := cntG_pos d
    rcases h with h | h | h | h
    · have := leaf h
      simp only [cntG]
      omega
    · obtain ⟨_, c, l1, l2, lab1, _, h1, h2, rfl⟩ := h
      have e1 := b2 _ _ _ _ _ h1
      have e2 : Sm.szs l2 ≤ 2 * cntG d := by
        rcases h2 with ⟨rfl, _⟩ | h2
        · simp [Sm.szs]
        · exact b2 _ _ _ _ _ h2
      simp only [Sm.szs, Sm.sz, cntG]
      omega
    · obtain ⟨_, _, h | h⟩ := h
      · obtain ⟨c, mx, l1, _, _, h1, rfl⟩ := h
        have e1 := b2 _ _ _ _ _ h1
        simp only [Sm.szs, Sm.sz, cntG]
        omega
      · obtain ⟨v, n, op, top, mx, l1, st, _, _, _, _, _, _, h1, rfl⟩ := h
        have e1 := b2 _ _ _ _ _ h1
        simp only [Sm.szs, Sm.sz, cntG, Sm.szs_app]
        omega
    · obtain ⟨_, sh, _, l1, h1, rfl⟩ := h
      have e1 := b2 _ _ _ _ _ h1
      simp only [Sm.szs, Sm.sz, cntG]
      omega
theorem body_szs {V A : List ByteArray} {Sh : List Shd} {a b : Int} {l : List Sm} (h : BlG (StG V A Sh 3 0 E0) 5 a b l) : Sm.szs l ≤ 635 := bl_szs (m := 5) (StG_szs 3 0 E0) h
end Go.Proofs.YtlniadfidfmckaaDoor
end

section
namespace Go.Proofs.YtlniadfidfmckaaDoor
open Go.Vc
set_option maxHeartbeats 8000000
attribute [local irreducible] JL JC JQ OpWp Con ConN
attribute [local irreducible] StG BlG

abbrev NilC : C := .val (.slice none 0 0)
abbrev Zt : List C := [.val (.string ⟨#[]⟩), .val (.int .i64 0), .val (.int .i64 0), .val (.int .i64 0), .val (.int .i64 0), NilC, NilC, NilC, NilC, NilC, NilC]
abbrev Rw (nm : ByteArray) (per dln pri jit : Int) (a b c d e f : C) : List C := [.val (.string nm), .val (.int .i64 per), .val (.int .i64 dln), .val (.int .i64 pri), .val (.int .i64 jit), a, b, c, d, e, f]
abbrev M0 (bd : Nat) (v : Value) (Sh : List Shd) (N : Int) : List C := [.val (.pointer (some ⟨bd, 0, none⟩)), .val v, NilC, NilC, .list (Sh.map ShRow), .val (.string ⟨#[]⟩), .val (.int .i64 0), .val (.int .i64 N), .val (.int .i64 0)]
theorem pow_bd (i : Int) (h : i.toNat ≤ 30) : (0 : Int) ≤ 1 * 2 ^ i.toNat ∧ (1 : Int) * 2 ^ i.toNat ≤ 1073741824 := by
  have h6 : (2 : Nat) ^ i.toNat ≤ 2 ^ 30 := Nat.pow_le_pow_right (by omega) h
  have h7 : ((2 ^ i.toNat : Nat) : Int) = (2 : Int) ^ i.toNat := by simp
  have h8 : (0 : Int) ≤ (2 : Int) ^ i.toNat := h7 ▸ Int.natCast_nonneg _
  omega
abbrev XY : List ByteArray := [⟨#[120]⟩, ⟨#[121]⟩]
abbrev VS : List ByteArray := [⟨#[105]⟩, ⟨#[107]⟩, ⟨#[110]⟩]
def InG (k : Nat) (l : List Inp) : Prop := l.map (·.1) = XY.take k ∧ ∀ x ∈ l, (-2 ≤ x.2.1 ∧ x.2.1 ≤ 3) ∧ x.2.1 ≤ x.2.2 ∧ x.2.2 ≤ x.2.1 + 11
def ArG (l : List Arr) : Prop := l = [] ∨ ∃ k : Nat, k ≤ 3 ∧ l = [(⟨#[97]⟩, 2 ^ k)]
def MdG (I : List Inp) (l : List Md) : Prop := l = [] ∨ ∃ x lo hi, I[0]? = some x ∧ (x.2.1 ≤ lo ∧ lo ≤ hi ∧ hi ≤ x.2.2) ∧ l = [(⟨#[102, 101, 119]⟩, x.1, lo, hi)]
def ClG (ifs : List Int) (l : List Clm) : Prop := l = [] ∨ ∃ (a b : Nat) (ha : a < ifs.length) (hb : b < ifs.length), a ≠ b ∧ l = [(ifs[a], ifs[b])]
structure TaskG (Sh : List Shd) (nm : ByteArray) (W : Int) (t : Tk) : Prop where
  name : t.name = nm
  period : 2000 ≤ t.period ∧ t.period ≤ 6000
  deadline : t.period - 400 ≤ t.deadline ∧ t.deadline ≤ t.period
  priority : 1 ≤ t.priority ∧ t.priority ≤ 5
  jitter : 0 ≤ t.jitter ∧ t.jitter ≤ 30
  inputs : t.inputs.length ≤ 2 ∧ InG t.inputs.length t.inputs
  vars : t.vars = VS
  arrays : ArG t.arrays
  modes : MdG t.inputs t.modes
  claims : ClG (ifsOf t.body) t.claims
  body : ∃ lab l n, BlG (StG (t.inputs.map (·.1) ++ VS) (t.arrays.map (·.1)) Sh 3 0 E0) 5 0 lab l ∧ t.body = l.take n
  weight : wAll 20 t.body 0 ≤ W
  size : Sm.czs t.body ≤ 1680
theorem InG.len {k : Nat} {l : List Inp} (h : InG k l) (hk : k ≤ 2) : l.length = k := by
  have := congrArg List.length h.1
  simpa [Nat.min_eq_left hk] using this
theorem InG.snoc {k : Nat} {l : List Inp} (h : InG k l) {s : ByteArray} {lo hi : Int} (hs : XY[k]? = some s) (hb : (-2 ≤ lo ∧ lo ≤ 3) ∧ lo ≤ hi ∧ hi ≤ lo + 11) : InG (k + 1) (l ++ [(s, lo, hi)]) := by
  refine ⟨?_, fun x hx => ?_⟩
  · obtain ⟨hlt, rfl⟩ := List.getElem?_eq_some_iff.1 hs
    rw [List.map_append, h.1, List.take_succ_eq_append_getElem hlt]
    rfl
  · rcases List.mem_append.1 hx with hx | hx
    · exact h.2 x hx
    · rw [List.mem_singleton.1 hx]; exact hb

abbrev Et3 (bd : Nat) (W : Int) (br bt : Nat) : Env := [(0, Ptr bd), (3, In .i64 W), (10, Ptr br), (11, Ptr bt)]
abbrev Et (bd : Nat) (W : Int) (br bt bx : Nat) : Env := [(0, Ptr bd), (3, In .i64 W), (10, Ptr br), (11, Ptr bt), (12, Ptr bx)]

section
variable {L : List Int} {bd : Nat} {Sh : List Shd}

theorem task_c (hL : InR L) (hLn : L.length ≤ 400) (hSh : Sh.length ≤ 100) (nm : ByteArray) (W N : Int) (hW : 0 ≤ W ∧ W ≤ 1000000) (hN : 0 ≤ N ∧ N ≤ 14) :
    Con Tryd.prog 31 [Ptr bd, Str nm, .cell (.list (Sh.map ShRow)), In .i64 W, In .i64 N] [Dk bd L] (fun K => ∀ t : Tk, TaskG Sh nm W t → K (.row t.row) [Dk bd L]) := by
  refine con_intro Tryd.func31 rfl rfl (Nat.le_of_ble_eq_true rfl) (fun c hc => R_ (o_ r_ (bl_ rfl rfl (fun br => T_ (R_ (M_ r_ (M_ r_ (o_ r_ (bt_ [1] rfl rfl (Nx_c _ hL hLn g_) (fun k1 hk1 => o_ r_ (cz_ r_ r_ g_ (o_ r_ (bj_ r_ r_ g_ (M_ r_ (o_ r_ (bt_ [0] rfl rfl (Nx_c _ hL hLn g_) (fun k2 hk2 => o_ r_ (bj_ r_ r_ g_ (M_ r_ (o_ r_ (bt_ [0] rfl rfl (Nx_c _ hL hLn g_) (fun k3 hk3 => ?_))))))))))))))))))))))
  refine o_ r_ (cz_ r_ r_ g_ (o_ r_ (bu_ r_ r_ r_ r_ r_ (o_ r_ (bl_ rfl rfl (fun bt => S_ 0 r_ (T_ (am_ (jc_anyB 6 none rfl k_ k_ (yF_ r_ (yL_ 0 r_ (yM_ r_ (aa_ (fun c => ow_callA [1] r_ r_ (gNext_c L _ _ hL hLn g_)) (aa_ (fun c => ow_exarg 35 rfl (fun i => cz_ rfl rfl (by have := i.2; omega) ⟨rfl, .refl _⟩)) (aa_ (fun c => ow_exarg 36 rfl (fun i => cg_ rfl rfl (by have := i.2; omega) ⟨rfl, .refl _⟩)) ?_)))))))))))))))
  refine ae_ (afin_none (jl_slot 37 rfl (fun dl => F_ r_ (W_ 0 r_ (T_ (R_ (M_ r_ (M_ r_ (M_ r_ (o_ r_ (bu_ r_ r_ r_ r_ r_ (o_ r_ (ci_ r_ (fun bx => E_ r_ (T_ (am_ (R_ (E_ r_ ?_))))))))))))))))))
  refine T_ (jc_ownNil 9 1 g_ (jc_ownNil 85 3 g_ ?_))
  have hdl := dl.2
  generalize hper : 2000 + k1 * 500 = per
  generalize hdln : per - dl.1 * 100 = dln
  generalize hpri : 1 + k2 = pri
  generalize hjit : k3 * 10 = jit
  have hper2 : 2000 ≤ per ∧ per ≤ 6000 := by omega
  have hdln2 : per - 400 ≤ dln ∧ dln ≤ per := by omega
  have hpri2 : 1 ≤ pri ∧ pri ≤ 5 := by omega
  have hjit2 : 0 ≤ jit ∧ jit ≤ 30 := by omega
  clear hper hdln hpri hjit hdl hk1 hk2 hk3
  refine jc_cut (ι := (Value × List Inp) × (Value × List ByteArray)) [] (fun i => (c.Fresh i.1.1 ∧ c.Fresh i.2.1) ∧ ∃ n, n ≤ 2 ∧ InG n i.1.2 ∧ i.2.2 = XY.take n) (fun _ => Et bd W br bt bx)
    (fun i => [.blk bt 78 (Rw nm per dln pri jit (.val i.1.1) NilC NilC NilC NilC NilC), .blk bx 115 (M0 bd i.2.1 Sh N), .own i.1.1 85 3 (i.1.2.map InRow), .own i.2.1 9 1 (i.2.2.map Wrow), Dk bd L, .blk br 78 Zt]) ?_ ?_
  · refine au_ ?_
    refine jc_loopS (ι := Nat × (Value × List Inp) × (Value × List ByteArray)) [] (fun i => i.1 ≤ 2 ∧ (c.Fresh i.2.1.1 ∧ c.Fresh i.2.2.1) ∧ InG i.1 i.2.1.2 ∧ i.2.2.2 = XY.take i.1) (fun i => (13, In .i64 (i.1 : Int)) :: Et bd W br bt bx)
      (fun i => [.blk bt 78 (Rw nm per dln pri jit (.val i.2.1.1) NilC NilC NilC NilC NilC), .blk bx 115 (M0 bd i.2.2.1 Sh N), .own i.2.1.1 85 3 (i.2.1.2.map InRow), .own i.2.2.1 9 1 (i.2.2.2.map Wrow), Dk bd L, .blk br 78 Zt]) (fun i => 3 - i.1) (0, (.slice none 0 0, []), (.slice none 0 0, [])) ⟨by omega, ⟨fresh_nil, fresh_nil⟩, ⟨by simp, by simp⟩, by simp⟩ ?_ ?_ ?_
    · exact bc_ 3 r_ (bc_ 2 r_ (bc_ 0 r_ (bc_ 0 r_ (bc_ 0 r_ (bc_ 0 r_ sub_end)))))
    · (repeat (first | exact True.intro | refine ⟨rfl, ?_⟩))
    · rintro ⟨k, ⟨vI, lI⟩, vV, lV⟩ ⟨hk, ⟨hfI, hfV⟩, hokI, hlV⟩
      dsimp only at hk hfI hfV hokI hlV ⊢
      have hlI := hokI.len hk
      have hlV2 : lV.length ≤ 2 := by rw [hlV]; simp; omega
      refine am_ (R_ (M_ r_ (M_ r_ (o_ r_ (bt_ [4] rfl rfl (Nx_c _ hL hLn g_) (fun k4 hk4 => o_ r_ (bw_ r_ r_ (T_ (jc_condd rfl (fun hlt => ?_) (fun hge => ?_))))))))))
      · refine as_ (al_ (B_ (am_ (jc_cut (ι := ByteArray) [] (fun s => k ≤ 1 → XY[k]? = some s) (fun s => (14, Str s) :: ((13, In .i64 (k : Int)) :: Et bd W br bt bx)) (fun _ => [.blk bt 78 (Rw nm per dln pri jit (.val vI) NilC NilC NilC NilC NilC), .blk bx 115 (M0 bd vV Sh N), .own vI 85 3 (lI.map InRow), .own vV 9 1 (lV.map Wrow), Dk bd L, .blk br 78 Zt]) ?_ ?_))))
        · have hk3 : k = 0 ∨ k = 1 ∨ k = 2 := by omega
          rcases hk3 with rfl | rfl | rfl
          · refine an_ (o_ r_ (bq_ r_ r_ b_ r_ r_ b_ (M_ r_ (o_ r_ (ow_rem64 r_ r_ g_ g_ (o_ r_ (ow_indexAddr r_ r_ g_ r_ r_ b_ (o_ r_ (cb_ r_ r_ (E_ r_ (ak_ (jq_cutS (⟨#[120]⟩ : ByteArray) (fun _ => rfl) ?_ ?_))))))))))))
            · exact bc_ 1 r_ (bc_ 1 r_ (bc_ 1 r_ (bc_ 1 r_ (bc_ 0 r_ (bc_ 0 r_ sub_end)))))
            · (repeat (first | exact True.intro | refine ⟨rfl, ?_⟩))
          · refine an_ (o_ r_ (bq_ r_ r_ b_ r_ r_ b_ (M_ r_ (o_ r_ (ow_rem64 r_ r_ g_ g_ (o_ r_ (ow_indexAddr r_ r_ g_ r_ r_ b_ (o_ r_ (cb_ r_ r_ (E_ r_ (ak_ (jq_cutS (⟨#[121]⟩ : ByteArray) (fun _ => rfl) ?_ ?_))))))))))))
            · exact bc_ 1 r_ (bc_ 1 r_ (bc_ 1 r_ (bc_ 1 r_ (bc_ 0 r_ (bc_ 0 r_ sub_end)))))
            · (repeat (first | exact True.intro | refine ⟨rfl, ?_⟩))
          · refine an_ (o_ r_ (bq_ r_ r_ b_ r_ r_ b_ (M_ r_ (o_ r_ (ow_rem64 r_ r_ g_ g_ (o_ r_ (ow_indexAddr r_ r_ g_ r_ r_ b_ (o_ r_ (cb_ r_ r_ (E_ r_ (ak_ (jq_cutS (⟨#[120]⟩ : ByteArray) (fun h => by omega) ?_ ?_))))))))))))
            · exact bc_ 1 r_ (bc_ 1 r_ (bc_ 1 r_ (bc_ 1 r_ (bc_ 0 r_ (bc_ 0 r_ sub_end)))))
            · (repeat (first | exact True.intro | refine ⟨rfl, ?_⟩))
        intro s hsXY
        refine am_ (R_ (M_ r_ (o_ r_ (bz_ r_ r_ (T_ (jc_condd rfl (fun h1 => ?_) (fun h1 => ?_)))))))
        · refine av_ (ax_ (bb_ r_ (ax_ (ax_ (ba_ (jq_cutS ((vI, lI), (vV, lV)) ⟨⟨hfI, hfV⟩, k, hk, hokI, hlV⟩ ?_ ?_))))))
          · exact bc_ 0 r_ (bc_ 0 r_ (bc_ 0 r_ (bc_ 0 r_ (bc_ 0 r_ (bc_ 0 r_ sub_end)))))
          · (repeat (first | exact True.intro | refine ⟨rfl, ?_⟩))
        · refine as_ (al_ (R_ (M_ r_ (o_ r_ (bt_ [4] rfl rfl (Nx_c _ hL hLn g_) (fun k5 hk5 => o_ r_ (cg_ r_ r_ g_ (E_ r_ (T_ (am_ (jc_anyB 10 none rfl k_ k_ (yF_ r_ (yL_ 1 r_ (yM_ r_ (yM_ r_ (yM_ r_ (yM_ r_ ?_)))))))))))))))))
          refine aa_ (fun c => ow_callA [0] r_ r_ (gNext_c L _ _ hL hLn g_)) (aa_ (fun c => ow_exarg 66 rfl (fun i => bj_ rfl rfl (by have := i.2; omega) ⟨rfl, .refl _⟩)) (aa_ (fun c => ow_exarg 67 rfl (fun i => bu_ rfl rfl rfl rfl rfl ⟨rfl, .refl _⟩)) (aa_ (fun c => ow_exarg 68 rfl (fun i => bq_ rfl rfl b_ rfl rfl b_ ⟨rfl, .refl _⟩)) (ae_ (afin_none (jl_slot 69 rfl (fun n => ?_)))))))
          (first | refine jl_op (ow_append1F 3 ((s, k5 - 2, k5 - 2 + n.1)) rfl rfl rfl rfl rfl rfl rfl (fun _ => rfl) (by show (_ + _) * 32 ≤ _; first | omega | (simp only [List.length_append]; omega)) (by first | omega | (simp only [List.length_append]; omega)) (fun vI1 hvI1 fvI1 => ?_)) (nb rfl) | refine jl_op (ow_append1F 2 ((s, k5 - 2, k5 - 2 + n.1)) rfl rfl rfl rfl rfl rfl rfl (fun _ => rfl) (by show (_ + _) * 32 ≤ _; first | omega | (simp only [List.length_append]; omega)) (by first | omega | (simp only [List.length_append]; omega)) (fun vI1 hvI1 fvI1 => ?_)) (nb rfl) | refine jl_op (ow_append1F 4 ((s, k5 - 2, k5 - 2 + n.1)) rfl rfl rfl rfl rfl rfl rfl (fun _ => rfl) (by show (_ + _) * 32 ≤ _; first | omega | (simp only [List.length_append]; omega)) (by first | omega | (simp only [List.length_append]; omega)) (fun vI1 hvI1 fvI1 => ?_)) (nb rfl))
          refine F_ r_ (W_ 2 r_ (T_ (an_ (M_ r_ (M_ r_ (N_ r_ (F_ r_ (L_ 3 r_ (M_ r_ (o_ r_ (bq_ r_ r_ b_ r_ r_ b_ ?_)))))))))))
          (first | refine jl_op (ow_append1F 3 (s) rfl rfl rfl rfl rfl rfl rfl (fun _ => rfl) (by show (_ + _) * 16 ≤ _; first | omega | (simp only [List.length_append]; omega)) (by first | omega | (simp only [List.length_append]; omega)) (fun vV1 hvV1 fvV1 => ?_)) (nb rfl) | refine jl_op (ow_append1F 2 (s) rfl rfl rfl rfl rfl rfl rfl (fun _ => rfl) (by show (_ + _) * 16 ≤ _; first | omega | (simp only [List.length_append]; omega)) (by first | omega | (simp only [List.length_append]; omega)) (fun vV1 hvV1 fvV1 => ?_)) (nb rfl) | refine jl_op (ow_append1F 4 (s) rfl rfl rfl rfl rfl rfl rfl (fun _ => rfl) (by show (_ + _) * 16 ≤ _; first | omega | (simp only [List.length_append]; omega)) (by first | omega | (simp only [List.length_append]; omega)) (fun vV1 hvV1 fvV1 => ?_)) (nb rfl))
          refine N_ r_ (F_ r_ (W_ 4 r_ (ak_ (ay_ (al_ (an_ (M_ r_ (o_ r_ (bj_ r_ r_ g_ (E_ r_ (ak_ ?_)))))))))))
          have hk1 : k ≤ 1 := by omega
          refine jq_againS (i := (k, (vI, lI), (vV, lV))) (k + 1, (vI1, lI ++ [(s, k5 - 2, k5 - 2 + n.1)]), (vV1, lV ++ [s])) ⟨by dsimp only; omega, ⟨fvI1 hfI, fvV1 hfV⟩, hokI.snoc (hsXY hk1) (by have := n.2; omega), by
            obtain ⟨hlt, rfl⟩ := List.getElem?_eq_some_iff.1 (hsXY hk1)
            dsimp only
            rw [hlV, List.take_succ_eq_append_getElem hlt]⟩ (by dsimp only; omega) ?_ ?_
          · exact bc_ 2 r_ (bc_ 0 r_ (bc_ 1 r_ (bc_ 0 r_ (bc_ 0 r_ (bc_ 0 r_ sub_end)))))
          · (repeat (first | exact True.intro | refine ⟨rfl, ?_⟩))
      · refine av_ (ax_ (ax_ (ba_ (jq_cutS ((vI, lI), (vV, lV)) ⟨⟨hfI, hfV⟩, k, hk, hokI, hlV⟩ ?_ ?_))))
        · exact bc_ 1 r_ (bc_ 1 r_ (bc_ 1 r_ (bc_ 1 r_ (bc_ 0 r_ (bc_ 0 r_ sub_end)))))
        · (repeat (first | exact True.intro | refine ⟨rfl, ?_⟩))
  rintro ⟨⟨vI, lI⟩, vV, lV⟩ ⟨⟨hfI, hfV⟩, nI, hnI, hokI, hlV⟩
  dsimp only at hfI hfV hokI hlV ⊢
  have hlI := hokI.len hnI
  have hlV2 : lV.length ≤ 2 := by rw [hlV]; simp; omega
  have hlVI : lV = lI.map (·.1) := by rw [hlV, hokI.1]
  clear hlV
  refine jc_freezeB 2 0 5 rfl rfl hfI (R_ (o_ r_ (bq_ r_ r_ b_ r_ r_ b_ (F_ r_ (W_ 0 r_ (T_ (am_ (jc_anyF 7 none [0] rfl k_ k_ k_ rfl (yM_ r_ (yM_ r_ (yN_ r_ (yF_ r_ (yL_ 1 r_ (yF_ r_ (yL_ 0 r_ (ae_ ?_))))))))))))))))
  refine afin_none ?_
  (first | refine jl_op (ow_appendMF (f := Wrow) (l1 := lV) (l2 := [⟨#[105]⟩, ⟨#[107]⟩, ⟨#[110]⟩]) 2 rfl rfl rfl rfl rfl rfl rfl (fun _ => rfl) (by show (_ + 3) * 16 ≤ _; omega) (by simp; omega) (fun vV1 hvV1 fvV1 => ?_)) (nb rfl) | refine jl_op (ow_appendMF (f := Wrow) (l1 := lV) (l2 := [⟨#[105]⟩, ⟨#[107]⟩, ⟨#[110]⟩]) 3 rfl rfl rfl rfl rfl rfl rfl (fun _ => rfl) (by show (_ + 3) * 16 ≤ _; omega) (by simp; omega) (fun vV1 hvV1 fvV1 => ?_)) (nb rfl))
  refine jl_freezeF 91 0 rfl rfl (fvV1 hfV) ?_
  generalize hVe : lV ++ VS = V
  have hV0 : 0 < V.length := by rw [← hVe]; simp
  have hV : V.length ≤ 100 := by rw [← hVe]; simp; omega
  refine N_ r_ (F_ r_ (W_ 1 r_ (ak_ (jq_np (al_ (am_ ?_))))))
  have hMk : RowLe [.val (.pointer (some ⟨bd, 0, none⟩)), .list (V.map Wrow), NilC, NilC, .list (Sh.map ShRow), .val (.string ⟨#[]⟩), .val (.int .i64 0), .val (.int .i64 N), .val (.int .i64 0)] (MkRow bd V (.slice none 0 0) [] Sh ⟨#[]⟩ 0 N 0) :=
    .cons (.refl _) (.cons (.refl _) (.cons (.refl _) (.cons .nil (.refl _))))
  (first | refine jc_row 0 _ rfl hMk ?_ | refine jc_row 1 _ rfl hMk ?_ | refine jc_row 2 _ rfl hMk ?_)
  refine jc_cut (ι := List Arr) [] ArG (fun _ => Et bd W br bt bx) (fun ar => [.blk bt 78 (Rw nm per dln pri jit (.list (lI.map InRow)) (.list (VS.map Wrow)) (.list (ar.map ArRow)) NilC NilC NilC), Mk bx bd V (.slice none 0 0) (ar.map (·.1)) Sh ⟨#[]⟩ 0 N 0, Dk bd L, .blk br 78 Zt]) ?_ ?_
  · refine R_ (M_ r_ (o_ r_ (bt_ [2] rfl rfl (Nx_c _ hL hLn g_) (fun k6 hk6 => o_ r_ (bn_ r_ r_ (T_ (jc_condd rfl (fun h1 => ?_) (fun h1 => ?_))))))))
    · refine R_ (M_ r_ (o_ r_ (bt_ [0] rfl rfl (Nx_c _ hL hLn g_) (fun k7 hk7 => ?_))))
      have h5 := pow_bd k7 (by omega)
      refine o_ r_ (ow_convU64 r_ r_ r_ g_ (o_ r_ (ow_shl64 r_ r_ g_ g_ (o_ r_ (bu_ r_ r_ r_ r_ r_ (o_ r_ (bq_ r_ r_ b_ r_ r_ b_ (F_ r_ (W_ 2 r_ (T_ (an_ (M_ r_ (o_ r_ (bq_ r_ r_ b_ r_ r_ b_ (N_ r_ (F_ r_ (W_ 2 r_ (ak_ ?_))))))))))))))))))
      (first | refine jq_row 0 (MkRow bd V (.slice none 0 0) [⟨#[97]⟩] Sh ⟨#[]⟩ 0 N 0) rfl (.refl _) ?_ | refine jq_row 1 (MkRow bd V (.slice none 0 0) [⟨#[97]⟩] Sh ⟨#[]⟩ 0 N 0) rfl (.refl _) ?_ | refine jq_row 2 (MkRow bd V (.slice none 0 0) [⟨#[97]⟩] Sh ⟨#[]⟩ 0 N 0) rfl (.refl _) ?_ | refine jq_row 3 (MkRow bd V (.slice none 0 0) [⟨#[97]⟩] Sh ⟨#[]⟩ 0 N 0) rfl (.refl _) ?_)
      refine jq_cutS ([(⟨#[97]⟩, 1 * 2 ^ k7.toNat)] : List Arr) (.inr ⟨k7.toNat, by omega, by rw [Int.one_mul]⟩) ?_ ?_
      · exact bc_ 1 r_ (bc_ 0 r_ (bc_ 0 r_ (bc_ 0 r_ sub_end)))
      · (repeat (first | exact True.intro | refine ⟨rfl, ?_⟩))
    · refine as_ ?_
      (first | refine jq_row 0 (Rw nm per dln pri jit (.list (lI.map InRow)) (.list (VS.map Wrow)) (.list (([] : List Arr).map ArRow)) NilC NilC NilC) rfl (.cons (.refl _) (.cons (.refl _) (.cons (.refl _) (.cons (.refl _) (.cons (.refl _) (.cons (.refl _) (.cons (.refl _) (.cons .nil (.refl _))))))))) ?_ | refine jq_row 1 (Rw nm per dln pri jit (.list (lI.map InRow)) (.list (VS.map Wrow)) (.list (([] : List Arr).map ArRow)) NilC NilC NilC) rfl (.cons (.refl _) (.cons (.refl _) (.cons (.refl _) (.cons (.refl _) (.cons (.refl _) (.cons (.refl _) (.cons (.refl _) (.cons .nil (.refl _))))))))) ?_ | refine jq_row 2 (Rw nm per dln pri jit (.list (lI.map InRow)) (.list (VS.map Wrow)) (.list (([] : List Arr).map ArRow)) NilC NilC NilC) rfl (.cons (.refl _) (.cons (.refl _) (.cons (.refl _) (.cons (.refl _) (.cons (.refl _) (.cons (.refl _) (.cons (.refl _) (.cons .nil (.refl _))))))))) ?_ | refine jq_row 3 (Rw nm per dln pri jit (.list (lI.map InRow)) (.list (VS.map Wrow)) (.list (([] : List Arr).map ArRow)) NilC NilC NilC) rfl (.cons (.refl _) (.cons (.refl _) (.cons (.refl _) (.cons (.refl _) (.cons (.refl _) (.cons (.refl _) (.cons (.refl _) (.cons .nil (.refl _))))))))) ?_)
      refine jq_cutS ([] : List Arr) (.inl rfl) ?_ ?_
      · exact bc_ 0 r_ (bc_ 1 r_ (bc_ 0 r_ (bc_ 0 r_ sub_end)))
      · (repeat (first | exact True.intro | refine ⟨rfl, ?_⟩))
  intro ar har
  refine am_ (jc_cut (ι := List Md) [] (MdG lI) (fun _ => Et bd W br bt bx) (fun md => [.blk bt 78 (Rw nm per dln pri jit (.list (lI.map InRow)) (.list (VS.map Wrow)) (.list (ar.map ArRow)) (.list (md.map MdRow)) NilC NilC), Mk bx bd V (.slice none 0 0) (ar.map (·.1)) Sh ⟨#[]⟩ 0 N 0, Dk bd L, .blk br 78 Zt]) ?_ ?_)
  · refine am_ (jc_cut (ι := Bool) [] (fun b => b = true → 0 < lI.length) (fun b => (116, Bl b) :: Et bd W br bt bx) (fun _ => [.blk bt 78 (Rw nm per dln pri jit (.list (lI.map InRow)) (.list (VS.map Wrow)) (.list (ar.map ArRow)) NilC NilC NilC), Mk bx bd V (.slice none 0 0) (ar.map (·.1)) Sh ⟨#[]⟩ 0 N 0, Dk bd L, .blk br 78 Zt]) ?_ ?_)
    · by_cases hl : (0 : Int) < ((lI.map InRow).length : Int)
      · refine an_ (F_ r_ (L_ 0 r_ (o_ r_ (br_ r_ (fun hlen => o_ r_ (bz_ r_ r_ (M_ r_ (ah_ r_ u_ b_ (bd_ r_ (ah_ rfl (by (first | assumption | exact decide_eq_true rfl | exact decide_eq_true (by first | assumption | omega) | exact decide_eq_false (by first | assumption | omega) | with_reducible rfl | exact (rfl : false = !true) | exact (rfl : true = !false))) b_ (bt_ [2] rfl rfl (Nx_c _ hL hLn g_) (fun k8 hk8 => ?_))))))))))))
        refine ah_ r_ u_ b_ (bn_ r_ r_ (o_ r_ (bp_ r_ u_ r_ (ak_ (jq_cutS (decide (k8 = 1)) (fun _ => by simp at hl; omega) ?_ ?_)))))
        · exact bc_ 1 r_ (bc_ 1 r_ (bc_ 0 r_ (bc_ 0 r_ sub_end)))
        · (repeat (first | exact True.intro | refine ⟨rfl, ?_⟩))
      · refine an_ (F_ r_ (L_ 0 r_ (o_ r_ (br_ r_ (fun hlen => o_ r_ (bz_ r_ r_ (M_ r_ (ai_ r_ w_ b_ (ai_ r_ w_ b_ (ai_ r_ w_ b_ (o_ r_ (bv_ r_ w_ r_ (ak_ (jq_cutS false (by simp) ?_ ?_))))))))))))))
        · exact bc_ 0 r_ (bc_ 0 r_ (bc_ 0 r_ (bc_ 0 r_ sub_end)))
        · (repeat (first | exact True.intro | refine ⟨rfl, ?_⟩))
    intro b hb
    refine jc_cond rfl (fun hbt => ?_) (fun hbt => ?_)
    · have hl0 := hb hbt
      have hx := hokI.2 lI[0] (List.getElem_mem _)
      refine R_ (F_ r_ (L_ 0 r_ (o_ r_ (cc_ (k := 0) r_ r_ hl0 r_ r_ b_ (o_ r_ (cr_ r_ r_ r_ (o_ r_ (bl_ r_ r_ (fun bl => S_ 0 r_ (T_ (am_ (ao_ r_ r_ k_ k_ (yF_ r_ (yL_ 0 r_ (yM_ r_ (yF_ r_ (yL_ 0 r_ (yF_ r_ ?_))))))))))))))))))
      refine yL_ 0 r_ (aa_ (fun c => cg_ r_ r_ g_ p_) (aa_ (fun c => bj_ r_ r_ g_ p_) (aa_ (fun c => ow_callA [3] r_ r_ (gNext_c L _ (lI[0].2.2 - lI[0].2.1 + 1) hL hLn g_)) (aa_ (fun c => ow_exarg 130 rfl (fun i => bj_ rfl rfl (by have := i.2; omega) ⟨rfl, .refl _⟩)) (aa_ (fun c => ow_exarg 131 rfl (fun i => be_ rfl ⟨rfl, .refl _⟩)) (ae_ (jq_slot 17 rfl (fun lo => ?_))))))))
      have hlo := lo.2
      refine al_ (jc_anyB 14 none rfl k_ k_ (yF_ r_ (yL_ 0 r_ (yM_ r_ (yM_ r_ (yM_ r_ (yF_ r_ (yL_ 0 r_ (yM_ r_ (aa_ (fun c => cg_ r_ r_ g_ p_) (aa_ (fun c => bj_ r_ r_ g_ p_) (aa_ (fun c => ow_callA [3] r_ r_ (gNext_c L _ (lI[0].2.2 - (lI[0].2.1 + lo.1) + 1) hL hLn g_)) (aa_ (fun c => ow_exarg 142 rfl (fun i => bj_ rfl rfl (by have := i.2; omega) ⟨rfl, .refl _⟩)) ?_)))))))))))))
      refine aa_ (fun c => ow_exarg 143 rfl (fun i => bu_ rfl rfl rfl rfl rfl ⟨rfl, .refl _⟩)) (aa_ (fun c => ow_exarg 144 rfl (fun i => bq_ rfl rfl b_ rfl rfl b_ ⟨rfl, .refl _⟩)) (ae_ (afin_none (jl_slot 145 rfl (fun n => F_ r_ (W_ 1 r_ (ak_ (jq_cutS ([(⟨#[102, 101, 119]⟩, lI[0].1, lI[0].2.1 + lo.1, lI[0].2.1 + lo.1 + n.1)] : List Md) (.inr ⟨lI[0], _, _, by simp, by have := n.2; omega, rfl⟩) ?_ ?_))))))))
      · exact bc_ 0 r_ (bc_ 1 r_ (bc_ 1 r_ (bc_ 1 r_ sub_end)))
      · (repeat (first | exact True.intro | refine ⟨rfl, ?_⟩))
    · refine as_ ?_
      (first | refine jq_row 0 (Rw nm per dln pri jit (.list (lI.map InRow)) (.list (VS.map Wrow)) (.list (ar.map ArRow)) (.list (([] : List Md).map MdRow)) NilC NilC) rfl (.cons (.refl _) (.cons (.refl _) (.cons (.refl _) (.cons (.refl _) (.cons (.refl _) (.cons (.refl _) (.cons (.refl _) (.cons (.refl _) (.cons .nil (.refl _)))))))))) ?_ | refine jq_row 1 (Rw nm per dln pri jit (.list (lI.map InRow)) (.list (VS.map Wrow)) (.list (ar.map ArRow)) (.list (([] : List Md).map MdRow)) NilC NilC) rfl (.cons (.refl _) (.cons (.refl _) (.cons (.refl _) (.cons (.refl _) (.cons (.refl _) (.cons (.refl _) (.cons (.refl _) (.cons (.refl _) (.cons .nil (.refl _)))))))))) ?_ | refine jq_row 2 (Rw nm per dln pri jit (.list (lI.map InRow)) (.list (VS.map Wrow)) (.list (ar.map ArRow)) (.list (([] : List Md).map MdRow)) NilC NilC) rfl (.cons (.refl _) (.cons (.refl _) (.cons (.refl _) (.cons (.refl _) (.cons (.refl _) (.cons (.refl _) (.cons (.refl _) (.cons (.refl _) (.cons .nil (.refl _)))))))))) ?_ | refine jq_row 3 (Rw nm per dln pri jit (.list (lI.map InRow)) (.list (VS.map Wrow)) (.list (ar.map ArRow)) (.list (([] : List Md).map MdRow)) NilC NilC) rfl (.cons (.refl _) (.cons (.refl _) (.cons (.refl _) (.cons (.refl _) (.cons (.refl _) (.cons (.refl _) (.cons (.refl _) (.cons (.refl _) (.cons .nil (.refl _)))))))))) ?_)
      refine jq_cutS ([] : List Md) (.inl rfl) ?_ ?_
      · exact bc_ 0 r_ (bc_ 0 r_ (bc_ 0 r_ (bc_ 0 r_ sub_end)))
      · (repeat (first | exact True.intro | refine ⟨rfl, ?_⟩))
  intro md hmd
  have harl : ar.length ≤ 1 := by rcases har with rfl | ⟨k, _, rfl⟩ <;> simp
  have gv : Gv L V (ar.map (·.1)) Sh := ⟨hL, hLn, hV0, hV, by rw [List.length_map]; omega, hSh⟩
  have hblk := (maker_c (bm := bx) (bd := bd) gv 3 (by omega)).2.1
  refine jc_ownNil 9 1 g_ (R_ (M_ r_ ?_))
  have con := hblk ⟨.slice none 0 0, 0, N⟩ ⟨#[]⟩ 0 [] 3 5 ⟨⟨by dsimp only; omega, by dsimp only; omega⟩, hN.1, hN.2⟩ (by omega) (by omega) (by simp) rfl (by omega) (by omega)
  dsimp only at con
  refine o_ r_ (ow_callNP [2, 2, 0] rfl rfl (con) (fun r n hn hr => ?_))
  obtain ⟨⟨lv2, lab2, st2⟩, v2, l2⟩ := r
  obtain ⟨hok2, hf2, hl2, hsh2, hcz2⟩ := hr
  dsimp only at hl2 hsh2 hf2 ⊢
  refine jl_freezeF 148 0 rfl rfl (hf2.mono hn) ?_
  have hsz := body_szs hsh2
  have hcz3 : Sm.czs l2 ≤ 1680 := by have h0 := hok2.2.1; dsimp only at hcz2 h0; omega
  clear hcz2
  have hifs := ifs_le l2
  refine F_ r_ (W_ 3 r_ (T_ (R_ (F_ r_ (L_ 0 r_ (o_ r_ (bm_ r_ (Ifs_c _ g_) (E_ r_ (T_ (am_ ?_))))))))))
  refine jc_cut (ι := List Clm) [] (ClG (ifsOf l2)) (fun _ => ((18, .cell (.list ((ifsOf l2).map Irow))) :: Et3 bd W br bt)) (fun cl => [.blk bt 78 (Rw nm per dln pri jit (.list (lI.map InRow)) (.list (VS.map Wrow)) (.list (ar.map ArRow)) (.list (md.map MdRow)) (.list (cl.map ClRow)) (.list (l2.map Sm.row))), Dk bd L, .blk br 78 Zt]) ?_ ?_
  · refine am_ (jc_cut (ι := Bool) [] (fun b => b = true → 1 < (ifsOf l2).length) (fun b => (160, Bl b) :: ((18, .cell (.list ((ifsOf l2).map Irow))) :: Et3 bd W br bt)) (fun _ => [.blk bt 78 (Rw nm per dln pri jit (.list (lI.map InRow)) (.list (VS.map Wrow)) (.list (ar.map ArRow)) (.list (md.map MdRow)) NilC (.list (l2.map Sm.row))), Dk bd L, .blk br 78 Zt]) ?_ ?_)
    · by_cases hl : (1 : Int) < (((ifsOf l2).map Irow).length : Int)
      · refine an_ (M_ r_ (o_ r_ (br_ r_ (fun hlen => o_ r_ (bz_ r_ r_ (M_ r_ (ah_ r_ u_ b_ (bd_ r_ (ah_ rfl (by (first | assumption | exact decide_eq_true rfl | exact decide_eq_true (by first | assumption | omega) | exact decide_eq_false (by first | assumption | omega) | with_reducible rfl | exact (rfl : false = !true) | exact (rfl : true = !false))) b_ (bt_ [2] rfl rfl (Nx_c _ hL hLn g_) (fun k9 hk9 => ?_)))))))))))
        refine ah_ r_ u_ b_ (bn_ r_ r_ (o_ r_ (bp_ r_ u_ r_ (ak_ (jq_cutS (decide (k9 = 1)) (fun _ => by simp at hl; omega) ?_ ?_)))))
        · exact bc_ 1 r_ (bc_ 0 r_ (bc_ 2 r_ sub_end))
        · (repeat (first | exact True.intro | refine ⟨rfl, ?_⟩))
      · refine an_ (M_ r_ (o_ r_ (br_ r_ (fun hlen => o_ r_ (bz_ r_ r_ (M_ r_ (ai_ r_ w_ b_ (ai_ r_ w_ b_ (ai_ r_ w_ b_ (o_ r_ (bv_ r_ w_ r_ (ak_ (jq_cutS false (by simp) ?_ ?_)))))))))))))
        · exact bc_ 0 r_ (bc_ 1 r_ (bc_ 2 r_ sub_end))
        · (repeat (first | exact True.intro | refine ⟨rfl, ?_⟩))
    intro b hb
    refine jc_cond rfl (fun hbt => ?_) (fun hbt => ?_)
    · have hl1 := hb hbt
      have eI : ((ifsOf l2).map Irow).length = (ifsOf l2).length := List.length_map _
      refine R_ (M_ r_ (M_ r_ (o_ r_ (br_ r_ (fun hlen => o_ r_ (bt_ [1] rfl rfl (Nx_c _ hL hLn g_) (fun k10 hk10 => E_ r_ (T_ (jc_anyB 20 none rfl k_ k_ (yM_ r_ (yM_ r_ (aa_ (fun c => cv_ r_ r_ g_ g_ r_ r_ b_ p_) (aa_ (fun c => cb_ r_ r_ p_) (yM_ r_ (yM_ r_ (aa_ (fun c => bj_ r_ r_ g_ p_) (yM_ r_ ?_)))))))))))))))))
      refine yM_ r_ (aa_ (fun c => br_ r_ (fun hlen => p_)) (aa_ (fun c => cg_ r_ r_ g_ p_) (aa_ (fun c => ow_callA [0] r_ r_ (gNext_c L _ _ hL hLn g_)) (aa_ (fun c => ow_exarg 176 rfl (fun i => bj_ rfl rfl (by have := i.2; omega) ⟨rfl, .refl _⟩)) (yM_ r_ (aa_ (fun c => br_ r_ (fun hlen => p_)) (aa_ (fun c => ow_exarg 177 rfl (fun i => ow_rem64 rfl rfl (by have := i.2; omega) g_ ⟨rfl, .refl _⟩)) ?_)))))))
      have hrem : ∀ i : {i : Int // 0 ≤ i ∧ (i < (((ifsOf l2).map Irow).length : Int) - 1 ∨ i = 0)}, 0 ≤ (k10 + 1 + i.1) % (((ifsOf l2).map Irow).length : Int) ∧ ((k10 + 1 + i.1) % (((ifsOf l2).map Irow).length : Int)).toNat < (ifsOf l2).length := by
        intro i
        have h1 := Int.emod_nonneg (k10 + 1 + i.1) (show (((ifsOf l2).map Irow).length : Int) ≠ 0 by omega)
        have h2 := Int.emod_lt_of_pos (k10 + 1 + i.1) (show (0 : Int) < (((ifsOf l2).map Irow).length : Int) by omega)
        omega
      have hne : ∀ i : {i : Int // 0 ≤ i ∧ (i < (((ifsOf l2).map Irow).length : Int) - 1 ∨ i = 0)}, k10.toNat ≠ ((k10 + 1 + i.1) % (((ifsOf l2).map Irow).length : Int)).toNat := by
        intro i h
        have hi := i.2
        have h1 := hrem i
        have h2 : (k10 + 1 + i.1) % (((ifsOf l2).map Irow).length : Int) = k10 := by omega
        have h3 := Int.emod_emod_of_dvd (k10 + 1 + i.1) (Int.dvd_refl (((ifsOf l2).map Irow).length : Int))
        have h4 : (1 + i.1) % (((ifsOf l2).map Irow).length : Int) = 0 := by
          have h5 := Int.sub_emod (k10 + 1 + i.1) k10 (((ifsOf l2).map Irow).length : Int)
          rw [h2, show k10 % (((ifsOf l2).map Irow).length : Int) = k10 from Int.emod_eq_of_lt (by omega) (by omega), Int.sub_self, Int.zero_emod, show k10 + 1 + i.1 - k10 = 1 + i.1 by omega] at h5
          exact h5
        rw [Int.emod_eq_of_lt (by omega) (by omega)] at h4
        omega
      refine aa_ (fun c => ow_exarg 180 rfl (fun i => cv_ rfl rfl (hrem i).1 (hrem i).2 rfl rfl b_ ⟨rfl, .refl _⟩)) (aa_ (fun c => ow_exarg 181 rfl (fun i => cb_ rfl rfl ⟨rfl, .refl _⟩)) (aa_ (fun c => ow_exarg 182 rfl (fun i => bu_ rfl rfl rfl rfl rfl ⟨rfl, .refl _⟩)) (aa_ (fun c => ow_exarg 183 rfl (fun i => bq_ rfl rfl b_ rfl rfl b_ ⟨rfl, .refl _⟩)) (ae_ (afin_none (jl_slot 184 rfl (fun i => F_ r_ (W_ 1 r_ (ak_ ?_)))))))))
      refine jq_cutS ([((ifsOf l2)[k10.toNat]'g_, (ifsOf l2)[((k10 + 1 + i.1) % (((ifsOf l2).map Irow).length : Int)).toNat]'(hrem i).2)] : List Clm) (.inr ⟨_, _, by omega, (hrem i).2, hne i, rfl⟩) ?_ ?_
      · exact bc_ 0 r_ (bc_ 0 r_ (bc_ 0 r_ sub_end))
      · (repeat (first | exact True.intro | refine ⟨rfl, ?_⟩))
    · refine as_ ?_
      (first | refine jq_row 0 (Rw nm per dln pri jit (.list (lI.map InRow)) (.list (VS.map Wrow)) (.list (ar.map ArRow)) (.list (md.map MdRow)) (.list (([] : List Clm).map ClRow)) (.list (l2.map Sm.row))) rfl (.cons (.refl _) (.cons (.refl _) (.cons (.refl _) (.cons (.refl _) (.cons (.refl _) (.cons (.refl _) (.cons (.refl _) (.cons (.refl _) (.cons (.refl _) (.cons .nil (.refl _))))))))))) ?_ | refine jq_row 1 (Rw nm per dln pri jit (.list (lI.map InRow)) (.list (VS.map Wrow)) (.list (ar.map ArRow)) (.list (md.map MdRow)) (.list (([] : List Clm).map ClRow)) (.list (l2.map Sm.row))) rfl (.cons (.refl _) (.cons (.refl _) (.cons (.refl _) (.cons (.refl _) (.cons (.refl _) (.cons (.refl _) (.cons (.refl _) (.cons (.refl _) (.cons (.refl _) (.cons .nil (.refl _))))))))))) ?_ | refine jq_row 2 (Rw nm per dln pri jit (.list (lI.map InRow)) (.list (VS.map Wrow)) (.list (ar.map ArRow)) (.list (md.map MdRow)) (.list (([] : List Clm).map ClRow)) (.list (l2.map Sm.row))) rfl (.cons (.refl _) (.cons (.refl _) (.cons (.refl _) (.cons (.refl _) (.cons (.refl _) (.cons (.refl _) (.cons (.refl _) (.cons (.refl _) (.cons (.refl _) (.cons .nil (.refl _))))))))))) ?_ | refine jq_row 3 (Rw nm per dln pri jit (.list (lI.map InRow)) (.list (VS.map Wrow)) (.list (ar.map ArRow)) (.list (md.map MdRow)) (.list (([] : List Clm).map ClRow)) (.list (l2.map Sm.row))) rfl (.cons (.refl _) (.cons (.refl _) (.cons (.refl _) (.cons (.refl _) (.cons (.refl _) (.cons (.refl _) (.cons (.refl _) (.cons (.refl _) (.cons (.refl _) (.cons .nil (.refl _))))))))))) ?_)
      refine jq_cutS ([] : List Clm) (.inl rfl) ?_ ?_
      · exact bc_ 0 r_ (bc_ 0 r_ (bc_ 0 r_ sub_end))
      · (repeat (first | exact True.intro | refine ⟨rfl, ?_⟩))
  intro cl hcl
  refine am_ (jc_cut (ι := List Sm × List Clm) [] (fun i => (∃ n, i.1 = l2.take n) ∧ ClG (ifsOf i.1) i.2 ∧ wAll 20 i.1 0 ≤ W) (fun _ => ((18, .cell (.list ((ifsOf l2).map Irow))) :: Et3 bd W br bt)) (fun i => [.blk bt 78 (Rw nm per dln pri jit (.list (lI.map InRow)) (.list (VS.map Wrow)) (.list (ar.map ArRow)) (.list (md.map MdRow)) (.list (i.2.map ClRow)) (.list (i.1.map Sm.row))), Dk bd L, .blk br 78 Zt]) ?_ ?_)
  · refine au_ ?_
    refine jc_loopS (ι := List Sm × List Clm) [] (fun i => (∃ n, i.1 = l2.take n) ∧ ClG (ifsOf i.1) i.2) (fun _ => ((18, .cell (.list ((ifsOf l2).map Irow))) :: Et3 bd W br bt)) (fun i => [.blk bt 78 (Rw nm per dln pri jit (.list (lI.map InRow)) (.list (VS.map Wrow)) (.list (ar.map ArRow)) (.list (md.map MdRow)) (.list (i.2.map ClRow)) (.list (i.1.map Sm.row))), Dk bd L, .blk br 78 Zt]) (fun i => i.1.length) (l2, cl) ⟨⟨l2.length, by simp⟩, hcl⟩ ?_ ?_ ?_
    · exact bc_ 0 r_ (bc_ 0 r_ (bc_ 0 r_ sub_end))
    · (repeat (first | exact True.intro | refine ⟨rfl, ?_⟩))
    · rintro ⟨l, cl⟩ ⟨⟨nT, hl10⟩, hsh⟩
      dsimp only at hl10 hsh ⊢
      have hll : l.length ≤ l2.length := by rw [hl10, List.length_take]; omega
      have eL : (l.map Sm.row).length = l.length := List.length_map _
      by_cases hl : (0 : Int) < ((l.map Sm.row).length : Int)
      · refine am_ (R_ (F_ r_ (L_ 0 r_ (o_ r_ (br_ r_ (fun hlen => o_ r_ (bz_ r_ r_ (M_ r_ (ah_ r_ u_ b_ (bf_ r_ r_ r_ b_ (ah_ r_ u_ b_ (bg_ 0 r_ r_ r_ r_ (ah_ r_ u_ b_ (bm_ r_ (rWeight_c _) (ah_ r_ u_ b_ (bd_ r_ (ah_ r_ u_ b_ (bz_ r_ r_ (o_ r_ (bp_ r_ u_ r_ (T_ (jc_condd rfl (fun hw => ?_) (fun hw => ?_)))))))))))))))))))))))
        · refine as_ (al_ (au_ (an_ (F_ r_ (L_ 0 r_ (F_ r_ (L_ 0 r_ (o_ r_ (br_ r_ (fun hlen => o_ r_ (cg_ r_ r_ g_ (o_ r_ (ow_prefix r_ r_ g_ g_ (F_ r_ (W_ 0 r_ (F_ r_ (W_ 0 r_ (ak_ ?_))))))))))))))))))
          refine ay_ ?_
          rw [show List.take ((((l.map Sm.row).length : Nat) : Int) - 1).toNat (l.map Sm.row) = (l.take (l.length - 1)).map Sm.row by
            rw [List.map_take, eL]; congr 1; omega]
          skip
          (first | refine jq_row 0 (Rw nm per dln pri jit (.list (lI.map InRow)) (.list (VS.map Wrow)) (.list (ar.map ArRow)) (.list (md.map MdRow)) (.list (([] : List Clm).map ClRow)) (.list ((l.take (l.length - 1)).map Sm.row))) rfl (.cons (.refl _) (.cons (.refl _) (.cons (.refl _) (.cons (.refl _) (.cons (.refl _) (.cons (.refl _) (.cons (.refl _) (.cons (.refl _) (.cons (.refl _) (.cons .nil (.refl _))))))))))) ?_ | refine jq_row 1 (Rw nm per dln pri jit (.list (lI.map InRow)) (.list (VS.map Wrow)) (.list (ar.map ArRow)) (.list (md.map MdRow)) (.list (([] : List Clm).map ClRow)) (.list ((l.take (l.length - 1)).map Sm.row))) rfl (.cons (.refl _) (.cons (.refl _) (.cons (.refl _) (.cons (.refl _) (.cons (.refl _) (.cons (.refl _) (.cons (.refl _) (.cons (.refl _) (.cons (.refl _) (.cons .nil (.refl _))))))))))) ?_ | refine jq_row 2 (Rw nm per dln pri jit (.list (lI.map InRow)) (.list (VS.map Wrow)) (.list (ar.map ArRow)) (.list (md.map MdRow)) (.list (([] : List Clm).map ClRow)) (.list ((l.take (l.length - 1)).map Sm.row))) rfl (.cons (.refl _) (.cons (.refl _) (.cons (.refl _) (.cons (.refl _) (.cons (.refl _) (.cons (.refl _) (.cons (.refl _) (.cons (.refl _) (.cons (.refl _) (.cons .nil (.refl _))))))))))) ?_ | refine jq_row 3 (Rw nm per dln pri jit (.list (lI.map InRow)) (.list (VS.map Wrow)) (.list (ar.map ArRow)) (.list (md.map MdRow)) (.list (([] : List Clm).map ClRow)) (.list ((l.take (l.length - 1)).map Sm.row))) rfl (.cons (.refl _) (.cons (.refl _) (.cons (.refl _) (.cons (.refl _) (.cons (.refl _) (.cons (.refl _) (.cons (.refl _) (.cons (.refl _) (.cons (.refl _) (.cons .nil (.refl _))))))))))) ?_)
          refine jq_againS (i := (l, cl)) (l.take (l.length - 1), []) ⟨⟨min (l.length - 1) nT, by dsimp only; rw [hl10, List.take_take]⟩, .inl rfl⟩ (by simp; omega) ?_ ?_
          · exact bc_ 0 r_ (bc_ 0 r_ (bc_ 0 r_ sub_end))
          · (repeat (first | exact True.intro | refine ⟨rfl, ?_⟩))
        · refine av_ (ax_ (ax_ (ba_ (jq_cutS (l, cl) ⟨⟨nT, hl10⟩, hsh, by dsimp only; omega⟩ ?_ ?_))))
          · exact bc_ 0 r_ (bc_ 0 r_ (bc_ 0 r_ sub_end))
          · (repeat (first | exact True.intro | refine ⟨rfl, ?_⟩))
      · have hl0 : l = [] := List.eq_nil_of_length_eq_zero (by omega)
        subst hl0
        refine am_ (R_ (F_ r_ (L_ 0 r_ (o_ r_ (br_ r_ (fun hlen => o_ r_ (bz_ r_ r_ (M_ r_ (ai_ r_ r_ b_ (ai_ r_ r_ b_ (ai_ r_ r_ b_ (ai_ r_ r_ b_ (ai_ r_ r_ b_ (o_ r_ (bv_ r_ r_ r_ (T_ (jc_cond rfl (fun h => by cases h) (fun _ => av_ ?_))))))))))))))))))
        refine ax_ (ax_ (ba_ (jq_cutS ([], cl) ⟨⟨nT, hl10⟩, hsh, by simp only [wAll]; omega⟩ ?_ ?_)))
        · exact bc_ 0 r_ (bc_ 0 r_ (bc_ 0 r_ sub_end))
        · (repeat (first | exact True.intro | refine ⟨rfl, ?_⟩))
  rintro ⟨l, cl⟩ ⟨⟨nT, hl10⟩, hsh, hwt⟩
  dsimp only at hl10 hsh hwt ⊢
  have hsz2 : Sm.szs l ≤ 635 := by rw [hl10]; exact Nat.le_trans (Sm.szs_take _ _) hsz
  have hifs2 := ifs_le l
  refine am_ (jc_cut (ι := List Clm) [] (ClG (ifsOf l)) (fun _ => Et3 bd W br bt) (fun cl => [.blk bt 78 (Rw nm per dln pri jit (.list (lI.map InRow)) (.list (VS.map Wrow)) (.list (ar.map ArRow)) (.list (md.map MdRow)) (.list (cl.map ClRow)) (.list (l.map Sm.row))), Dk bd L, .blk br 78 Zt]) ?_ ?_)
  · by_cases hl : (0 : Int) < ((cl.map ClRow).length : Int)
    · refine R_ (F_ r_ (L_ 0 r_ (o_ r_ (br_ r_ (fun hlen => o_ r_ (bz_ r_ r_ (M_ r_ (ah_ r_ u_ b_ (bf_ r_ r_ r_ b_ (ah_ r_ u_ b_ (bg_ 0 r_ r_ r_ r_ (ah_ r_ u_ b_ (bm_ r_ (Ifs_c _ g_) (ah_ r_ u_ b_ (br_ r_ (fun hlen => ah_ r_ u_ b_ (bd_ r_ (ah_ r_ u_ b_ (br_ r_ (fun hlen => ah_ r_ u_ b_ (bx_ r_ r_ (o_ r_ (bp_ r_ u_ r_ (T_ (jc_cond rfl (fun _ => ?_) (fun _ => ?_))))))))))))))))))))))))))
      · refine an_ (F_ r_ (W_ 0 r_ (ak_ ?_)))
        (first | refine jq_row 0 (Rw nm per dln pri jit (.list (lI.map InRow)) (.list (VS.map Wrow)) (.list (ar.map ArRow)) (.list (md.map MdRow)) (.list (([] : List Clm).map ClRow)) (.list (l.map Sm.row))) rfl (.cons (.refl _) (.cons (.refl _) (.cons (.refl _) (.cons (.refl _) (.cons (.refl _) (.cons (.refl _) (.cons (.refl _) (.cons (.refl _) (.cons (.refl _) (.cons .nil (.refl _))))))))))) ?_ | refine jq_row 1 (Rw nm per dln pri jit (.list (lI.map InRow)) (.list (VS.map Wrow)) (.list (ar.map ArRow)) (.list (md.map MdRow)) (.list (([] : List Clm).map ClRow)) (.list (l.map Sm.row))) rfl (.cons (.refl _) (.cons (.refl _) (.cons (.refl _) (.cons (.refl _) (.cons (.refl _) (.cons (.refl _) (.cons (.refl _) (.cons (.refl _) (.cons (.refl _) (.cons .nil (.refl _))))))))))) ?_ | refine jq_row 2 (Rw nm per dln pri jit (.list (lI.map InRow)) (.list (VS.map Wrow)) (.list (ar.map ArRow)) (.list (md.map MdRow)) (.list (([] : List Clm).map ClRow)) (.list (l.map Sm.row))) rfl (.cons (.refl _) (.cons (.refl _) (.cons (.refl _) (.cons (.refl _) (.cons (.refl _) (.cons (.refl _) (.cons (.refl _) (.cons (.refl _) (.cons (.refl _) (.cons .nil (.refl _))))))))))) ?_ | refine jq_row 3 (Rw nm per dln pri jit (.list (lI.map InRow)) (.list (VS.map Wrow)) (.list (ar.map ArRow)) (.list (md.map MdRow)) (.list (([] : List Clm).map ClRow)) (.list (l.map Sm.row))) rfl (.cons (.refl _) (.cons (.refl _) (.cons (.refl _) (.cons (.refl _) (.cons (.refl _) (.cons (.refl _) (.cons (.refl _) (.cons (.refl _) (.cons (.refl _) (.cons .nil (.refl _))))))))))) ?_)
        refine jq_cutS ([] : List Clm) (.inl rfl) ?_ ?_
        · exact bc_ 0 r_ (bc_ 0 r_ (bc_ 0 r_ sub_end))
        · (repeat (first | exact True.intro | refine ⟨rfl, ?_⟩))
      · refine as_ (jq_cutS cl hsh ?_ ?_)
        · exact bc_ 0 r_ (bc_ 0 r_ (bc_ 0 r_ sub_end))
        · (repeat (first | exact True.intro | refine ⟨rfl, ?_⟩))
    · refine R_ (F_ r_ (L_ 0 r_ (o_ r_ (br_ r_ (fun hlen => o_ r_ (bz_ r_ r_ (M_ r_ (ai_ r_ w_ b_ (ai_ r_ w_ b_ (ai_ r_ w_ b_ (ai_ r_ w_ b_ (ai_ r_ w_ b_ (ai_ r_ w_ b_ (ai_ r_ w_ b_ (o_ r_ (bv_ r_ w_ r_ (T_ (jc_cond rfl (fun h => by cases h) (fun _ => ?_)))))))))))))))))))
      refine as_ (jq_cutS cl hsh ?_ ?_)
      · exact bc_ 0 r_ (bc_ 0 r_ (bc_ 0 r_ sub_end))
      · (repeat (first | exact True.intro | refine ⟨rfl, ?_⟩))
  clear hsh
  intro cl hcl2
  refine R_ (A_ 0 r_ (S_ 2 r_ (T_ (ar_ ?_))))
  have fin : TaskG Sh nm W ⟨nm, per, dln, pri, jit, lI, VS, ar, md, cl, l⟩ := ⟨rfl, hper2, hdln2, hpri2, hjit2, ⟨by dsimp only; omega, by dsimp only; rw [hlI]; exact hokI⟩, rfl, har, hmd, hcl2, ⟨lab2, l2, nT, by dsimp only; rw [← hlVI, hVe]; exact hsh2, hl10⟩, hwt, by dsimp only; rw [hl10]; exact Int.le_trans (Sm.czs_take _ _) hcz3⟩
  (first | refine jq_retRowS rfl rfl rfl rfl 0 rfl (fun K h => h _ fin) ?_ | refine jq_retRowS rfl rfl rfl rfl 1 rfl (fun K h => h _ fin) ?_ | refine jq_retRowS rfl rfl rfl rfl 2 rfl (fun K h => h _ fin) ?_)
  exact bc_ 2 r_ sub_end
end
end Go.Proofs.YtlniadfidfmckaaDoor
end

section
namespace Go.Proofs.YtlniadfidfmckaaDoor
open Go.Vc
set_option maxHeartbeats 8000000
attribute [local irreducible] JL JC JQ OpWp Con ConN

abbrev Nr : ByteArray := ⟨#[114]⟩
abbrev Ns : ByteArray := ⟨#[115]⟩
def RSl : Nat → List ByteArray
  | 0 => []
  | 1 => [Ns]
  | _ => [Nr, Ns]
def ShG (R : List ByteArray) (l : List Shd) : Prop := l = [] ∨ ∃ (r : ByteArray) (k : Nat), R[0]? = some r ∧ k ≤ 3 ∧ l = [(⟨#[98, 117, 102]⟩, 2 ^ k, r)]
def nmT (i : Nat) : ByteArray := ⟨#[116]⟩ ++ bytesOf [97 + (i : Int)]
structure PgG (T : Nat) (W : Int) (p : Pg) : Prop where
  res : ∃ n, n ≤ 2 ∧ p.res = RSl n
  shared : ShG p.res p.shared
  len : p.tasks.length = T
  tasks : ∀ (i : Nat) (h : i < p.tasks.length), TaskG p.shared (nmT i) W p.tasks[i]
section
variable {L : List Int} {bd : Nat}

theorem programs_c (hL : InR L) (hLn : L.length ≤ 400) (T W N : Int) (hT : 0 ≤ T ∧ T ≤ 6) (hW : 0 ≤ W ∧ W ≤ 1000000) (hN : 0 ≤ N ∧ N ≤ 14) :
    Con Tryd.prog 15 [Ptr bd, In .i64 T, In .i64 W, In .i64 N] [Dk bd L] (fun K => ∀ p : Pg, PgG T.toNat W p → K (.row p.row) [Dk bd L]) := by
  refine con_intro Tryd.func15 rfl rfl (Nat.le_of_ble_eq_true rfl) (fun c hc => R_ (o_ r_ (bl_ rfl rfl (fun b8 => T_ (R_ (o_ r_ (bl_ rfl rfl (fun b9 => T_ (am_ (R_ (M_ r_ (o_ r_ (bt_ [2] rfl rfl (Nx_c _ hL hLn g_) (fun k1 hk1 => E_ r_ (T_ (jc_ownNil 9 1 g_ ?_))))))))))))))))
  obtain ⟨n1, hn1⟩ : ∃ n : Nat, k1 = (n : Int) := ⟨k1.toNat, by omega⟩
  subst hn1
  have hn12 : n1 ≤ 2 := by omega
  refine jc_cut (ι := Value × List ByteArray) [] (fun i => c.Fresh i.1 ∧ i.2 = RSl n1) (fun _ => [(0, Ptr bd), (1, In .i64 T), (2, In .i64 W), (3, In .i64 N), (8, Ptr b8), (9, Ptr b9)])
    (fun i => [.blk b9 33 [.val i.1, NilC, NilC], .own i.1 9 1 (i.2.map Wrow), Dk bd L, .blk b8 33 [NilC, NilC, NilC]]) ?_ ?_
  · refine au_ ?_
    refine jc_loopS (ι := Nat × Value × List ByteArray) [] (fun i => i.1 ≤ n1 ∧ c.Fresh i.2.1 ∧ i.2.2 = (RSl n1).take (n1 - i.1)) (fun i => (10, In .i64 (i.1 : Int)) :: [(0, Ptr bd), (1, In .i64 T), (2, In .i64 W), (3, In .i64 N), (8, Ptr b8), (9, Ptr b9)])
      (fun i => [.blk b9 33 [.val i.2.1, NilC, NilC], .own i.2.1 9 1 (i.2.2.map Wrow), Dk bd L, .blk b8 33 [NilC, NilC, NilC]]) (fun i => i.1) (n1, .slice none 0 0, []) ⟨Nat.le_refl _, fresh_nil, by simp⟩ ?_ ?_ ?_
    · exact bc_ 2 r_ (bc_ 0 r_ (bc_ 0 r_ (bc_ 0 r_ sub_end)))
    · (repeat (first | exact True.intro | refine ⟨rfl, ?_⟩))
    · rintro ⟨k, vR, lR⟩ ⟨hk, hfR, hlR⟩
      dsimp only at hk hfR hlR ⊢
      by_cases hk0 : k = 0
      · subst hk0
        refine am_ (R_ (M_ r_ (o_ r_ (bz_ r_ r_ (T_ (jc_cond rfl (fun h => by cases h) (fun _ => av_ (ax_ (ax_ (ba_ (jq_cutS (vR, lR) ⟨hfR, by dsimp only; rw [hlR, List.take_of_length_le]; rcases n1 with _ | _ | _ | n <;> simp [RSl]⟩ ?_ ?_)))))))))))
        · exact bc_ 0 r_ (bc_ 0 r_ (bc_ 0 r_ (bc_ 0 r_ sub_end)))
        · (repeat (first | exact True.intro | refine ⟨rfl, ?_⟩))
      have hlR2 : lR.length ≤ 2 := by rw [hlR, List.length_take]; omega
      have hcase : (n1 = 1 ∧ k = 1) ∨ (n1 = 2 ∧ k = 1) ∨ (n1 = 2 ∧ k = 2) := by omega
      rcases hcase with ⟨rfl, rfl⟩ | ⟨rfl, rfl⟩ | ⟨rfl, rfl⟩
      · refine am_ (R_ (M_ r_ (o_ r_ (bz_ r_ r_ (T_ (jc_condd rfl (fun _ => as_ (al_ (B_ (jc_anyB 8 none rfl k_ k_ (yF_ r_ (yL_ 0 r_ (aa_ (fun c => bq_ r_ r_ b_ r_ r_ b_ p_) (yM_ r_ (aa_ (fun c => ow_rem64 r_ r_ g_ g_ p_) (aa_ (fun c => ow_indexAddr r_ r_ g_ r_ r_ b_ p_) ?_)))))))))) (fun h => by omega)))))))
        refine aa_ (fun c => cb_ r_ r_ p_) (aa_ (fun c => bq_ r_ r_ b_ r_ r_ b_ p_) (ae_ (afin_none ?_)))
        (first | refine jl_op (ow_append1F 1 (⟨#[115]⟩) rfl rfl rfl rfl rfl rfl rfl (fun _ => rfl) (by show (_ + _) * 16 ≤ _; first | omega | (simp only [List.length_append]; omega)) (by first | omega | (simp only [List.length_append]; omega)) (fun vR1 hvR1 fvR1 => ?_)) (nb rfl) | refine jl_op (ow_append1F 2 (⟨#[115]⟩) rfl rfl rfl rfl rfl rfl rfl (fun _ => rfl) (by show (_ + _) * 16 ≤ _; first | omega | (simp only [List.length_append]; omega)) (by first | omega | (simp only [List.length_append]; omega)) (fun vR1 hvR1 fvR1 => ?_)) (nb rfl) | refine jl_op (ow_append1F 0 (⟨#[115]⟩) rfl rfl rfl rfl rfl rfl rfl (fun _ => rfl) (by show (_ + _) * 16 ≤ _; first | omega | (simp only [List.length_append]; omega)) (by first | omega | (simp only [List.length_append]; omega)) (fun vR1 hvR1 fvR1 => ?_)) (nb rfl))
        refine F_ r_ (W_ 1 r_ (ak_ (ay_ (al_ (an_ (M_ r_ (o_ r_ (cg_ r_ r_ g_ (E_ r_ (ak_ (jq_againS (i := (1, vR, lR)) (0, vR1, lR ++ [⟨#[115]⟩]) ⟨by dsimp only; omega, fvR1 hfR, by dsimp only; rw [hlR]; rfl⟩ (by dsimp only; omega) ?_ ?_)))))))))))
        · exact bc_ 0 r_ (bc_ 0 r_ (bc_ 0 r_ (bc_ 0 r_ sub_end)))
        · (repeat (first | exact True.intro | refine ⟨rfl, ?_⟩))
      · refine am_ (R_ (M_ r_ (o_ r_ (bz_ r_ r_ (T_ (jc_condd rfl (fun _ => as_ (al_ (B_ (jc_anyB 8 none rfl k_ k_ (yF_ r_ (yL_ 0 r_ (aa_ (fun c => bq_ r_ r_ b_ r_ r_ b_ p_) (yM_ r_ (aa_ (fun c => ow_rem64 r_ r_ g_ g_ p_) (aa_ (fun c => ow_indexAddr r_ r_ g_ r_ r_ b_ p_) ?_)))))))))) (fun h => by omega)))))))
        refine aa_ (fun c => cb_ r_ r_ p_) (aa_ (fun c => bq_ r_ r_ b_ r_ r_ b_ p_) (ae_ (afin_none ?_)))
        (first | refine jl_op (ow_append1F 1 (⟨#[115]⟩) rfl rfl rfl rfl rfl rfl rfl (fun _ => rfl) (by show (_ + _) * 16 ≤ _; first | omega | (simp only [List.length_append]; omega)) (by first | omega | (simp only [List.length_append]; omega)) (fun vR1 hvR1 fvR1 => ?_)) (nb rfl) | refine jl_op (ow_append1F 2 (⟨#[115]⟩) rfl rfl rfl rfl rfl rfl rfl (fun _ => rfl) (by show (_ + _) * 16 ≤ _; first | omega | (simp only [List.length_append]; omega)) (by first | omega | (simp only [List.length_append]; omega)) (fun vR1 hvR1 fvR1 => ?_)) (nb rfl) | refine jl_op (ow_append1F 0 (⟨#[115]⟩) rfl rfl rfl rfl rfl rfl rfl (fun _ => rfl) (by show (_ + _) * 16 ≤ _; first | omega | (simp only [List.length_append]; omega)) (by first | omega | (simp only [List.length_append]; omega)) (fun vR1 hvR1 fvR1 => ?_)) (nb rfl))
        refine F_ r_ (W_ 1 r_ (ak_ (ay_ (al_ (an_ (M_ r_ (o_ r_ (cg_ r_ r_ g_ (E_ r_ (ak_ (jq_againS (i := (1, vR, lR)) (0, vR1, lR ++ [⟨#[115]⟩]) ⟨by dsimp only; omega, fvR1 hfR, by dsimp only; rw [hlR]; rfl⟩ (by dsimp only; omega) ?_ ?_)))))))))))
        · exact bc_ 0 r_ (bc_ 0 r_ (bc_ 0 r_ (bc_ 0 r_ sub_end)))
        · (repeat (first | exact True.intro | refine ⟨rfl, ?_⟩))
      · refine am_ (R_ (M_ r_ (o_ r_ (bz_ r_ r_ (T_ (jc_condd rfl (fun _ => as_ (al_ (B_ (jc_anyB 8 none rfl k_ k_ (yF_ r_ (yL_ 0 r_ (aa_ (fun c => bq_ r_ r_ b_ r_ r_ b_ p_) (yM_ r_ (aa_ (fun c => ow_rem64 r_ r_ g_ g_ p_) (aa_ (fun c => ow_indexAddr r_ r_ g_ r_ r_ b_ p_) ?_)))))))))) (fun h => by omega)))))))
        refine aa_ (fun c => cb_ r_ r_ p_) (aa_ (fun c => bq_ r_ r_ b_ r_ r_ b_ p_) (ae_ (afin_none ?_)))
        (first | refine jl_op (ow_append1F 1 (⟨#[114]⟩) rfl rfl rfl rfl rfl rfl rfl (fun _ => rfl) (by show (_ + _) * 16 ≤ _; first | omega | (simp only [List.length_append]; omega)) (by first | omega | (simp only [List.length_append]; omega)) (fun vR1 hvR1 fvR1 => ?_)) (nb rfl) | refine jl_op (ow_append1F 2 (⟨#[114]⟩) rfl rfl rfl rfl rfl rfl rfl (fun _ => rfl) (by show (_ + _) * 16 ≤ _; first | omega | (simp only [List.length_append]; omega)) (by first | omega | (simp only [List.length_append]; omega)) (fun vR1 hvR1 fvR1 => ?_)) (nb rfl) | refine jl_op (ow_append1F 0 (⟨#[114]⟩) rfl rfl rfl rfl rfl rfl rfl (fun _ => rfl) (by show (_ + _) * 16 ≤ _; first | omega | (simp only [List.length_append]; omega)) (by first | omega | (simp only [List.length_append]; omega)) (fun vR1 hvR1 fvR1 => ?_)) (nb rfl))
        refine F_ r_ (W_ 1 r_ (ak_ (ay_ (al_ (an_ (M_ r_ (o_ r_ (cg_ r_ r_ g_ (E_ r_ (ak_ (jq_againS (i := (2, vR, lR)) (1, vR1, lR ++ [⟨#[114]⟩]) ⟨by dsimp only; omega, fvR1 hfR, by dsimp only; rw [hlR]; rfl⟩ (by dsimp only; omega) ?_ ?_)))))))))))
        · exact bc_ 0 r_ (bc_ 0 r_ (bc_ 0 r_ (bc_ 0 r_ sub_end)))
        · (repeat (first | exact True.intro | refine ⟨rfl, ?_⟩))
  rintro ⟨vR, lR⟩ ⟨hfR, hlR⟩
  dsimp only at hfR hlR ⊢
  have hlR2 : lR.length ≤ 2 := by rw [hlR]; rcases n1 with _ | _ | _ | n <;> simp [RSl]
  refine jc_freezeB 1 0 0 rfl rfl hfR (am_ (jc_cut (ι := List Shd) [] (ShG lR) (fun _ => [(0, Ptr bd), (1, In .i64 T), (2, In .i64 W), (3, In .i64 N), (8, Ptr b8), (9, Ptr b9)]) (fun Sh => [.blk b9 33 [.list (lR.map Wrow), .list (Sh.map ShRow), NilC], Dk bd L, .blk b8 33 [NilC, NilC, NilC]]) ?_ ?_))
  · refine am_ (jc_cut (ι := Bool) [] (fun b => b = true → 0 < lR.length) (fun b => (36, Bl b) :: [(0, Ptr bd), (1, In .i64 T), (2, In .i64 W), (3, In .i64 N), (8, Ptr b8), (9, Ptr b9)]) (fun _ => [.blk b9 33 [.list (lR.map Wrow), NilC, NilC], Dk bd L, .blk b8 33 [NilC, NilC, NilC]]) ?_ ?_)
    · by_cases hl : (0 : Int) < ((lR.map Wrow).length : Int)
      · refine an_ (F_ r_ (L_ 0 r_ (o_ r_ (br_ r_ (fun hlen => o_ r_ (bz_ r_ r_ (M_ r_ (ah_ r_ u_ b_ (bd_ r_ (ah_ rfl (by (first | assumption | exact decide_eq_true rfl | exact decide_eq_true (by first | assumption | omega) | exact decide_eq_false (by first | assumption | omega) | with_reducible rfl | exact (rfl : false = !true) | exact (rfl : true = !false))) b_ (bt_ [1] rfl rfl (Nx_c _ hL hLn g_) (fun k9 hk9 => ?_))))))))))))
        refine ah_ r_ u_ b_ (bn_ r_ r_ (o_ r_ (bp_ r_ u_ r_ (ak_ (jq_cutS (decide (k9 = 1)) (fun _ => by simp at hl; omega) ?_ ?_)))))
        · exact bc_ 1 r_ (bc_ 0 r_ (bc_ 0 r_ sub_end))
        · (repeat (first | exact True.intro | refine ⟨rfl, ?_⟩))
      · refine an_ (F_ r_ (L_ 0 r_ (o_ r_ (br_ r_ (fun hlen => o_ r_ (bz_ r_ r_ (M_ r_ (ai_ r_ w_ b_ (ai_ r_ w_ b_ (ai_ r_ w_ b_ (o_ r_ (bv_ r_ w_ r_ (ak_ (jq_cutS false (by simp) ?_ ?_))))))))))))))
        · exact bc_ 0 r_ (bc_ 0 r_ (bc_ 0 r_ sub_end))
        · (repeat (first | exact True.intro | refine ⟨rfl, ?_⟩))
    intro b hb
    refine jc_cond rfl (fun hbt => ?_) (fun hbt => ?_)
    · have hl0 := hb hbt
      refine jc_ownNil 82 3 g_ ?_
      skip
      refine jc_anyB 13 none rfl k_ k_ (yF_ r_ (yL_ 1 r_ (yM_ r_ (aa_ (fun c => ow_callA [2] r_ r_ (gNext_c L _ _ hL hLn g_)) (aa_ (fun c => ow_exarg 40 rfl (fun i => ow_convU64 rfl rfl rfl (by have := i.2; omega) ⟨rfl, .refl _⟩)) ?_)))))
      refine aa_ (fun c => ow_exarg 41 rfl (fun i : {i : Int // 0 ≤ i ∧ (i < 4 ∨ i = 0)} => ow_shl64 (n := i.1) rfl rfl (by have := i.2; omega) (by have := i.2; have := pow_bd i.1 g_; omega) ⟨rfl, .refl _⟩)) (aa_ (fun c => ow_exarg 42 rfl (fun i => bu_ rfl rfl rfl rfl rfl ⟨rfl, .refl _⟩)) (yF_ r_ (yL_ 1 r_ (aa_ (fun c => cc_ (k := 0) r_ r_ hl0 r_ r_ b_ ⟨rfl, .refl _⟩) (aa_ (fun c => cb_ r_ r_ p_) ?_)))))
      refine aa_ (fun c => ow_exarg 43 rfl (fun i => bu_ rfl rfl rfl rfl rfl ⟨rfl, .refl _⟩)) (aa_ (fun c => ow_exarg 48 rfl (fun i => bq_ rfl rfl b_ rfl rfl b_ ⟨rfl, .refl _⟩)) (ae_ (afin_none (jl_slot 49 rfl (fun n => o_ r_ (ow_append1F (f := ShRow) (l1 := []) 0 (⟨#[98, 117, 102]⟩, 1 * 2 ^ n.1.toNat, lR[0]) rfl rfl rfl rfl rfl rfl rfl (fun _ => rfl) (by show (0 + 1) * 40 ≤ _; omega) (by simp) (fun vS hvS fvS => ?_)))))))
      refine jl_freezeF 50 0 rfl rfl (fvS fresh_nil) (F_ r_ (W_ 0 r_ (ak_ ?_)))
      (first | refine jq_row 0 [.list (lR.map Wrow), .list ([((⟨#[98, 117, 102]⟩ : ByteArray), (1 : Int) * 2 ^ n.1.toNat, lR[0])].map ShRow), NilC] rfl (.cons (.refl _) (.refl _)) ?_ | refine jq_row 1 [.list (lR.map Wrow), .list ([((⟨#[98, 117, 102]⟩ : ByteArray), (1 : Int) * 2 ^ n.1.toNat, lR[0])].map ShRow), NilC] rfl (.cons (.refl _) (.refl _)) ?_)
      refine jq_cutS [((⟨#[98, 117, 102]⟩ : ByteArray), (1 : Int) * 2 ^ n.1.toNat, lR[0])] (.inr ⟨lR[0], n.1.toNat, by simp, by have := n.2; omega, by rw [Int.one_mul]⟩) ?_ ?_
      · exact bc_ 0 r_ (bc_ 0 r_ (bc_ 0 r_ sub_end))
      · (repeat (first | exact True.intro | refine ⟨rfl, ?_⟩))
    · refine as_ ?_
      (first | refine jq_row 0 [.list (lR.map Wrow), .list (([] : List Shd).map ShRow), NilC] rfl (.cons (.refl _) (.cons .nil (.refl _))) ?_ | refine jq_row 1 [.list (lR.map Wrow), .list (([] : List Shd).map ShRow), NilC] rfl (.cons (.refl _) (.cons .nil (.refl _))) ?_)
      refine jq_cutS ([] : List Shd) (.inl rfl) ?_ ?_
      · exact bc_ 0 r_ (bc_ 0 r_ (bc_ 0 r_ sub_end))
      · (repeat (first | exact True.intro | refine ⟨rfl, ?_⟩))
  intro Sh hSh
  have hShl : Sh.length ≤ 1 := by rcases hSh with rfl | ⟨r, k, _, _, rfl⟩ <;> simp
  have tk := fun nm => con_toEx (task_c (Sh := Sh) (bd := bd) hL hLn (by omega) nm W N hW hN)
  refine jc_ownNil 78 11 g_ (am_ (R_ (E_ r_ (T_ ?_))))
  refine jc_cut (ι := Value × List Tk) [] (fun i => c.Fresh i.1 ∧ i.2.length = T.toNat ∧ ∀ (j : Nat) (h : j < i.2.length), TaskG Sh (nmT j) W i.2[j]) (fun _ => [(0, Ptr bd), (1, In .i64 T), (2, In .i64 W), (3, In .i64 N), (8, Ptr b8), (9, Ptr b9)])
    (fun i => [.blk b9 33 [.list (lR.map Wrow), .list (Sh.map ShRow), .val i.1], .own i.1 78 11 (i.2.map Tk.row), Dk bd L, .blk b8 33 [NilC, NilC, NilC]]) ?_ ?_
  · refine au_ ?_
    refine jc_loopS (ι := Nat × Value × List Tk) [] (fun i => i.1 ≤ T.toNat ∧ c.Fresh i.2.1 ∧ i.2.2.length = i.1 ∧ ∀ (j : Nat) (h : j < i.2.2.length), TaskG Sh (nmT j) W i.2.2[j]) (fun i => (11, In .i64 (i.1 : Int)) :: [(0, Ptr bd), (1, In .i64 T), (2, In .i64 W), (3, In .i64 N), (8, Ptr b8), (9, Ptr b9)])
      (fun i => [.blk b9 33 [.list (lR.map Wrow), .list (Sh.map ShRow), .val i.2.1], .own i.2.1 78 11 (i.2.2.map Tk.row), Dk bd L, .blk b8 33 [NilC, NilC, NilC]]) (fun i => T.toNat - i.1) (0, .slice none 0 0, []) ⟨Nat.zero_le _, fresh_nil, rfl, by simp⟩ ?_ ?_ ?_
    · exact bc_ 1 r_ (bc_ 0 r_ (bc_ 0 r_ (bc_ 0 r_ sub_end)))
    · (repeat (first | exact True.intro | refine ⟨rfl, ?_⟩))
    · rintro ⟨k, vT, ls⟩ ⟨hk, hfT, hls, hg⟩
      dsimp only at hk hfT hls hg ⊢
      refine am_ (R_ (M_ r_ (M_ r_ (o_ r_ (bw_ r_ r_ (T_ (jc_condd rfl (fun hlt => ?_) (fun hge => ?_))))))))
      · refine as_ (al_ (B_ (jc_anyB 15 none rfl k_ k_ (yF_ r_ (yL_ 0 r_ (yM_ r_ (yM_ r_ (aa_ (fun c => bj_ r_ r_ g_ p_) (aa_ (fun c => ow_convU8 r_ r_ r_ g_ p_) (aa_ (fun c => bq_ r_ r_ b_ r_ r_ b_ p_) (aa_ (fun c => ow_bytesToString (l := [_]) r_ r_ r_ p_) (aa_ (fun c => ow_strcat rfl rfl (by show 1 + 1 ≤ 9223372036854775807; omega) ⟨rfl, .refl _⟩) (yF_ r_ (yL_ 0 r_ (yM_ r_ ?_)))))))))))))))
        refine yM_ r_ (aa_ (fun c => ow_callA [2] r_ r_ (tk _)) (aa_ (fun c => ow_exarg 70 rfl (fun i => bq_ rfl rfl b_ rfl rfl b_ ⟨rfl, .refl _⟩)) (ae_ (afin_none (jl_slot 71 rfl (fun l => ?_))))))
        (first | refine jl_op (ow_append1F 1 (l.1) rfl rfl rfl rfl rfl rfl rfl (fun _ => rfl) (by show (_ + _) * 192 ≤ _; first | omega | (simp only [List.length_append]; omega)) (by first | omega | (simp only [List.length_append]; omega)) (fun vT1 hvT1 fvT1 => ?_)) (nb rfl) | refine jl_op (ow_append1F 2 (l.1) rfl rfl rfl rfl rfl rfl rfl (fun _ => rfl) (by show (_ + _) * 192 ≤ _; first | omega | (simp only [List.length_append]; omega)) (by first | omega | (simp only [List.length_append]; omega)) (fun vT1 hvT1 fvT1 => ?_)) (nb rfl))
        refine F_ r_ (W_ 1 r_ (ak_ (ay_ (al_ (an_ (M_ r_ (o_ r_ (bj_ r_ r_ g_ (E_ r_ (ak_ (jq_againS (i := (k, vT, ls)) (k + 1, vT1, ls ++ [l.1]) ⟨by dsimp only; omega, fvT1 hfT, by simp [hls], ?_⟩ (by dsimp only; omega) ?_ ?_)))))))))))
        · intro j hj
          simp only [List.length_append, List.length_cons, List.length_nil] at hj
          dsimp only
          by_cases hjl : j < ls.length
          · rw [List.getElem_append_left hjl]
            exact hg j hjl
          · have hjk : j = k := by omega
            subst hjk
            rw [List.getElem_append_right (by omega)]
            simp only [List.getElem_singleton]
            exact l.2
        · exact bc_ 0 r_ (bc_ 0 r_ (bc_ 0 r_ (bc_ 0 r_ sub_end)))
        · (repeat (first | exact True.intro | refine ⟨rfl, ?_⟩))
      · refine av_ (ax_ (ax_ (ba_ (jq_cutS (vT, ls) ⟨hfT, by dsimp only; omega, hg⟩ ?_ ?_))))
        · exact bc_ 0 r_ (bc_ 0 r_ (bc_ 0 r_ (bc_ 0 r_ sub_end)))
        · (repeat (first | exact True.intro | refine ⟨rfl, ?_⟩))
  rintro ⟨vT, ls⟩ ⟨hfT, hls, hg⟩
  dsimp only at hfT hls hg ⊢
  refine jc_freezeB 1 0 2 rfl rfl hfT (R_ (A_ 0 r_ (S_ 2 r_ (T_ (ar_ ?_)))))
  (first | refine jq_retRowS rfl rfl rfl rfl 0 rfl (fun K h => h ⟨lR, Sh, ls⟩ ⟨⟨n1, hn12, hlR⟩, hSh, hls, hg⟩) ?_ | refine jq_retRowS rfl rfl rfl rfl 1 rfl (fun K h => h ⟨lR, Sh, ls⟩ ⟨⟨n1, hn12, hlR⟩, hSh, hls, hg⟩) ?_ | refine jq_retRowS rfl rfl rfl rfl 2 rfl (fun K h => h ⟨lR, Sh, ls⟩ ⟨⟨n1, hn12, hlR⟩, hSh, hls, hg⟩) ?_)
  exact bc_ 2 r_ sub_end

theorem gProgram_c (hL : InR L) (hLn : L.length ≤ 400) (T : Int) :
    Con Tryd.prog 7 [Ptr bd, In .i64 T] [Dk bd L] (fun K => ∀ p : Pg, PgG (max 1 (min T 6)).toNat 300 p → K (.row p.row) [Dk bd L]) := by
  refine con_intro Tryd.func7 rfl rfl (Nat.le_of_ble_eq_true rfl) (fun c hc => R_ (o_ r_ (bl_ rfl rfl (fun b4 => T_ (R_ (M_ r_ (M_ r_ (o_ r_ (cl_ r_ r_ (o_ r_ (ck_ r_ r_ (o_ r_ (bt_ [1] rfl rfl (programs_c hL hLn _ _ _ g_ g_ g_) (fun p hp => S_ 1 r_ (T_ (ar_ ?_))))))))))))))))
  (first | refine jq_retRowS rfl rfl rfl rfl 0 rfl (fun K h => h p hp) ?_ | refine jq_retRowS rfl rfl rfl rfl 1 rfl (fun K h => h p hp) ?_)
  exact bc_ 1 r_ sub_end
end
end Go.Proofs.YtlniadfidfmckaaDoor
end

section
namespace Go.Vc
open Go.RowKit

section
variable {P : Program} [Gl P] {nt : Nat} {c : Cx P nt} {env : Env} {H Hr : List Ch} {ops : Array Oper} {Q : Exit → Act → World → Prop} {Sw : World → Prop}
variable {m fuel : Nat} {listed : Array Bool} {i j k di dj dk : Nat} {opi opj : Op} {ti tj tk : TypeId} {pi pj pk : String} {afi afj afk : Array Edge} {s0 : S}
theorem hp_list (js : List Nat) (hr : Region.ready .any ops listed = js) (hne : js ≠ []) (h : ∀ i ∈ js, ∃ o, ops[i]? = some o ∧ (o.guard.isNone && okD o.dst nt) = true ∧ OpWp c o env H (fun s H' => (∀ w, StW c H' w → Sw w) ∧ HP c ops Q Sw m fuel (listed.setIfInBounds i true) (putE o.dst s env) H')) : HP c ops Q Sw m (fuel + 1) listed env H := by
  intro a w hst hS
  refine anyX_all hr hne (fun i hi => ?_)
  obtain ⟨o, ho, hg, h1⟩ := h i hi
  rw [Bool.and_eq_true, Option.isNone_iff_eq_none] at hg
  obtain ⟨dst, op, ty, pos, af, g⟩ := o
  obtain ⟨hg1, hg2⟩ := hg
  obtain rfl : g = none := hg1
  unfold wpOp
  rw [ho]
  dsimp only
  rw [if_pos (show Region.wanted _ _ = true from rfl)]
  refine .inl (h1 a w hst _ _ ?_)
  rintro s H' v w' ⟨hk1, hk2⟩ hw' hv hk
  refine ⟨fun _ => hk1 _ hw', hk2 _ _ ?_ (hk1 _ hw')⟩
  cases dst with
  | none => exact hst.next0 hw' hk
  | some d => exact hst.next (by simpa [okD] using hg2) hw' hv hk
theorem hok_build {d : Option Tmp} {ty t : TypeId} {pos : String} {af : Array Edge} [TI P t] [TS P t] (hs : structB (TI.u P t) = true) {z : Value} (hz : (TI.i P t).zero = some z) (h1 : z.cells.toList.all Value.oneCell' = true) {ps : Array (Nat × Operand)} {ss : List (Nat × S)} (hp : env.parts ps.toList = some ss) {row : List C}
    (hf : fillC (TS.pl P t) (zeroRow z) ss = some row) : HOk c Sw env H ⟨d, .build t ps, ty, pos, af, none⟩ (.row row) :=
  fun a w h _ => by
    obtain ⟨cs, g1, g2⟩ := fill_ok (parts_ok h hp) (rdRow_zero _ (List.all_eq_true.1 h1)) hf
    refine ⟨.agg cs.toArray, fun w' _ => ?_, cs.toArray, rfl, by simpa using g2⟩
    simp only [Array.toArray_toList] at g1
    simp only [execOp, Instr.build, Sem.run_bind, run_zeroValue t hz, run_fields t hs, Result.andThen_ok, TS.hpl, Array.toList_map, g1, Sem.run_pure]
end
end Go.Vc
end

section
namespace Go.Vc
open Go.RowKit

section
variable {P : Program} [Gl P] {nt : Nat} {c : Cx P nt} {env : Env} {H Hr : List Ch} {ops : Array Oper} {Q : Exit → Act → World → Prop}
variable {x : Operand} {t : TypeId} {ty : TypeId} {pos : String} {af : Array Edge}
end
end Go.Vc
end

section
namespace Go.Vc
open Go.RowKit

section
variable {P : Program} [Gl P] {nt : Nat} {c : Cx P nt} {env : Env} {H Hr : List Ch} {ops : Array Oper} {Q : Exit → Act → World → Prop} {Sw : World → Prop} {L : List (Nat × List Value × TypeId)}
variable {m fuel : Nat} {listed : Array Bool} {x : Operand} {t : TypeId} {ty : TypeId} {pos : String} {af : Array Edge}
/-- One of several that may come next. -/
def HStep (c : Cx P nt) (ops : Array Oper) (Q : Exit → Act → World → Prop) (Sw : World → Prop) (m fuel : Nat) (listed : Array Bool) (env : Env) (H : List Ch) (i : Nat) (o : Oper) : Prop :=
  OpWp c o env H (fun s H' => (∀ w, StW c H' w → Sw w) ∧ HP c ops Q Sw m fuel (listed.setIfInBounds i true) (putE o.dst s env) H')
theorem hs_v {i d : Nat} {op : Op} (h : OpWp c ⟨some d, op, ty, pos, af, none⟩ env H (fun s H' => (∀ w, StW c H' w → Sw w) ∧ HP c ops Q Sw m fuel (listed.setIfInBounds i true) ((d, s) :: env) H')) : HStep c ops Q Sw m fuel listed env H i ⟨some d, op, ty, pos, af, none⟩ := h
theorem hp_br2 {i j : Nat} {oi oj : Oper} (hi : ops[i]? = some oi) (hj : ops[j]? = some oj) (hr : Region.ready .any ops listed = [i, j]) (hg : ((oi.guard.isNone && okD oi.dst nt) && (oj.guard.isNone && okD oj.dst nt)) = true)
    (h1 : HStep c ops Q Sw m fuel listed env H i oi) (h2 : HStep c ops Q Sw m fuel listed env H j oj) : HP c ops Q Sw m (fuel + 1) listed env H := by
  rw [Bool.and_eq_true] at hg
  refine hp_list _ hr (by simp) (fun q hq => ?_)
  rcases List.mem_cons.1 hq with rfl | hq
  · exact ⟨_, hi, hg.1, h1⟩
  · obtain rfl := List.mem_singleton.1 hq
    exact ⟨_, hj, hg.2, h2⟩
theorem hp_br3 {i j k : Nat} {oi oj ok : Oper} (hi : ops[i]? = some oi) (hj : ops[j]? = some oj) (hk : ops[k]? = some ok) (hr : Region.ready .any ops listed = [i, j, k]) (hg : ((oi.guard.isNone && okD oi.dst nt) && (oj.guard.isNone && okD oj.dst nt) && (ok.guard.isNone && okD ok.dst nt)) = true)
    (h1 : HStep c ops Q Sw m fuel listed env H i oi) (h2 : HStep c ops Q Sw m fuel listed env H j oj) (h3 : HStep c ops Q Sw m fuel listed env H k ok) : HP c ops Q Sw m (fuel + 1) listed env H := by
  rw [Bool.and_eq_true, Bool.and_eq_true] at hg
  refine hp_list _ hr (by simp) (fun q hq => ?_)
  rcases List.mem_cons.1 hq with rfl | hq
  · exact ⟨_, hi, hg.1.1, h1⟩
  · rcases List.mem_cons.1 hq with rfl | hq
    · exact ⟨_, hj, hg.1.2, h2⟩
    · obtain rfl := List.mem_singleton.1 hq
      exact ⟨_, hk, hg.2, h3⟩
end
end Go.Vc
end

section
namespace Go.Vc
open Go.RowKit

section
variable {P : Program} {ops : Array Oper} {Q : Exit → Act → World → Prop} {K : Act → World → Prop}
theorem upon_then {o : Oper} {a : Act} {next : Act → World → Prop} {r : Result Next} (h : o.upon P a next (Exit.then K Q) r) : o.upon P a next Q r := by
  cases r with
  | ok n w' => cases n <;> first | exact h | exact Calls.mono h (fun e w'' he => by cases e <;> exact he)
  | halt x w' => cases x <;> exact h
theorem wpList_app {l2 : List Oper} : ∀ (l1 : List Oper) (a : Act) (w : World), wpList P ops (Exit.then (wpList P ops Q l2) Q) l1 a w → wpList P ops Q (l1 ++ l2) a w
  | [], _, _, h => h
  | o :: l, a, w, h => by
    rw [List.cons_append]
    unfold wpList at h ⊢
    split
    · rename_i hw
      rw [if_pos hw] at h
      rcases h with h | h
      · exact .inl (upon_then (Oper.wp_mono (fun a w => wpList_app l a w) h))
      · exact .inr ⟨h.1, h.2⟩
    · rename_i hw
      rw [if_neg hw] at h
      exact wpList_app l _ _ h
end
section
variable {P : Program} [Gl P] {nt : Nat} {c : Cx P nt} {env : Env} {H : List Ch} {ops : Array Oper} {Q : Exit → Act → World → Prop}
/-- Operations that wait for one and the same, whose results are not known of. -/
def segOk (env : Env) (g : Nat) (want : Bool) (l : List Oper) : Bool := l.all fun o => o.guard == some (g, want) && (match o.dst with | some d => (env.lookup d).isNone | none => false)
def SegQ (c : Cx P nt) (env : Env) (H : List Ch) (y : Operand) (v : Bool) (a : Act) (w : World) : Prop := St c env H a w ∧ a.eval y = .bool v
theorem yield_of {a : Act} {w : World} {g z : Nat} {b : Bool} (hs : St c env H a w) (hgz : (ops[g]?).bind (·.dst) = some z) (hz : env.lookup z = some (Bl b)) : yielded ops a.tmps g = some b := by
  have hv : a.tmps.getD z undef = .bool b := (hs.slots z _ hz).1
  have hlt : z < a.tmps.size := by
    rcases Nat.lt_or_ge z a.tmps.size with h' | h'
    · exact h'
    · rw [Array.getD_eq_getD_getElem?, Array.getElem?_eq_none h'] at hv
      cases hv
  rw [Array.getD_eq_getD_getElem?, Array.getElem?_eq_getElem hlt] at hv
  simp only [Option.getD_some] at hv
  unfold yielded
  simp [hgz, hlt, hv]
theorem st_put_free {a : Act} {w : World} {d : Nat} {v : Value} (hs : St c env H a w) (hn : env.lookup d = none) : St c env H (a.put (some d) v) w := by
  refine ⟨by have := hs.size; simpa [Act.put] using this, hs.defers, fun t s ht => ?_, hs.heap⟩
  have hne : t ≠ d := by intro h; subst h; rw [hn] at ht; cases ht
  have h1 := hs.slots t s ht
  have h2 : (a.put (some d) v).tmps.getD t undef = a.tmps.getD t undef := by simp [Act.put, Array.getD_eq_getD_getElem?, Array.getElem?_setIfInBounds_ne (Ne.symm hne)]
  rw [h2]
  exact h1
theorem seg_skip {g z : Nat} {want : Bool} (hgz : (ops[g]?).bind (·.dst) = some z) (hz : env.lookup z = some (Bl (!want))) {Kl : Act → World → Prop} :
    ∀ (l : List Oper) (a : Act) (w : World), segOk env g want l = true → St c env H a w → (∀ a, St c env H a w → Kl a w) → wpList P ops (Exit.then Kl Q) l a w
  | [], a, w, _, hs, hK => hK a hs
  | o :: l, a, w, hk, hs, hK => by
    obtain ⟨dst, op, ty, pos, af, gd⟩ := o
    simp only [segOk, List.all_cons, Bool.and_eq_true] at hk
    obtain ⟨⟨h1, h2⟩, h3⟩ := hk
    have h1 : gd = some (g, want) := by simpa using h1
    subst h1
    cases dst with
    | none => cases h2
    | some d =>
      have h2 : env.lookup d = none := by simpa using h2
      unfold wpList
      rw [if_neg (by simp [Region.wanted, yield_of hs hgz hz])]
      exact seg_skip hgz hz l _ w h3 (st_put_free hs h2) hK
theorem jl_seg {want b : Bool} {n g z d : Nat} {l rest : List Oper} {px py y : Operand} {v r : Bool} {ty : TypeId} {pos : String} {af : Array Edge}
    (hr : l.drop n = ⟨some d, .pick (.tmp z) px py, ty, pos, af, none⟩ :: rest) (hs : segOk env g want (l.take n) = true) (hgz : (ops[g]?).bind (·.dst) = some z) (hz : env.lookup z = some (Bl b)) (hd : d < nt)
    (h1 : b = want → JL c ops (Exit.then (SegQ c env H y v) Q) (l.take n) env H)
    (hp : ∀ a w, St c env H a w → (b = want → a.eval y = .bool v) → a.eval (if b then px else py) = .bool r)
    (h2 : JL c ops Q rest ((d, Bl r) :: env) H) : JL c ops Q l env H := by
  intro a w hst
  have hpick : ∀ a w, St c env H a w → (b = want → a.eval y = .bool v) → wpList P ops Q (⟨some d, .pick (.tmp z) px py, ty, pos, af, none⟩ :: rest) a w := by
    intro a w hst hy
    refine wpList_plain rfl fun K hK => ?_
    have e1 : a.eval (.tmp z) = .bool b := ev_val (x := .tmp z) hst (by simpa [Env.ev] using hz)
    have e2 := hp a w hst hy
    have hrun : (execOp a.eval ⟨some d, .pick (.tmp z) px py, ty, pos, af, none⟩).run P w = .ok (.value (.bool r)) w := by
      cases b <;> simp_all [execOp, asBool]
    unfold Oper.wp
    rw [hrun, Oper.upon_value]
    exact hK _ _ (h2 _ _ (hst.next hd hst.heap ⟨rfl, rfl⟩ (fun _ _ h => h)))
  rw [← List.take_append_drop n l, hr]
  refine wpList_app _ _ _ ?_
  by_cases hb : b = want
  · have h3 := h1 hb a w hst
    -- what comes behind it
    have mono : ∀ (l : List Oper) (a : Act) (w : World), wpList P ops (Exit.then (SegQ c env H y v) Q) l a w → wpList P ops (Exit.then (wpList P ops Q (⟨some d, .pick (.tmp z) px py, ty, pos, af, none⟩ :: rest)) Q) l a w := by
      intro l
      induction l with
      | nil => intro a w h; exact hpick a w h.1 (fun _ => h.2)
      | cons o l ih =>
        intro a w h
        unfold wpList at h ⊢
        split
        · rename_i hw
          rw [if_pos hw] at h
          rcases h with h | h
          · refine .inl ?_
            have h4 := Oper.wp_mono (fun a w => ih a w) h
            unfold Oper.wp at h4 ⊢
            revert h4
            generalize (execOp a.eval o).run P w = res
            intro h4
            cases res with
            | ok nn w' => cases nn <;> first | exact h4 | exact Calls.mono h4 (fun e w'' he => by cases e <;> exact he)
            | halt x w' => cases x <;> exact h4
          · exact .inr ⟨h.1, h.2⟩
        · rename_i hw
          rw [if_neg hw] at h
          exact ih _ _ h
    exact mono _ _ _ h3
  · have hz' : env.lookup z = some (Bl (!want)) := by rw [hz]; cases b <;> cases want <;> simp_all
    exact seg_skip hgz hz' _ a w hs hst (fun a hst => hpick a w hst (fun h => absurd h hb))
theorem jl_and (n g : Nat) {b : Bool} {z d : Nat} {l rest : List Oper} {y : Operand} {ty : TypeId} {pos : String} {af : Array Edge}
    (hr : l.drop n = ⟨some d, .pick (.tmp z) y (.const (.bool false)), ty, pos, af, none⟩ :: rest) (hs : segOk env g true (l.take n) = true) (hgz : (ops[g]?).bind (·.dst) = some z) (hz : env.lookup z = some (Bl b)) (hd : d < nt)
    (h : ∃ v : Bool, (b = true → JL c ops (Exit.then (SegQ c env H y v) Q) (l.take n) env H) ∧ JL c ops Q rest ((d, Bl (b && v)) :: env) H) : JL c ops Q l env H :=
  let ⟨v, h1, h2⟩ := h
  jl_seg (y := y) (v := v) (r := b && v) hr hs hgz hz hd h1 (fun a w _ hy => by
    cases b with
    | true => rw [if_pos rfl, Bool.true_and]; exact hy rfl
    | false => rfl) h2
theorem jl_or (n g : Nat) {b : Bool} {z d : Nat} {l rest : List Oper} {y : Operand} {ty : TypeId} {pos : String} {af : Array Edge}
    (hr : l.drop n = ⟨some d, .pick (.tmp z) (.const (.bool true)) y, ty, pos, af, none⟩ :: rest) (hs : segOk env g false (l.take n) = true) (hgz : (ops[g]?).bind (·.dst) = some z) (hz : env.lookup z = some (Bl b)) (hd : d < nt)
    (h : ∃ v : Bool, (b = false → JL c ops (Exit.then (SegQ c env H y v) Q) (l.take n) env H) ∧ JL c ops Q rest ((d, Bl (b || v)) :: env) H) : JL c ops Q l env H :=
  let ⟨v, h1, h2⟩ := h
  jl_seg (y := y) (v := v) (r := b || v) hr hs hgz hz hd h1 (fun a w _ hy => by
    cases b with
    | true => rfl
    | false => rw [if_neg (by simp), Bool.false_or]; exact hy rfl) h2
/-- How such a part ends. -/
theorem jq_seg {env1 : Env} {H1 : List Ch} {y : Operand} {v : Bool} (k : Nat) (he : env1.drop k = env) (hk : ((env1.take k).all fun p => (env.lookup p.1).isNone) = true) (hy : env1.ev y = some (Bl v)) (hp : H1.Perm H) :
    JQ c (Exit.then (SegQ c env H y v) Q) .normal env1 H1 := by
  intro a w hst
  have hst1 : St c env1 H a w := hst.perm hp
  refine ⟨⟨hst.size, hst.defers, fun t s ht => hst1.slots t s ?_, hst1.heap⟩, ev_val hst hy⟩
  rw [← List.take_append_drop k env1, he]
  have : ∀ (l : Env), (l.all fun p => (env.lookup p.1).isNone) = true → List.lookup t (l ++ env) = some s := by
    intro l
    induction l with
    | nil => intro _; exact ht
    | cons p l ih =>
      intro h
      obtain ⟨d, u⟩ := p
      simp only [List.all_cons, Bool.and_eq_true] at h
      rw [List.cons_append, List.lookup_cons]
      have hne : (t == d) = false := by
        rw [beq_eq_false_iff_ne]
        intro h1
        subst h1
        rw [ht] at h
        simp at h
      rw [hne]
      exact ih h.2
  exact this _ hk
/-- The same value, said otherwise. -/
theorem st_same {a : Act} {w : World} {j : Nat} {u u' : S} (h : St c env H a w) (hl : env.lookup j = some u) (he : u = u') : St c ((j, u') :: env) H a w := by
  subst he
  refine ⟨h.size, h.defers, fun t s ht => ?_, h.heap⟩
  rcases lookup_cons ht with ⟨rfl, rfl⟩ | ⟨_, ht⟩
  · exact h.slots _ _ hl
  · exact h.slots t s ht
theorem jq_bl {e : Exit} (j : Nat) {b b' : Bool} (hl : env.lookup j = some (Bl b)) (he : b = b') (h : JQ c Q e ((j, Bl b') :: env) H) : JQ c Q e env H := fun a w hs => h a w (st_same hs hl (by rw [he]))
end
end Go.Vc
end

section
namespace Go.Proofs.YtlniadfidfmckaaDoor
open Go.Vc
attribute [local irreducible] JL JC JQ OpWp Con ConN
attribute [local irreducible] byteAt runLen isL isD isName hasW
set_option maxHeartbeats 4000000

def nameB (s : ByteArray) : Bool := isName s && !hasW s
def smallB (n : Int) : Bool := decide (-2147483648 < n) && decide (n < 2147483648)
def plainB (n : Int) : Bool := decide (0 ≤ n) && decide (n < 2147483648)
/-- Whether an expression has its shape, as far as it is looked at. -/
def shpF : Nat → T → Bool
  | 0, _ => true
  | F + 1, t => match t with
    | .nu n => smallB n
    | .nm s => nameB s
    | .ix s x => nameB s && shpF F x
    | .bn o a b => decide (1 ≤ o) && decide (o ≤ 14) && shpF F a && shpF F b
def oneB : List T → Bool
  | [x] => shpF 20 x
  | _ => false
def okOne (rec : List Sm → Bool) (s : Sm) : Bool :=
  if s.kind = 1 then nameB s.name && decide (s.index.length = 0) && oneB s.value && decide (s.max = 0) && decide (s.label = 0) && decide (s.thn.length = 0) && decide (s.els.length = 0)
  else if s.kind = 2 then nameB s.name && oneB s.index && oneB s.value && decide (s.max = 0) && decide (s.label = 0) && decide (s.thn.length = 0) && decide (s.els.length = 0)
  else if s.kind = 3 then decide (s.name = ⟨#[]⟩) && decide (s.index.length = 0) && oneB s.value && decide (s.max = 0) && plainB s.label && rec s.thn && rec s.els
  else if s.kind = 4 then decide (s.name = ⟨#[]⟩) && decide (s.index.length = 0) && oneB s.value && plainB s.max && plainB s.label && rec s.thn && decide (s.els.length = 0)
  else if s.kind = 5 then nameB s.name && decide (s.index.length = 0) && decide (s.value.length = 0) && decide (s.max = 0) && decide (s.label = 0) && rec s.thn && decide (s.els.length = 0)
  else false
def okSs : Nat → List Sm → Bool
  | 0, _ => true
  | F + 1, l => l.all (okOne (okSs F))
theorem rnameB_c (s : ByteArray) : Con Tryd.prog 44 [Str s] [] (fun K => K (Bl (nameB s)) []) := by
  refine con_intro Tryd.func44 rfl rfl (Nat.le_of_ble_eq_true rfl) (fun c hc => R_ (E_ r_ (T_ (R_ (M_ r_ (o_ r_ (bm_ r_ (rName_c _) (M_ r_ (jl_and 3 2 rfl rfl rfl rfl (nb rfl) ?_)))))))))
  apply Exists.intro
  refine ⟨fun hb1 => ?_, ?_⟩
  exact ah_ r_ h_ b_ (bd_ r_ (ah_ r_ h_ b_ (bm_ r_ (RKeyword_c _) (ah_ r_ h_ b_ (cd_ r_ (ak_ (jq_seg 3 rfl rfl rfl (List.Perm.refl _))))))))
  refine E_ r_ (T_ (ar_ (jq_ret1 rfl rfl [] rfl (fun K h => h))))
theorem rsmallB_c (n : Int) : Con Tryd.prog 70 [In .i64 n] [] (fun K => K (Bl (smallB n)) []) := by
  refine con_intro Tryd.func70 rfl rfl (Nat.le_of_ble_eq_true rfl) (fun c hc => R_ (E_ r_ (T_ (R_ (M_ r_ (o_ r_ (bz_ r_ r_ (M_ r_ (jl_and 2 2 rfl rfl rfl rfl (nb rfl) ?_)))))))))
  apply Exists.intro
  refine ⟨fun hb1 => ?_, ?_⟩
  exact ah_ r_ h_ b_ (bd_ r_ (ah_ r_ h_ b_ (bw_ r_ r_ (ak_ (jq_seg 2 rfl rfl rfl (List.Perm.refl _))))))
  refine E_ r_ (T_ (ar_ (jq_ret1 rfl rfl [] rfl (fun K h => h))))
theorem rplainB_c (n : Int) : Con Tryd.prog 45 [In .i64 n] [] (fun K => K (Bl (plainB n)) []) := by
  refine con_intro Tryd.func45 rfl rfl (Nat.le_of_ble_eq_true rfl) (fun c hc => R_ (E_ r_ (T_ (R_ (M_ r_ (o_ r_ (cn_ r_ r_ (M_ r_ (jl_and 2 2 rfl rfl rfl rfl (nb rfl) ?_)))))))))
  apply Exists.intro
  refine ⟨fun hb1 => ?_, ?_⟩
  exact ah_ r_ h_ b_ (bd_ r_ (ah_ r_ h_ b_ (bw_ r_ r_ (ak_ (jq_seg 2 rfl rfl rfl (List.Perm.refl _))))))
  refine E_ r_ (T_ (ar_ (jq_ret1 rfl rfl [] rfl (fun K h => h))))
theorem rshapedB_c : ∀ (F : Nat) (t : T), F ≤ 20 → Con Tryd.prog 95 [.row t.row', In .i64 (21 - (F : Int))] [] (fun K => K (Bl (shpF F t)) []) := by
  intro F
  induction F with
  | zero =>
    intro t _
    refine con_intro Tryd.func95 rfl rfl (Nat.le_of_ble_eq_true rfl) (fun c hc => R_ (o_ r_ (ci_ r_ (fun bx => E_ r_ (T_ (am_ (R_ (M_ r_ (o_ r_ (bz_ r_ r_ (T_ (aq_ r_ r_ (R_ (E_ r_ (T_ (ar_ (aw_ ?_)))))))))))))))))
    refine jq_ret1 rfl rfl [] rfl (fun K h => h)
  | succ F ih =>
    intro t hF
    have hF1 : (21 - ((F + 1 : Nat) : Int) + 1) = 21 - (F : Int) := by omega
    have hF2 : ¬ 20 < (21 - ((F + 1 : Nat) : Int)) := by omega
    have hF3 : 0 ≤ (21 - ((F + 1 : Nat) : Int)) ∧ (21 - ((F + 1 : Nat) : Int)) ≤ 20 := by omega
    generalize (21 - ((F + 1 : Nat) : Int)) = d at hF1 hF2 hF3 ⊢
    cases t with
    | nu n =>
      refine con_intro Tryd.func95 rfl rfl (Nat.le_of_ble_eq_true rfl) (fun c hc => R_ (o_ r_ (ci_ r_ (fun bx => E_ r_ (T_ (am_ (R_ (M_ r_ (o_ r_ (bz_ r_ r_ (T_ (ap_ r_ w_ (as_ (al_ (am_ (R_ (F_ r_ ?_)))))))))))))))))
      refine L_ 0 r_ (T_ (au_ (R_ (o_ r_ (bn_ r_ r_ (E_ r_ (T_ (aq_ r_ x_ (R_ (F_ r_ (L_ 0 r_ (o_ r_ (bm_ r_ (rsmallB_c _) (M_ r_ (jl_and 3 3 rfl rfl rfl rfl (nb rfl) ?_)))))))))))))))
      apply Exists.intro
      refine ⟨fun hb1 => ?_, ?_⟩
      exact ah_ r_ h_ b_ (bf_ r_ r_ r_ b_ (ah_ r_ h_ b_ (bg_ 0 r_ r_ r_ r_ (ah_ r_ h_ b_ (cs_ r_ r_ (ak_ (jq_seg 3 rfl rfl rfl (List.Perm.refl _))))))))
      refine M_ r_ (jl_and 3 8 rfl rfl rfl rfl (nb rfl) ?_)
      apply Exists.intro
      refine ⟨fun hb1 => ?_, ?_⟩
      exact ah_ r_ h_ b_ (bf_ r_ r_ r_ b_ (ah_ r_ h_ b_ (bg_ 0 r_ r_ r_ r_ (ah_ r_ h_ b_ (bn_ r_ r_ (ak_ (jq_seg 3 rfl rfl rfl (List.Perm.refl _))))))))
      refine M_ r_ (jl_and 4 13 rfl rfl rfl rfl (nb rfl) ?_)
      apply Exists.intro
      refine ⟨fun hb1 => ?_, ?_⟩
      exact ah_ r_ h_ b_ (bf_ r_ r_ r_ b_ (ah_ r_ h_ b_ (bg_ 0 r_ r_ r_ r_ (ah_ r_ h_ b_ (br_ r_ (fun hlen => ah_ r_ h_ b_ (bn_ r_ r_ (ak_ (jq_seg 4 rfl rfl rfl (List.Perm.refl _))))))))))
      refine E_ r_ (T_ (ar_ (az_ (aw_ (jq_bl 4 rfl (b' := smallB n) ?_ ?_)))))
      · simp [T.num, T.name, T.op, T.args]
      refine jq_ret1 rfl rfl [] rfl (fun K h => h)
    | nm s =>
      refine con_intro Tryd.func95 rfl rfl (Nat.le_of_ble_eq_true rfl) (fun c hc => R_ (o_ r_ (ci_ r_ (fun bx => E_ r_ (T_ (am_ (R_ (M_ r_ (o_ r_ (bz_ r_ r_ (T_ (ap_ r_ w_ (as_ (al_ (am_ (R_ (F_ r_ ?_)))))))))))))))))
      refine L_ 0 r_ (T_ (au_ (R_ (o_ r_ (bn_ r_ r_ (E_ r_ (T_ (ap_ r_ r_ (R_ (o_ r_ (bn_ r_ r_ (E_ r_ (T_ (aq_ r_ x_ (R_ (F_ r_ (L_ 0 r_ ?_)))))))))))))))))
      refine o_ r_ (bm_ r_ (rnameB_c _) (M_ r_ (jl_and 3 3 rfl rfl rfl rfl (nb rfl) ?_)))
      apply Exists.intro
      refine ⟨fun hb1 => ?_, ?_⟩
      exact ah_ r_ h_ b_ (bf_ r_ r_ r_ b_ (ah_ r_ h_ b_ (bg_ 0 r_ r_ r_ r_ (ah_ r_ h_ b_ (bn_ r_ r_ (ak_ (jq_seg 3 rfl rfl rfl (List.Perm.refl _))))))))
      refine M_ r_ (jl_and 3 8 rfl rfl rfl rfl (nb rfl) ?_)
      apply Exists.intro
      refine ⟨fun hb1 => ?_, ?_⟩
      exact ah_ r_ h_ b_ (bf_ r_ r_ r_ b_ (ah_ r_ h_ b_ (bg_ 0 r_ r_ r_ r_ (ah_ r_ h_ b_ (bn_ r_ r_ (ak_ (jq_seg 3 rfl rfl rfl (List.Perm.refl _))))))))
      refine M_ r_ (jl_and 4 13 rfl rfl rfl rfl (nb rfl) ?_)
      apply Exists.intro
      refine ⟨fun hb1 => ?_, ?_⟩
      exact ah_ r_ h_ b_ (bf_ r_ r_ r_ b_ (ah_ r_ h_ b_ (bg_ 0 r_ r_ r_ r_ (ah_ r_ h_ b_ (br_ r_ (fun hlen => ah_ r_ h_ b_ (bn_ r_ r_ (ak_ (jq_seg 4 rfl rfl rfl (List.Perm.refl _))))))))))
      refine E_ r_ (T_ (ar_ (az_ (aw_ (jq_bl 4 rfl (b' := nameB s) ?_ ?_)))))
      · simp [T.num, T.name, T.op, T.args]
      refine jq_ret1 rfl rfl [] rfl (fun K h => h)
    | ix s t =>
      have hI := ih t (by omega)
      rw [← hF1] at hI
      have e1 : [t].length = 1 := rfl
      show Con _ _ [.row [.val (.int .i64 3), .val (.int .i64 0), .val (.string s), .val (.int .i64 0), .list ([t].map T.row)], In .i64 d] [] _
      refine con_intro Tryd.func95 rfl rfl (Nat.le_of_ble_eq_true rfl) (fun c hc => R_ (o_ r_ (ci_ r_ (fun bx => E_ r_ (T_ (am_ (R_ (M_ r_ (o_ r_ (bz_ r_ r_ (T_ (ap_ r_ w_ (as_ (al_ (am_ (R_ (F_ r_ ?_)))))))))))))))))
      refine L_ 0 r_ (T_ (au_ (R_ (o_ r_ (bn_ r_ r_ (E_ r_ (T_ (ap_ r_ r_ (R_ (o_ r_ (bn_ r_ r_ (E_ r_ (T_ (ap_ r_ r_ (R_ (o_ r_ (bn_ r_ r_ (E_ r_ ?_))))))))))))))))))
      refine T_ (aq_ r_ x_ (R_ (F_ r_ (L_ 0 r_ (o_ r_ (bm_ r_ (rnameB_c _) (M_ r_ (jl_and 3 3 rfl rfl rfl rfl (nb rfl) ?_))))))))
      apply Exists.intro
      refine ⟨fun hb1 => ?_, ?_⟩
      exact ah_ r_ h_ b_ (bf_ r_ r_ r_ b_ (ah_ r_ h_ b_ (bg_ 0 r_ r_ r_ r_ (ah_ r_ h_ b_ (bn_ r_ r_ (ak_ (jq_seg 3 rfl rfl rfl (List.Perm.refl _))))))))
      refine M_ r_ (jl_and 3 8 rfl rfl rfl rfl (nb rfl) ?_)
      apply Exists.intro
      refine ⟨fun hb1 => ?_, ?_⟩
      exact ah_ r_ h_ b_ (bf_ r_ r_ r_ b_ (ah_ r_ h_ b_ (bg_ 0 r_ r_ r_ r_ (ah_ r_ h_ b_ (bn_ r_ r_ (ak_ (jq_seg 3 rfl rfl rfl (List.Perm.refl _))))))))
      refine M_ r_ (jl_and 4 13 rfl rfl rfl rfl (nb rfl) ?_)
      apply Exists.intro
      refine ⟨fun hb1 => ?_, ?_⟩
      exact ah_ r_ h_ b_ (bf_ r_ r_ r_ b_ (ah_ r_ h_ b_ (bg_ 0 r_ r_ r_ r_ (ah_ r_ h_ b_ (br_ r_ (fun hlen => ah_ r_ h_ b_ (bn_ r_ r_ (ak_ (jq_seg 4 rfl rfl rfl (List.Perm.refl _))))))))))
      refine M_ r_ (jl_and 7 19 rfl rfl rfl rfl (nb rfl) ?_)
      apply Exists.intro
      refine ⟨fun hb1 => ?_, ?_⟩
      exact ah_ r_ h_ b_ (bf_ r_ r_ r_ b_ (ah_ r_ h_ b_ (bg_ 0 r_ r_ r_ r_ (ah_ r_ h_ b_ (cv_ r_ r_ g_ g_ (T.row_eq _) r_ b_ (ah_ r_ h_ b_ (cr_ r_ r_ r_ (ah_ r_ h_ b_ (bd_ r_ (ah_ r_ h_ b_ (bj_ r_ r_ g_ (ah_ r_ h_ b_ (bm_ r_ (hI) (ak_ (jq_seg 7 rfl rfl rfl (List.Perm.refl _))))))))))))))))
      refine E_ r_ (T_ (ar_ (az_ (aw_ (jq_bl 4 rfl (b' := nameB s && shpF F t) ?_ ?_)))))
      · simp [T.num, T.name, T.op, T.args]
      refine jq_ret1 rfl rfl [] rfl (fun K h => h)
    | bn o a b =>
      have h1 := ih a (by omega)
      have h2 := ih b (by omega)
      rw [← hF1] at h1 h2
      have e1 : [a, b].length = 2 := rfl
      show Con _ _ [.row [.val (.int .i64 4), .val (.int .i64 0), .val (.string ⟨#[]⟩), .val (.int .i64 o), .list ([a, b].map T.row)], In .i64 d] [] _
      refine con_intro Tryd.func95 rfl rfl (Nat.le_of_ble_eq_true rfl) (fun c hc => R_ (o_ r_ (ci_ r_ (fun bx => E_ r_ (T_ (am_ (R_ (M_ r_ (o_ r_ (bz_ r_ r_ (T_ (ap_ r_ w_ (as_ (al_ (am_ (R_ (F_ r_ ?_)))))))))))))))))
      refine L_ 0 r_ (T_ (au_ (R_ (o_ r_ (bn_ r_ r_ (E_ r_ (T_ (ap_ r_ r_ (R_ (o_ r_ (bn_ r_ r_ (E_ r_ (T_ (ap_ r_ r_ (R_ (o_ r_ (bn_ r_ r_ (E_ r_ ?_))))))))))))))))))
      refine T_ (ap_ r_ r_ (R_ (o_ r_ (bn_ r_ r_ (E_ r_ (T_ (aq_ r_ x_ (R_ (F_ r_ (L_ 0 r_ (o_ r_ (cs_ r_ r_ (M_ r_ (ah_ r_ r_ b_ (bf_ r_ r_ r_ b_ (ah_ r_ r_ b_ (bg_ 0 r_ r_ r_ r_ (ah_ r_ r_ b_ (bn_ r_ r_ (o_ r_ (bp_ r_ x_ r_ ?_)))))))))))))))))))))
      refine M_ r_ (ah_ r_ r_ b_ (bf_ r_ r_ r_ b_ (ah_ r_ r_ b_ (bg_ 0 r_ r_ r_ r_ (ah_ r_ r_ b_ (cn_ r_ r_ (o_ r_ (bp_ r_ x_ r_ (M_ r_ (jl_and 3 13 rfl rfl rfl rfl (nb rfl) ?_))))))))))
      apply Exists.intro
      refine ⟨fun hb1 => ?_, ?_⟩
      exact ah_ r_ h_ b_ (bf_ r_ r_ r_ b_ (ah_ r_ h_ b_ (bg_ 0 r_ r_ r_ r_ (ah_ r_ h_ b_ (cu_ r_ r_ (ak_ (jq_seg 3 rfl rfl rfl (List.Perm.refl _))))))))
      refine M_ r_ (jl_and 4 18 rfl rfl rfl rfl (nb rfl) ?_)
      apply Exists.intro
      refine ⟨fun hb1 => ?_, ?_⟩
      exact ah_ r_ h_ b_ (bf_ r_ r_ r_ b_ (ah_ r_ h_ b_ (bg_ 0 r_ r_ r_ r_ (ah_ r_ h_ b_ (br_ r_ (fun hlen => ah_ r_ h_ b_ (bn_ r_ r_ (ak_ (jq_seg 4 rfl rfl rfl (List.Perm.refl _))))))))))
      refine M_ r_ (jl_and 7 24 rfl rfl rfl rfl (nb rfl) ?_)
      apply Exists.intro
      refine ⟨fun hb1 => ?_, ?_⟩
      exact ah_ r_ h_ b_ (bf_ r_ r_ r_ b_ (ah_ r_ h_ b_ (bg_ 0 r_ r_ r_ r_ (ah_ r_ h_ b_ (cv_ r_ r_ g_ g_ (T.row_eq _) r_ b_ (ah_ r_ h_ b_ (cr_ r_ r_ r_ (ah_ r_ h_ b_ (bd_ r_ (ah_ r_ h_ b_ (bj_ r_ r_ g_ (ah_ r_ h_ b_ (bm_ r_ (h1) (ak_ (jq_seg 7 rfl rfl rfl (List.Perm.refl _))))))))))))))))
      refine M_ r_ (jl_and 7 33 rfl rfl rfl rfl (nb rfl) ?_)
      apply Exists.intro
      refine ⟨fun hb1 => ?_, ?_⟩
      exact ah_ r_ h_ b_ (bf_ r_ r_ r_ b_ (ah_ r_ h_ b_ (bg_ 0 r_ r_ r_ r_ (ah_ r_ h_ b_ (cv_ r_ r_ g_ g_ (T.row_eq _) r_ b_ (ah_ r_ h_ b_ (cr_ r_ r_ r_ (ah_ r_ h_ b_ (bd_ r_ (ah_ r_ h_ b_ (bj_ r_ r_ g_ (ah_ r_ h_ b_ (bm_ r_ (h2) (ak_ (jq_seg 7 rfl rfl rfl (List.Perm.refl _))))))))))))))))
      refine E_ r_ (T_ (ar_ (az_ (aw_ (jq_bl 4 rfl (b' := decide (1 ≤ o) && decide (o ≤ 14) && shpF F a && shpF F b) ?_ ?_)))))
      · simp [T.num, T.name, T.op, T.args]
      refine jq_ret1 rfl rfl [] rfl (fun K h => h)
end Go.Proofs.YtlniadfidfmckaaDoor
end

section
namespace Go.Proofs.YtlniadfidfmckaaDoor
open Go.Vc
attribute [local irreducible] JL JC JQ OpWp Con ConN
attribute [local irreducible] byteAt runLen isL isD isName hasW nameB smallB plainB shpF
set_option maxHeartbeats 4000000

theorem roneB_c (l : List T) : Con Tryd.prog 83 [.cell (.list (l.map T.row))] [] (fun K => K (Bl (oneB l)) []) := by
  match l with
  | [] =>
    refine con_intro Tryd.func83 rfl rfl (Nat.le_of_ble_eq_true rfl) (fun c hc => ?_)
    have e1 : ([] : List T).length = 0 := rfl
    refine R_ (E_ r_ (T_ (R_ (M_ r_ (o_ r_ (br_ r_ (fun hlen => o_ r_ (bn_ r_ r_ (M_ r_ (ai_ r_ r_ b_ (ai_ r_ r_ b_ (ai_ r_ r_ b_ (ai_ r_ r_ b_ (o_ r_ (bv_ r_ r_ r_ (E_ r_ (T_ (ar_ ?_))))))))))))))))))
    refine jq_ret1 rfl rfl [] rfl (fun K h => h)
  | [x] =>
    have e1 : [x].length = 1 := rfl
    have h1 := rshapedB_c 20 x (by omega)
    refine con_intro Tryd.func83 rfl rfl (Nat.le_of_ble_eq_true rfl) (fun c hc => R_ (E_ r_ (T_ (R_ (M_ r_ (o_ r_ (br_ r_ (fun hlen => o_ r_ (bn_ r_ r_ (M_ r_ (ah_ r_ r_ b_ (bd_ r_ (ah_ r_ r_ b_ (cv_ r_ r_ g_ g_ (T.row_eq _) r_ b_ (ah_ r_ r_ b_ (cr_ r_ r_ r_ (ah_ r_ r_ b_ (bm_ r_ (h1) (o_ r_ (bp_ r_ x_ r_ (E_ r_ (T_ ?_))))))))))))))))))))))
    refine ar_ (jq_ret1 rfl rfl [] rfl (fun K h => h))
  | x :: y :: r =>
    have e1 : (((x :: y :: r).map T.row).length : Int) ≠ 1 := by simp; omega
    refine con_intro Tryd.func83 rfl rfl (Nat.le_of_ble_eq_true rfl) (fun c hc => R_ (E_ r_ (T_ (R_ (M_ r_ (o_ r_ (br_ r_ (fun hlen => o_ r_ (bn_ r_ r_ (M_ r_ (ai_ r_ r_ b_ (ai_ r_ r_ b_ (ai_ r_ r_ b_ (ai_ r_ r_ b_ (o_ r_ (bv_ r_ r_ r_ (E_ r_ (T_ ?_))))))))))))))))))
    refine ar_ (jq_ret1 rfl rfl [] rfl (fun K h => h))
theorem all_snoc {α : Type} {p : α → Bool} {l : List α} {k : Nat} (h : k < l.length) (h1 : (l.take k).all p = true) (h2 : p l[k] = true) : (l.take (k + 1)).all p = true := by
  rw [List.take_succ_eq_append_getElem h, List.all_append, h1]
  simp [h2]
theorem all_no {α : Type} {p : α → Bool} {l : List α} {k : Nat} (h : k < l.length) (h2 : p l[k] = false) : l.all p = false := by
  rw [Bool.eq_false_iff]
  intro h3
  have := List.all_eq_true.1 h3 l[k] (List.getElem_mem h)
  rw [h2] at this
  cases this
theorem rstmtsB_c : ∀ (F : Nat) (l : List Sm), F ≤ 20 → Con Tryd.prog 69 [.cell (.list (l.map Sm.row)), In .i64 (21 - (F : Int))] [] (fun K => K (Bl (okSs F l)) []) := by
  intro F
  induction F with
  | zero =>
    intro l _
    refine con_intro Tryd.func69 rfl rfl (Nat.le_of_ble_eq_true rfl) (fun c hc => R_ (E_ r_ (T_ (am_ (R_ (E_ r_ (T_ (au_ (jc_loopS (ι := Unit) [] (fun _ => True) (fun _ => [(0, .cell (.list (l.map Sm.row))), (1, In .i64 (21 - ((0 : Nat) : Int))), (5, In .i64 0)]) (fun _ => []) (fun _ => 0) () trivial ?_ ?_ ?_)))))))))
    · exact sub_end
    · (repeat (first | exact True.intro | refine ⟨rfl, ?_⟩))
    intro _ _
    refine am_ (R_ (M_ r_ (M_ r_ (o_ r_ (br_ r_ (fun hlen => o_ r_ (bw_ r_ r_ (M_ r_ (jl_and 2 4 rfl rfl rfl rfl (nb rfl) ?_)))))))))
    apply Exists.intro
    refine ⟨fun hb1 => ?_, ?_⟩
    exact ah_ r_ h_ b_ (bd_ r_ (ah_ r_ h_ b_ (cu_ r_ r_ (ak_ (jq_seg 2 rfl rfl rfl (List.Perm.refl _))))))
    refine T_ (jc_cond rfl (fun h => by simp at h) (fun _ => av_ (ax_ (ax_ (ba_ (al_ (R_ (E_ r_ (T_ (ar_ (jq_ret1 rfl rfl [] rfl (fun K h => h))))))))))))
  | succ F ih =>
    intro l hF
    have hF1 : (21 - ((F + 1 : Nat) : Int) + 1) = 21 - (F : Int) := by omega
    have hF3 : 0 ≤ (21 - ((F + 1 : Nat) : Int)) ∧ (21 - ((F + 1 : Nat) : Int)) ≤ 20 := by omega
    generalize (21 - ((F + 1 : Nat) : Int)) = d at hF1 hF3 ⊢
    have hI := fun m => ih m (by omega)
    rw [← hF1] at hI
    clear ih
    have eL : (l.map Sm.row).length = l.length := List.length_map _
    refine con_intro Tryd.func69 rfl rfl (Nat.le_of_ble_eq_true rfl) (fun c hc => R_ (E_ r_ (T_ (am_ (R_ (E_ r_ (T_ (au_ (jc_loopS (ι := Nat) [] (fun k => k ≤ l.length ∧ (l.take k).all (okOne (okSs F)) = true) (fun k => [(0, .cell (.list (l.map Sm.row))), (1, In .i64 d), (5, In .i64 (k : Int))]) (fun _ => []) (fun k => l.length - k) 0 ⟨Nat.zero_le _, rfl⟩ ?_ ?_ ?_)))))))))
    · exact sub_end
    · (repeat (first | exact True.intro | refine ⟨rfl, ?_⟩))
    rintro k ⟨hk, hall⟩
    by_cases hlt : k < l.length
    · have hlt2 : (k : Int) < ((l.map Sm.row).length : Int) := by omega
      have hd20 : d ≤ 20 := hF3.2
      refine am_ (R_ (M_ r_ (M_ r_ (o_ r_ (br_ r_ (fun hlen => o_ r_ (bw_ r_ r_ (M_ r_ (ah_ r_ u_ b_ (bd_ r_ (ah_ r_ u_ b_ (cu_ r_ r_ (o_ r_ (bp_ r_ u_ r_ (T_ (aq_ r_ u_ (as_ (al_ (B_ (R_ ?_))))))))))))))))))))
      refine M_ r_ (M_ r_ (o_ r_ (cc_ r_ r_ g_ (Sm.row_eq _) r_ b_ (o_ r_ (cr_ r_ r_ r_ (o_ r_ (bl_ r_ r_ (fun bl => S_ 0 r_ (T_ (R_ (E_ r_ (T_ (am_ (jc_cut (ι := Unit) [] (fun _ => True) (fun _ => (7, Bl (okOne (okSs F) l[k])) :: [(0, .cell (.list (l.map Sm.row))), (1, In .i64 d), (5, In .i64 (k : Int))]) (fun _ => [.blk bl 111 (l[k]).row']) ?_ ?_))))))))))))))
      · have eI : (l[k].index.map T.row).length = l[k].index.length := List.length_map _
        have eV : (l[k].value.map T.row).length = l[k].value.length := List.length_map _
        by_cases h1 : l[k].kind = 1
        · refine R_ (F_ r_ (L_ 0 r_ (T_ (au_ (R_ (o_ r_ (bn_ r_ r_ (E_ r_ (T_ (aq_ r_ u_ (an_ (F_ r_ (L_ 0 r_ (o_ r_ (bm_ r_ (rnameB_c _) (M_ r_ (jl_and 4 3 rfl rfl rfl rfl (nb rfl) ?_)))))))))))))))))
          apply Exists.intro
          refine ⟨fun hb1 => ?_, ?_⟩
          exact ah_ r_ h_ b_ (bf_ r_ r_ r_ b_ (ah_ r_ h_ b_ (bg_ 0 r_ r_ r_ r_ (ah_ r_ h_ b_ (br_ r_ (fun hlen => ah_ r_ h_ b_ (bn_ r_ r_ (ak_ (jq_seg 4 rfl rfl rfl (List.Perm.refl _))))))))))
          refine M_ r_ (jl_and 3 9 rfl rfl rfl rfl (nb rfl) ?_)
          apply Exists.intro
          refine ⟨fun hb1 => ?_, ?_⟩
          exact ah_ r_ h_ b_ (bf_ r_ r_ r_ b_ (ah_ r_ h_ b_ (bg_ 0 r_ r_ r_ r_ (ah_ r_ h_ b_ (bm_ r_ (roneB_c _) (ak_ (jq_seg 3 rfl rfl rfl (List.Perm.refl _))))))))
          refine M_ r_ (jl_and 3 14 rfl rfl rfl rfl (nb rfl) ?_)
          apply Exists.intro
          refine ⟨fun hb1 => ?_, ?_⟩
          exact ah_ r_ h_ b_ (bf_ r_ r_ r_ b_ (ah_ r_ h_ b_ (bg_ 0 r_ r_ r_ r_ (ah_ r_ h_ b_ (bn_ r_ r_ (ak_ (jq_seg 3 rfl rfl rfl (List.Perm.refl _))))))))
          refine M_ r_ (jl_and 3 19 rfl rfl rfl rfl (nb rfl) ?_)
          apply Exists.intro
          refine ⟨fun hb1 => ?_, ?_⟩
          exact ah_ r_ h_ b_ (bf_ r_ r_ r_ b_ (ah_ r_ h_ b_ (bg_ 0 r_ r_ r_ r_ (ah_ r_ h_ b_ (bn_ r_ r_ (ak_ (jq_seg 3 rfl rfl rfl (List.Perm.refl _))))))))
          refine M_ r_ (jl_and 4 24 rfl rfl rfl rfl (nb rfl) ?_)
          apply Exists.intro
          refine ⟨fun hb1 => ?_, ?_⟩
          exact ah_ r_ h_ b_ (bf_ r_ r_ r_ b_ (ah_ r_ h_ b_ (bg_ 0 r_ r_ r_ r_ (ah_ r_ h_ b_ (br_ r_ (fun hlen => ah_ r_ h_ b_ (bn_ r_ r_ (ak_ (jq_seg 4 rfl rfl rfl (List.Perm.refl _))))))))))
          refine M_ r_ (jl_and 4 30 rfl rfl rfl rfl (nb rfl) ?_)
          apply Exists.intro
          refine ⟨fun hb1 => ?_, ?_⟩
          exact ah_ r_ h_ b_ (bf_ r_ r_ r_ b_ (ah_ r_ h_ b_ (bg_ 0 r_ r_ r_ r_ (ah_ r_ h_ b_ (br_ r_ (fun hlen => ah_ r_ h_ b_ (bn_ r_ r_ (ak_ (jq_seg 4 rfl rfl rfl (List.Perm.refl _))))))))))
          refine E_ r_ (ak_ (ay_ (jq_bl 7 rfl (b' := okOne (okSs F) l[k]) (by simp [okOne, h1]) (jq_cutS () trivial ?_ ?_))))
          · exact bc_ 0 r_ sub_end
          · (repeat (first | exact True.intro | refine ⟨rfl, ?_⟩))
        by_cases h2 : l[k].kind = 2
        · refine R_ (F_ r_ (L_ 0 r_ (T_ (au_ (R_ (o_ r_ (bn_ r_ r_ (E_ r_ (T_ (ap_ r_ w_ (R_ (o_ r_ (bn_ r_ r_ (E_ r_ (T_ (aq_ r_ u_ (an_ ?_)))))))))))))))))
          refine F_ r_ (L_ 0 r_ (o_ r_ (bm_ r_ (rnameB_c _) (M_ r_ (jl_and 3 3 rfl rfl rfl rfl (nb rfl) ?_)))))
          apply Exists.intro
          refine ⟨fun hb1 => ?_, ?_⟩
          exact ah_ r_ h_ b_ (bf_ r_ r_ r_ b_ (ah_ r_ h_ b_ (bg_ 0 r_ r_ r_ r_ (ah_ r_ h_ b_ (bm_ r_ (roneB_c _) (ak_ (jq_seg 3 rfl rfl rfl (List.Perm.refl _))))))))
          refine M_ r_ (jl_and 3 8 rfl rfl rfl rfl (nb rfl) ?_)
          apply Exists.intro
          refine ⟨fun hb1 => ?_, ?_⟩
          exact ah_ r_ h_ b_ (bf_ r_ r_ r_ b_ (ah_ r_ h_ b_ (bg_ 0 r_ r_ r_ r_ (ah_ r_ h_ b_ (bm_ r_ (roneB_c _) (ak_ (jq_seg 3 rfl rfl rfl (List.Perm.refl _))))))))
          refine M_ r_ (jl_and 3 13 rfl rfl rfl rfl (nb rfl) ?_)
          apply Exists.intro
          refine ⟨fun hb1 => ?_, ?_⟩
          exact ah_ r_ h_ b_ (bf_ r_ r_ r_ b_ (ah_ r_ h_ b_ (bg_ 0 r_ r_ r_ r_ (ah_ r_ h_ b_ (bn_ r_ r_ (ak_ (jq_seg 3 rfl rfl rfl (List.Perm.refl _))))))))
          refine M_ r_ (jl_and 3 18 rfl rfl rfl rfl (nb rfl) ?_)
          apply Exists.intro
          refine ⟨fun hb1 => ?_, ?_⟩
          exact ah_ r_ h_ b_ (bf_ r_ r_ r_ b_ (ah_ r_ h_ b_ (bg_ 0 r_ r_ r_ r_ (ah_ r_ h_ b_ (bn_ r_ r_ (ak_ (jq_seg 3 rfl rfl rfl (List.Perm.refl _))))))))
          refine M_ r_ (jl_and 4 23 rfl rfl rfl rfl (nb rfl) ?_)
          apply Exists.intro
          refine ⟨fun hb1 => ?_, ?_⟩
          exact ah_ r_ h_ b_ (bf_ r_ r_ r_ b_ (ah_ r_ h_ b_ (bg_ 0 r_ r_ r_ r_ (ah_ r_ h_ b_ (br_ r_ (fun hlen => ah_ r_ h_ b_ (bn_ r_ r_ (ak_ (jq_seg 4 rfl rfl rfl (List.Perm.refl _))))))))))
          refine M_ r_ (jl_and 4 29 rfl rfl rfl rfl (nb rfl) ?_)
          apply Exists.intro
          refine ⟨fun hb1 => ?_, ?_⟩
          exact ah_ r_ h_ b_ (bf_ r_ r_ r_ b_ (ah_ r_ h_ b_ (bg_ 0 r_ r_ r_ r_ (ah_ r_ h_ b_ (br_ r_ (fun hlen => ah_ r_ h_ b_ (bn_ r_ r_ (ak_ (jq_seg 4 rfl rfl rfl (List.Perm.refl _))))))))))
          refine E_ r_ (ak_ (ay_ (jq_bl 7 rfl (b' := okOne (okSs F) l[k]) (by simp [okOne, h2]) (jq_cutS () trivial ?_ ?_))))
          · exact bc_ 0 r_ sub_end
          · (repeat (first | exact True.intro | refine ⟨rfl, ?_⟩))
        by_cases h3 : l[k].kind = 3
        · refine R_ (F_ r_ (L_ 0 r_ (T_ (au_ (R_ (o_ r_ (bn_ r_ r_ (E_ r_ (T_ (ap_ r_ w_ (R_ (o_ r_ (bn_ r_ r_ (E_ r_ (T_ (ap_ r_ w_ (R_ ?_)))))))))))))))))
          refine o_ r_ (bn_ r_ r_ (E_ r_ (T_ (aq_ r_ u_ (an_ (F_ r_ (L_ 0 r_ (o_ r_ (cs_ r_ r_ (M_ r_ (jl_and 4 3 rfl rfl rfl rfl (nb rfl) ?_)))))))))))
          apply Exists.intro
          refine ⟨fun hb1 => ?_, ?_⟩
          exact ah_ r_ h_ b_ (bf_ r_ r_ r_ b_ (ah_ r_ h_ b_ (bg_ 0 r_ r_ r_ r_ (ah_ r_ h_ b_ (br_ r_ (fun hlen => ah_ r_ h_ b_ (bn_ r_ r_ (ak_ (jq_seg 4 rfl rfl rfl (List.Perm.refl _))))))))))
          refine M_ r_ (jl_and 3 9 rfl rfl rfl rfl (nb rfl) ?_)
          apply Exists.intro
          refine ⟨fun hb1 => ?_, ?_⟩
          exact ah_ r_ h_ b_ (bf_ r_ r_ r_ b_ (ah_ r_ h_ b_ (bg_ 0 r_ r_ r_ r_ (ah_ r_ h_ b_ (bm_ r_ (roneB_c _) (ak_ (jq_seg 3 rfl rfl rfl (List.Perm.refl _))))))))
          refine M_ r_ (jl_and 3 14 rfl rfl rfl rfl (nb rfl) ?_)
          apply Exists.intro
          refine ⟨fun hb1 => ?_, ?_⟩
          exact ah_ r_ h_ b_ (bf_ r_ r_ r_ b_ (ah_ r_ h_ b_ (bg_ 0 r_ r_ r_ r_ (ah_ r_ h_ b_ (bn_ r_ r_ (ak_ (jq_seg 3 rfl rfl rfl (List.Perm.refl _))))))))
          refine M_ r_ (jl_and 3 19 rfl rfl rfl rfl (nb rfl) ?_)
          apply Exists.intro
          refine ⟨fun hb1 => ?_, ?_⟩
          exact ah_ r_ h_ b_ (bf_ r_ r_ r_ b_ (ah_ r_ h_ b_ (bg_ 0 r_ r_ r_ r_ (ah_ r_ h_ b_ (bm_ r_ (rplainB_c _) (ak_ (jq_seg 3 rfl rfl rfl (List.Perm.refl _))))))))
          refine M_ r_ (jl_and 5 24 rfl rfl rfl rfl (nb rfl) ?_)
          apply Exists.intro
          refine ⟨fun hb1 => ?_, ?_⟩
          exact ah_ r_ h_ b_ (bf_ r_ r_ r_ b_ (ah_ r_ h_ b_ (bg_ 0 r_ r_ r_ r_ (ah_ r_ h_ b_ (bd_ r_ (ah_ r_ h_ b_ (bj_ r_ r_ g_ (ah_ r_ h_ b_ (bm_ r_ (hI _) (ak_ (jq_seg 5 rfl rfl rfl (List.Perm.refl _))))))))))))
          refine M_ r_ (jl_and 5 31 rfl rfl rfl rfl (nb rfl) ?_)
          apply Exists.intro
          refine ⟨fun hb1 => ?_, ?_⟩
          exact ah_ r_ h_ b_ (bf_ r_ r_ r_ b_ (ah_ r_ h_ b_ (bg_ 0 r_ r_ r_ r_ (ah_ r_ h_ b_ (bd_ r_ (ah_ r_ h_ b_ (bj_ r_ r_ g_ (ah_ r_ h_ b_ (bm_ r_ (hI _) (ak_ (jq_seg 5 rfl rfl rfl (List.Perm.refl _))))))))))))
          refine E_ r_ (ak_ (ay_ (jq_bl 7 rfl (b' := okOne (okSs F) l[k]) (by simp [okOne, h3]) (jq_cutS () trivial ?_ ?_))))
          · exact bc_ 0 r_ sub_end
          · (repeat (first | exact True.intro | refine ⟨rfl, ?_⟩))
        by_cases h4 : l[k].kind = 4
        · refine R_ (F_ r_ (L_ 0 r_ (T_ (au_ (R_ (o_ r_ (bn_ r_ r_ (E_ r_ (T_ (ap_ r_ w_ (R_ (o_ r_ (bn_ r_ r_ (E_ r_ (T_ (ap_ r_ w_ (R_ ?_)))))))))))))))))
          refine o_ r_ (bn_ r_ r_ (E_ r_ (T_ (ap_ r_ w_ (R_ (o_ r_ (bn_ r_ r_ (E_ r_ (T_ (aq_ r_ u_ (an_ (F_ r_ (L_ 0 r_ (o_ r_ (cs_ r_ r_ (M_ r_ (jl_and 4 3 rfl rfl rfl rfl (nb rfl) ?_)))))))))))))))))
          apply Exists.intro
          refine ⟨fun hb1 => ?_, ?_⟩
          exact ah_ r_ h_ b_ (bf_ r_ r_ r_ b_ (ah_ r_ h_ b_ (bg_ 0 r_ r_ r_ r_ (ah_ r_ h_ b_ (br_ r_ (fun hlen => ah_ r_ h_ b_ (bn_ r_ r_ (ak_ (jq_seg 4 rfl rfl rfl (List.Perm.refl _))))))))))
          refine M_ r_ (jl_and 3 9 rfl rfl rfl rfl (nb rfl) ?_)
          apply Exists.intro
          refine ⟨fun hb1 => ?_, ?_⟩
          exact ah_ r_ h_ b_ (bf_ r_ r_ r_ b_ (ah_ r_ h_ b_ (bg_ 0 r_ r_ r_ r_ (ah_ r_ h_ b_ (bm_ r_ (roneB_c _) (ak_ (jq_seg 3 rfl rfl rfl (List.Perm.refl _))))))))
          refine M_ r_ (jl_and 3 14 rfl rfl rfl rfl (nb rfl) ?_)
          apply Exists.intro
          refine ⟨fun hb1 => ?_, ?_⟩
          exact ah_ r_ h_ b_ (bf_ r_ r_ r_ b_ (ah_ r_ h_ b_ (bg_ 0 r_ r_ r_ r_ (ah_ r_ h_ b_ (bm_ r_ (rplainB_c _) (ak_ (jq_seg 3 rfl rfl rfl (List.Perm.refl _))))))))
          refine M_ r_ (jl_and 3 19 rfl rfl rfl rfl (nb rfl) ?_)
          apply Exists.intro
          refine ⟨fun hb1 => ?_, ?_⟩
          exact ah_ r_ h_ b_ (bf_ r_ r_ r_ b_ (ah_ r_ h_ b_ (bg_ 0 r_ r_ r_ r_ (ah_ r_ h_ b_ (bm_ r_ (rplainB_c _) (ak_ (jq_seg 3 rfl rfl rfl (List.Perm.refl _))))))))
          refine M_ r_ (jl_and 5 24 rfl rfl rfl rfl (nb rfl) ?_)
          apply Exists.intro
          refine ⟨fun hb1 => ?_, ?_⟩
          exact ah_ r_ h_ b_ (bf_ r_ r_ r_ b_ (ah_ r_ h_ b_ (bg_ 0 r_ r_ r_ r_ (ah_ r_ h_ b_ (bd_ r_ (ah_ r_ h_ b_ (bj_ r_ r_ g_ (ah_ r_ h_ b_ (bm_ r_ (hI _) (ak_ (jq_seg 5 rfl rfl rfl (List.Perm.refl _))))))))))))
          refine M_ r_ (jl_and 4 31 rfl rfl rfl rfl (nb rfl) ?_)
          apply Exists.intro
          refine ⟨fun hb1 => ?_, ?_⟩
          exact ah_ r_ h_ b_ (bf_ r_ r_ r_ b_ (ah_ r_ h_ b_ (bg_ 0 r_ r_ r_ r_ (ah_ r_ h_ b_ (br_ r_ (fun hlen => ah_ r_ h_ b_ (bn_ r_ r_ (ak_ (jq_seg 4 rfl rfl rfl (List.Perm.refl _))))))))))
          refine E_ r_ (ak_ (ay_ (jq_bl 7 rfl (b' := okOne (okSs F) l[k]) (by simp [okOne, h4]) (jq_cutS () trivial ?_ ?_))))
          · exact bc_ 0 r_ sub_end
          · (repeat (first | exact True.intro | refine ⟨rfl, ?_⟩))
        by_cases h5 : l[k].kind = 5
        · refine R_ (F_ r_ (L_ 0 r_ (T_ (au_ (R_ (o_ r_ (bn_ r_ r_ (E_ r_ (T_ (ap_ r_ w_ (R_ (o_ r_ (bn_ r_ r_ (E_ r_ (T_ (ap_ r_ w_ (R_ ?_)))))))))))))))))
          refine o_ r_ (bn_ r_ r_ (E_ r_ (T_ (ap_ r_ w_ (R_ (o_ r_ (bn_ r_ r_ (E_ r_ (T_ (ap_ r_ w_ (R_ (o_ r_ (bn_ r_ r_ (E_ r_ (T_ (aq_ r_ u_ (an_ (F_ r_ ?_))))))))))))))))))
          refine L_ 0 r_ (o_ r_ (bm_ r_ (rnameB_c _) (M_ r_ (jl_and 4 3 rfl rfl rfl rfl (nb rfl) ?_))))
          apply Exists.intro
          refine ⟨fun hb1 => ?_, ?_⟩
          exact ah_ r_ h_ b_ (bf_ r_ r_ r_ b_ (ah_ r_ h_ b_ (bg_ 0 r_ r_ r_ r_ (ah_ r_ h_ b_ (br_ r_ (fun hlen => ah_ r_ h_ b_ (bn_ r_ r_ (ak_ (jq_seg 4 rfl rfl rfl (List.Perm.refl _))))))))))
          refine M_ r_ (jl_and 4 9 rfl rfl rfl rfl (nb rfl) ?_)
          apply Exists.intro
          refine ⟨fun hb1 => ?_, ?_⟩
          exact ah_ r_ h_ b_ (bf_ r_ r_ r_ b_ (ah_ r_ h_ b_ (bg_ 0 r_ r_ r_ r_ (ah_ r_ h_ b_ (br_ r_ (fun hlen => ah_ r_ h_ b_ (bn_ r_ r_ (ak_ (jq_seg 4 rfl rfl rfl (List.Perm.refl _))))))))))
          refine M_ r_ (jl_and 3 15 rfl rfl rfl rfl (nb rfl) ?_)
          apply Exists.intro
          refine ⟨fun hb1 => ?_, ?_⟩
          exact ah_ r_ h_ b_ (bf_ r_ r_ r_ b_ (ah_ r_ h_ b_ (bg_ 0 r_ r_ r_ r_ (ah_ r_ h_ b_ (bn_ r_ r_ (ak_ (jq_seg 3 rfl rfl rfl (List.Perm.refl _))))))))
          refine M_ r_ (jl_and 3 20 rfl rfl rfl rfl (nb rfl) ?_)
          apply Exists.intro
          refine ⟨fun hb1 => ?_, ?_⟩
          exact ah_ r_ h_ b_ (bf_ r_ r_ r_ b_ (ah_ r_ h_ b_ (bg_ 0 r_ r_ r_ r_ (ah_ r_ h_ b_ (bn_ r_ r_ (ak_ (jq_seg 3 rfl rfl rfl (List.Perm.refl _))))))))
          refine M_ r_ (jl_and 5 25 rfl rfl rfl rfl (nb rfl) ?_)
          apply Exists.intro
          refine ⟨fun hb1 => ?_, ?_⟩
          exact ah_ r_ h_ b_ (bf_ r_ r_ r_ b_ (ah_ r_ h_ b_ (bg_ 0 r_ r_ r_ r_ (ah_ r_ h_ b_ (bd_ r_ (ah_ r_ h_ b_ (bj_ r_ r_ g_ (ah_ r_ h_ b_ (bm_ r_ (hI _) (ak_ (jq_seg 5 rfl rfl rfl (List.Perm.refl _))))))))))))
          refine M_ r_ (jl_and 4 32 rfl rfl rfl rfl (nb rfl) ?_)
          apply Exists.intro
          refine ⟨fun hb1 => ?_, ?_⟩
          exact ah_ r_ h_ b_ (bf_ r_ r_ r_ b_ (ah_ r_ h_ b_ (bg_ 0 r_ r_ r_ r_ (ah_ r_ h_ b_ (br_ r_ (fun hlen => ah_ r_ h_ b_ (bn_ r_ r_ (ak_ (jq_seg 4 rfl rfl rfl (List.Perm.refl _))))))))))
          refine E_ r_ (ak_ (ay_ (jq_bl 7 rfl (b' := okOne (okSs F) l[k]) (by simp [okOne, h5]) (jq_cutS () trivial ?_ ?_))))
          · exact bc_ 0 r_ sub_end
          · (repeat (first | exact True.intro | refine ⟨rfl, ?_⟩))
        · refine R_ (F_ r_ (L_ 0 r_ (T_ (au_ (R_ (o_ r_ (bn_ r_ r_ (E_ r_ (T_ (ap_ r_ w_ (R_ (o_ r_ (bn_ r_ r_ (E_ r_ (T_ (ap_ r_ w_ (R_ ?_)))))))))))))))))
          refine o_ r_ (bn_ r_ r_ (E_ r_ (T_ (ap_ r_ w_ (R_ (o_ r_ (bn_ r_ r_ (E_ r_ (T_ (ap_ r_ w_ (R_ (o_ r_ (bn_ r_ r_ (E_ r_ (T_ (ap_ r_ w_ (as_ (ay_ ?_))))))))))))))))))
          refine jq_bl 7 rfl (b' := okOne (okSs F) l[k]) (by simp [okOne, h1, h2, h3, h4, h5]) (jq_cutS () trivial ?_ ?_)
          · exact bc_ 0 r_ sub_end
          · (repeat (first | exact True.intro | refine ⟨rfl, ?_⟩))
      intro _ _
      by_cases hok : okOne (okSs F) l[k] = true
      · have hokN : (!okOne (okSs F) l[k]) = false := by rw [hok]; rfl
        refine R_ (M_ r_ (o_ r_ (cd_ r_ (T_ (ap_ r_ h_ (as_ (ay_ (al_ (an_ (M_ r_ (o_ r_ (bj_ r_ r_ g_ (E_ r_ (ak_ (jq_againS (k + 1) ⟨hlt, all_snoc hlt hall hok⟩ g_ ?_ ?_)))))))))))))))
        · exact sub_end
        · (repeat (first | exact True.intro | refine ⟨rfl, ?_⟩))
      · have hok : okOne (okSs F) l[k] = false := by simpa using hok
        have hno : okSs (F + 1) l = false := all_no hlt hok
        have hokN : (!okOne (okSs F) l[k]) = true := by rw [hok]; rfl
        refine R_ (M_ r_ (o_ r_ (cd_ r_ (T_ (aq_ r_ h_ (R_ (E_ r_ (T_ (ar_ (az_ (aw_ (aw_ (az_ (aw_ (jq_ret1 rfl rfl [] rfl (fun K h => by rw [hno] at h; exact h))))))))))))))))
    · have hlt2 : ¬ (k : Int) < ((l.map Sm.row).length : Int) := by omega
      have hyes : okSs (F + 1) l = true := by rw [List.take_of_length_le (by omega)] at hall; exact hall
      refine am_ (R_ (M_ r_ (M_ r_ (o_ r_ (br_ r_ (fun hlen => o_ r_ (bw_ r_ r_ (M_ r_ (ai_ r_ w_ b_ (ai_ r_ w_ b_ (o_ r_ (bv_ r_ w_ r_ (T_ (ap_ r_ r_ (av_ (ax_ (ax_ (ba_ ?_))))))))))))))))))
      refine al_ (R_ (E_ r_ (T_ (ar_ (jq_ret1 rfl rfl [] rfl (fun K h => by rw [hyes] at h; exact h))))))
end Go.Proofs.YtlniadfidfmckaaDoor
end

section
namespace Go.Proofs.YtlniadfidfmckaaDoor
open Go.Vc
attribute [local irreducible] JL JC JQ OpWp Con ConN
attribute [local irreducible] byteAt runLen isL isD isName hasW nameB smallB plainB shpF
set_option maxHeartbeats 4000000

def inB (x : Inp) : Bool := nameB x.1 && smallB x.2.1 && smallB x.2.2
def arB (x : Arr) : Bool := nameB x.1 && plainB x.2
def mdB (x : Md) : Bool := nameB x.1 && nameB x.2.1 && smallB x.2.2.1 && smallB x.2.2.2
def clB (x : Clm) : Bool := plainB x.1 && plainB x.2
def shB (x : Shd) : Bool := nameB x.1 && plainB x.2.1 && nameB x.2.2
def hdB (t : Tk) : Bool := nameB t.name && plainB t.period && plainB t.deadline && plainB t.priority && plainB t.jitter
def okTk (t : Tk) : Bool := hdB t && okSs 20 t.body && t.inputs.all inB && t.vars.all nameB && t.arrays.all arB && t.modes.all mdB && t.claims.all clB
def okPg (p : Pg) : Bool := p.res.all nameB && p.shared.all shB && p.tasks.all okTk
theorem rtaskB_c (t : Tk) : Con Tryd.prog 46 [.row t.row] [] (fun K => K (Bl (okTk t)) []) := by
  have hS := rstmtsB_c 20 t.body (by omega)
  refine con_intro Tryd.func46 rfl rfl (Nat.le_of_ble_eq_true rfl) (fun c hc => R_ (o_ r_ (ci_ r_ (fun bx => E_ r_ (T_ (am_ (R_ (F_ r_ (L_ 0 r_ (o_ r_ (bm_ r_ (rnameB_c _) (o_ r_ (cd_ r_ (M_ r_ (jl_or 4 4 rfl rfl rfl rfl (nb rfl) ?_)))))))))))))))
  apply Exists.intro
  refine ⟨fun hb1 => ?_, ?_⟩
  exact ah_ r_ h_ b_ (bf_ r_ r_ r_ b_ (ah_ r_ h_ b_ (bg_ 0 r_ r_ r_ r_ (ah_ r_ h_ b_ (bm_ r_ (rplainB_c _) (ah_ r_ h_ b_ (cd_ r_ (ak_ (jq_seg 4 rfl rfl rfl (List.Perm.refl _))))))))))
  refine M_ r_ (jl_or 4 10 rfl rfl rfl rfl (nb rfl) ?_)
  apply Exists.intro
  refine ⟨fun hb1 => ?_, ?_⟩
  exact ah_ r_ h_ b_ (bf_ r_ r_ r_ b_ (ah_ r_ h_ b_ (bg_ 0 r_ r_ r_ r_ (ah_ r_ h_ b_ (bm_ r_ (rplainB_c _) (ah_ r_ h_ b_ (cd_ r_ (ak_ (jq_seg 4 rfl rfl rfl (List.Perm.refl _))))))))))
  refine M_ r_ (jl_or 4 16 rfl rfl rfl rfl (nb rfl) ?_)
  apply Exists.intro
  refine ⟨fun hb1 => ?_, ?_⟩
  exact ah_ r_ h_ b_ (bf_ r_ r_ r_ b_ (ah_ r_ h_ b_ (bg_ 0 r_ r_ r_ r_ (ah_ r_ h_ b_ (bm_ r_ (rplainB_c _) (ah_ r_ h_ b_ (cd_ r_ (ak_ (jq_seg 4 rfl rfl rfl (List.Perm.refl _))))))))))
  refine M_ r_ (jl_or 4 22 rfl rfl rfl rfl (nb rfl) ?_)
  apply Exists.intro
  refine ⟨fun hb1 => ?_, ?_⟩
  exact ah_ r_ h_ b_ (bf_ r_ r_ r_ b_ (ah_ r_ h_ b_ (bg_ 0 r_ r_ r_ r_ (ah_ r_ h_ b_ (bm_ r_ (rplainB_c _) (ah_ r_ h_ b_ (cd_ r_ (ak_ (jq_seg 4 rfl rfl rfl (List.Perm.refl _))))))))))
  refine M_ r_ (jl_or 4 28 rfl rfl rfl rfl (nb rfl) ?_)
  apply Exists.intro
  refine ⟨fun hb1 => ?_, ?_⟩
  exact ah_ r_ h_ b_ (bf_ r_ r_ r_ b_ (ah_ r_ h_ b_ (bg_ 0 r_ r_ r_ r_ (ah_ r_ h_ b_ (bm_ r_ (hS) (ah_ r_ h_ b_ (cd_ r_ (ak_ (jq_seg 4 rfl rfl rfl (List.Perm.refl _))))))))))
  refine T_ (jc_cond rfl (fun hn => ?_) (fun hy => ?_))
  · have hp : (hdB t && okSs 20 t.body) = false := by
      cases hcs : (hdB t && okSs 20 t.body) with
      | false => rfl
      | true =>
        exfalso
        simp only [hdB, Bool.and_eq_true] at hcs
        simp [hcs] at hn
    have hres : okTk t = false := by unfold okTk; rw [hp]; rfl
    refine R_ (E_ r_ (T_ (ar_ (aw_ (jq_ret1 rfl rfl [] rfl (fun K h => by rw [hres] at h; exact h))))))
  have h0 : (hdB t && okSs 20 t.body) = true := by simpa [hdB, and_assoc] using hy
  clear hy
  refine as_ (al_ (am_ (jc_cut (ι := Unit) [] (fun _ => (t.inputs).all inB = true) (fun _ => [(1, .cell (.val (.pointer (some ⟨bx, 0, none⟩))))]) (fun _ => [.blk bx 78 t.row]) ?_ ?_)))
  · refine R_ (E_ r_ (T_ (au_ (jc_loopS (ι := Nat) [] (fun k => k ≤ (t.inputs).length ∧ ((t.inputs).take k).all inB = true) (fun k => (3, In .i64 (k : Int)) :: [(1, .cell (.val (.pointer (some ⟨bx, 0, none⟩))))]) (fun _ => [.blk bx 78 t.row]) (fun k => (t.inputs).length - k) 0 ⟨Nat.zero_le _, rfl⟩ ?_ ?_ ?_))))
    · exact bc_ 0 r_ sub_end
    · (repeat (first | exact True.intro | refine ⟨rfl, ?_⟩))
    rintro k ⟨hk, hall⟩
    have eL : ((t.inputs).map InRow).length = (t.inputs).length := List.length_map _
    by_cases hlt : k < (t.inputs).length
    · have hlt2 : (k : Int) < (((t.inputs).map InRow).length : Int) := by omega
      refine am_ (R_ (M_ r_ (F_ r_ (L_ 0 r_ (o_ r_ (br_ r_ (fun hlen => o_ r_ (bw_ r_ r_ (T_ (aq_ r_ u_ (as_ (al_ (B_ (R_ (F_ r_ (L_ 0 r_ (M_ r_ ?_)))))))))))))))))
      refine o_ r_ (cc_ r_ r_ g_ r_ r_ b_ (o_ r_ (cf_ r_ r_ r_ b_ r_ b_ (o_ r_ (cb_ r_ r_ (o_ r_ (bm_ r_ (rnameB_c _) (o_ r_ (cd_ r_ (M_ r_ (jl_or 8 8 rfl rfl rfl rfl (nb rfl) ?_)))))))))))
      apply Exists.intro
      refine ⟨fun hb1 => ?_, ?_⟩
      exact ah_ r_ h_ b_ (bf_ r_ r_ r_ b_ (ah_ r_ h_ b_ (bg_ 0 r_ r_ r_ r_ (ah_ r_ h_ b_ (bd_ r_ (ah_ r_ h_ b_ (cc_ r_ r_ g_ r_ r_ b_ (ah_ r_ h_ b_ (cf_ r_ r_ r_ b_ r_ b_ (ah_ r_ h_ b_ (cb_ r_ r_ (ah_ r_ h_ b_ (bm_ r_ (rsmallB_c _) (ah_ r_ h_ b_ (cd_ r_ (ak_ (jq_seg 8 rfl rfl rfl (List.Perm.refl _))))))))))))))))))
      refine M_ r_ (jl_or 8 18 rfl rfl rfl rfl (nb rfl) ?_)
      apply Exists.intro
      refine ⟨fun hb1 => ?_, ?_⟩
      exact ah_ r_ h_ b_ (bf_ r_ r_ r_ b_ (ah_ r_ h_ b_ (bg_ 0 r_ r_ r_ r_ (ah_ r_ h_ b_ (bd_ r_ (ah_ r_ h_ b_ (cc_ r_ r_ g_ r_ r_ b_ (ah_ r_ h_ b_ (cf_ r_ r_ r_ b_ r_ b_ (ah_ r_ h_ b_ (cb_ r_ r_ (ah_ r_ h_ b_ (bm_ r_ (rsmallB_c _) (ah_ r_ h_ b_ (cd_ r_ (ak_ (jq_seg 8 rfl rfl rfl (List.Perm.refl _))))))))))))))))))
      refine T_ (jc_cond rfl (fun hn => ?_) (fun hy => ?_))
      · have hp : inB (t.inputs)[k] = false := by
          cases hcs : inB (t.inputs)[k] with
          | false => rfl
          | true =>
            exfalso
            try simp only [inB, Bool.and_eq_true] at hcs
            simp [hcs] at hn
        have hno : (t.inputs).all inB = false := all_no hlt hp
        have hres : okTk t = false := by unfold okTk; simp [hno]
        refine R_ (E_ r_ (T_ (ar_ (az_ (aw_ (aw_ (az_ (aw_ (jq_ret1 rfl rfl [] rfl (fun K h => by rw [hres] at h; exact h))))))))))
      · have hp : inB (t.inputs)[k] = true := by simpa [inB, and_assoc] using hy
        refine as_ (ay_ (al_ (an_ (M_ r_ (o_ r_ (bj_ r_ r_ g_ (E_ r_ (ak_ (jq_againS (k + 1) ⟨hlt, all_snoc hlt hall hp⟩ g_ ?_ ?_)))))))))
        · exact bc_ 0 r_ sub_end
        · (repeat (first | exact True.intro | refine ⟨rfl, ?_⟩))
    · have hlt2 : ¬ (k : Int) < (((t.inputs).map InRow).length : Int) := by omega
      refine am_ (R_ (M_ r_ (F_ r_ (L_ 0 r_ (o_ r_ (br_ r_ (fun hlen => o_ r_ (bw_ r_ r_ (T_ (ap_ r_ w_ (av_ (ax_ (ax_ (ba_ (jq_cutS () (by rw [List.take_of_length_le g_] at hall; exact hall) ?_ ?_)))))))))))))))
      · exact bc_ 0 r_ sub_end
      · (repeat (first | exact True.intro | refine ⟨rfl, ?_⟩))
  intro _ h1
  refine am_ (jc_cut (ι := Unit) [] (fun _ => (t.vars).all nameB = true) (fun _ => [(1, .cell (.val (.pointer (some ⟨bx, 0, none⟩))))]) (fun _ => [.blk bx 78 t.row]) ?_ ?_)
  · refine R_ (E_ r_ (T_ (au_ (jc_loopS (ι := Nat) [] (fun k => k ≤ (t.vars).length ∧ ((t.vars).take k).all nameB = true) (fun k => (4, In .i64 (k : Int)) :: [(1, .cell (.val (.pointer (some ⟨bx, 0, none⟩))))]) (fun _ => [.blk bx 78 t.row]) (fun k => (t.vars).length - k) 0 ⟨Nat.zero_le _, rfl⟩ ?_ ?_ ?_))))
    · exact bc_ 0 r_ sub_end
    · (repeat (first | exact True.intro | refine ⟨rfl, ?_⟩))
    rintro k ⟨hk, hall⟩
    have eL : ((t.vars).map Wrow).length = (t.vars).length := List.length_map _
    by_cases hlt : k < (t.vars).length
    · have hlt2 : (k : Int) < (((t.vars).map Wrow).length : Int) := by omega
      refine am_ (R_ (M_ r_ (F_ r_ (L_ 0 r_ (o_ r_ (br_ r_ (fun hlen => o_ r_ (bw_ r_ r_ (T_ (aq_ r_ u_ (as_ (al_ (B_ (R_ (F_ r_ (L_ 0 r_ (M_ r_ ?_)))))))))))))))))
      refine o_ r_ (cc_ r_ r_ g_ r_ r_ b_ (o_ r_ (cb_ r_ r_ (o_ r_ (bm_ r_ (rnameB_c _) (o_ r_ (cd_ r_ (T_ (jc_cond rfl (fun hn => ?_) (fun hy => ?_))))))))))
      · have hp : nameB (t.vars)[k] = false := by
          cases hcs : nameB (t.vars)[k] with
          | false => rfl
          | true =>
            exfalso
            skip
            simp [hcs] at hn
        have hno : (t.vars).all nameB = false := all_no hlt hp
        have hres : okTk t = false := by unfold okTk; simp [hno]
        refine R_ (E_ r_ (T_ (ar_ (az_ (aw_ (aw_ (az_ (aw_ (jq_ret1 rfl rfl [] rfl (fun K h => by rw [hres] at h; exact h))))))))))
      · have hp : nameB (t.vars)[k] = true := by simpa [and_assoc] using hy
        refine as_ (ay_ (al_ (an_ (M_ r_ (o_ r_ (bj_ r_ r_ g_ (E_ r_ (ak_ (jq_againS (k + 1) ⟨hlt, all_snoc hlt hall hp⟩ g_ ?_ ?_)))))))))
        · exact bc_ 0 r_ sub_end
        · (repeat (first | exact True.intro | refine ⟨rfl, ?_⟩))
    · have hlt2 : ¬ (k : Int) < (((t.vars).map Wrow).length : Int) := by omega
      refine am_ (R_ (M_ r_ (F_ r_ (L_ 0 r_ (o_ r_ (br_ r_ (fun hlen => o_ r_ (bw_ r_ r_ (T_ (ap_ r_ w_ (av_ (ax_ (ax_ (ba_ (jq_cutS () (by rw [List.take_of_length_le g_] at hall; exact hall) ?_ ?_)))))))))))))))
      · exact bc_ 0 r_ sub_end
      · (repeat (first | exact True.intro | refine ⟨rfl, ?_⟩))
  intro _ h2
  refine am_ (jc_cut (ι := Unit) [] (fun _ => (t.arrays).all arB = true) (fun _ => [(1, .cell (.val (.pointer (some ⟨bx, 0, none⟩))))]) (fun _ => [.blk bx 78 t.row]) ?_ ?_)
  · refine R_ (E_ r_ (T_ (au_ (jc_loopS (ι := Nat) [] (fun k => k ≤ (t.arrays).length ∧ ((t.arrays).take k).all arB = true) (fun k => (5, In .i64 (k : Int)) :: [(1, .cell (.val (.pointer (some ⟨bx, 0, none⟩))))]) (fun _ => [.blk bx 78 t.row]) (fun k => (t.arrays).length - k) 0 ⟨Nat.zero_le _, rfl⟩ ?_ ?_ ?_))))
    · exact bc_ 0 r_ sub_end
    · (repeat (first | exact True.intro | refine ⟨rfl, ?_⟩))
    rintro k ⟨hk, hall⟩
    have eL : ((t.arrays).map ArRow).length = (t.arrays).length := List.length_map _
    by_cases hlt : k < (t.arrays).length
    · have hlt2 : (k : Int) < (((t.arrays).map ArRow).length : Int) := by omega
      refine am_ (R_ (M_ r_ (F_ r_ (L_ 0 r_ (o_ r_ (br_ r_ (fun hlen => o_ r_ (bw_ r_ r_ (T_ (aq_ r_ u_ (as_ (al_ (B_ (R_ (F_ r_ (L_ 0 r_ (M_ r_ ?_)))))))))))))))))
      refine o_ r_ (cc_ r_ r_ g_ r_ r_ b_ (o_ r_ (cf_ r_ r_ r_ b_ r_ b_ (o_ r_ (cb_ r_ r_ (o_ r_ (bm_ r_ (rnameB_c _) (o_ r_ (cd_ r_ (M_ r_ (jl_or 8 8 rfl rfl rfl rfl (nb rfl) ?_)))))))))))
      apply Exists.intro
      refine ⟨fun hb1 => ?_, ?_⟩
      exact ah_ r_ h_ b_ (bf_ r_ r_ r_ b_ (ah_ r_ h_ b_ (bg_ 0 r_ r_ r_ r_ (ah_ r_ h_ b_ (bd_ r_ (ah_ r_ h_ b_ (cc_ r_ r_ g_ r_ r_ b_ (ah_ r_ h_ b_ (cf_ r_ r_ r_ b_ r_ b_ (ah_ r_ h_ b_ (cb_ r_ r_ (ah_ r_ h_ b_ (bm_ r_ (rplainB_c _) (ah_ r_ h_ b_ (cd_ r_ (ak_ (jq_seg 8 rfl rfl rfl (List.Perm.refl _))))))))))))))))))
      refine T_ (jc_cond rfl (fun hn => ?_) (fun hy => ?_))
      · have hp : arB (t.arrays)[k] = false := by
          cases hcs : arB (t.arrays)[k] with
          | false => rfl
          | true =>
            exfalso
            try simp only [arB, Bool.and_eq_true] at hcs
            simp [hcs] at hn
        have hno : (t.arrays).all arB = false := all_no hlt hp
        have hres : okTk t = false := by unfold okTk; simp [hno]
        refine R_ (E_ r_ (T_ (ar_ (az_ (aw_ (aw_ (az_ (aw_ (jq_ret1 rfl rfl [] rfl (fun K h => by rw [hres] at h; exact h))))))))))
      · have hp : arB (t.arrays)[k] = true := by simpa [arB, and_assoc] using hy
        refine as_ (ay_ (al_ (an_ (M_ r_ (o_ r_ (bj_ r_ r_ g_ (E_ r_ (ak_ (jq_againS (k + 1) ⟨hlt, all_snoc hlt hall hp⟩ g_ ?_ ?_)))))))))
        · exact bc_ 0 r_ sub_end
        · (repeat (first | exact True.intro | refine ⟨rfl, ?_⟩))
    · have hlt2 : ¬ (k : Int) < (((t.arrays).map ArRow).length : Int) := by omega
      refine am_ (R_ (M_ r_ (F_ r_ (L_ 0 r_ (o_ r_ (br_ r_ (fun hlen => o_ r_ (bw_ r_ r_ (T_ (ap_ r_ w_ (av_ (ax_ (ax_ (ba_ (jq_cutS () (by rw [List.take_of_length_le g_] at hall; exact hall) ?_ ?_)))))))))))))))
      · exact bc_ 0 r_ sub_end
      · (repeat (first | exact True.intro | refine ⟨rfl, ?_⟩))
  intro _ h3
  refine am_ (jc_cut (ι := Unit) [] (fun _ => (t.modes).all mdB = true) (fun _ => [(1, .cell (.val (.pointer (some ⟨bx, 0, none⟩))))]) (fun _ => [.blk bx 78 t.row]) ?_ ?_)
  · refine R_ (E_ r_ (T_ (au_ (jc_loopS (ι := Nat) [] (fun k => k ≤ (t.modes).length ∧ ((t.modes).take k).all mdB = true) (fun k => (6, In .i64 (k : Int)) :: [(1, .cell (.val (.pointer (some ⟨bx, 0, none⟩))))]) (fun _ => [.blk bx 78 t.row]) (fun k => (t.modes).length - k) 0 ⟨Nat.zero_le _, rfl⟩ ?_ ?_ ?_))))
    · exact bc_ 0 r_ sub_end
    · (repeat (first | exact True.intro | refine ⟨rfl, ?_⟩))
    rintro k ⟨hk, hall⟩
    have eL : ((t.modes).map MdRow).length = (t.modes).length := List.length_map _
    by_cases hlt : k < (t.modes).length
    · have hlt2 : (k : Int) < (((t.modes).map MdRow).length : Int) := by omega
      refine am_ (R_ (M_ r_ (F_ r_ (L_ 0 r_ (o_ r_ (br_ r_ (fun hlen => o_ r_ (bw_ r_ r_ (T_ (aq_ r_ u_ (as_ (al_ (B_ (R_ (F_ r_ (L_ 0 r_ (M_ r_ ?_)))))))))))))))))
      refine o_ r_ (cc_ r_ r_ g_ r_ r_ b_ (o_ r_ (cr_ r_ r_ r_ (o_ r_ (bl_ r_ r_ (fun bl => S_ 0 r_ (T_ (R_ (F_ r_ (L_ 0 r_ (o_ r_ (bm_ r_ (rnameB_c _) (o_ r_ (cd_ r_ (M_ r_ (jl_or 4 4 rfl rfl rfl rfl (nb rfl) ?_))))))))))))))))
      apply Exists.intro
      refine ⟨fun hb1 => ?_, ?_⟩
      exact ah_ r_ h_ b_ (bf_ r_ r_ r_ b_ (ah_ r_ h_ b_ (bg_ 0 r_ r_ r_ r_ (ah_ r_ h_ b_ (bm_ r_ (rnameB_c _) (ah_ r_ h_ b_ (cd_ r_ (ak_ (jq_seg 4 rfl rfl rfl (List.Perm.refl _))))))))))
      refine M_ r_ (jl_or 4 10 rfl rfl rfl rfl (nb rfl) ?_)
      apply Exists.intro
      refine ⟨fun hb1 => ?_, ?_⟩
      exact ah_ r_ h_ b_ (bf_ r_ r_ r_ b_ (ah_ r_ h_ b_ (bg_ 0 r_ r_ r_ r_ (ah_ r_ h_ b_ (bm_ r_ (rsmallB_c _) (ah_ r_ h_ b_ (cd_ r_ (ak_ (jq_seg 4 rfl rfl rfl (List.Perm.refl _))))))))))
      refine M_ r_ (jl_or 4 16 rfl rfl rfl rfl (nb rfl) ?_)
      apply Exists.intro
      refine ⟨fun hb1 => ?_, ?_⟩
      exact ah_ r_ h_ b_ (bf_ r_ r_ r_ b_ (ah_ r_ h_ b_ (bg_ 0 r_ r_ r_ r_ (ah_ r_ h_ b_ (bm_ r_ (rsmallB_c _) (ah_ r_ h_ b_ (cd_ r_ (ak_ (jq_seg 4 rfl rfl rfl (List.Perm.refl _))))))))))
      refine T_ (jc_cond rfl (fun hn => ?_) (fun hy => ?_))
      · have hp : mdB (t.modes)[k] = false := by
          cases hcs : mdB (t.modes)[k] with
          | false => rfl
          | true =>
            exfalso
            try simp only [mdB, Bool.and_eq_true] at hcs
            simp [hcs] at hn
        have hno : (t.modes).all mdB = false := all_no hlt hp
        have hres : okTk t = false := by unfold okTk; simp [hno]
        refine R_ (E_ r_ (T_ (ar_ (az_ (aw_ (aw_ (az_ (aw_ (jq_ret1 rfl rfl [] rfl (fun K h => by rw [hres] at h; exact h))))))))))
      · have hp : mdB (t.modes)[k] = true := by simpa [mdB, and_assoc] using hy
        refine as_ (ay_ (al_ (an_ (M_ r_ (o_ r_ (bj_ r_ r_ g_ (E_ r_ (ak_ (jq_againS (k + 1) ⟨hlt, all_snoc hlt hall hp⟩ g_ ?_ ?_)))))))))
        · exact bc_ 1 r_ sub_end
        · (repeat (first | exact True.intro | refine ⟨rfl, ?_⟩))
    · have hlt2 : ¬ (k : Int) < (((t.modes).map MdRow).length : Int) := by omega
      refine am_ (R_ (M_ r_ (F_ r_ (L_ 0 r_ (o_ r_ (br_ r_ (fun hlen => o_ r_ (bw_ r_ r_ (T_ (ap_ r_ w_ (av_ (ax_ (ax_ (ba_ (jq_cutS () (by rw [List.take_of_length_le g_] at hall; exact hall) ?_ ?_)))))))))))))))
      · exact bc_ 0 r_ sub_end
      · (repeat (first | exact True.intro | refine ⟨rfl, ?_⟩))
  intro _ h4
  refine am_ (jc_cut (ι := Unit) [] (fun _ => (t.claims).all clB = true) (fun _ => [(1, .cell (.val (.pointer (some ⟨bx, 0, none⟩))))]) (fun _ => [.blk bx 78 t.row]) ?_ ?_)
  · refine R_ (E_ r_ (T_ (au_ (jc_loopS (ι := Nat) [] (fun k => k ≤ (t.claims).length ∧ ((t.claims).take k).all clB = true) (fun k => (8, In .i64 (k : Int)) :: [(1, .cell (.val (.pointer (some ⟨bx, 0, none⟩))))]) (fun _ => [.blk bx 78 t.row]) (fun k => (t.claims).length - k) 0 ⟨Nat.zero_le _, rfl⟩ ?_ ?_ ?_))))
    · exact bc_ 0 r_ sub_end
    · (repeat (first | exact True.intro | refine ⟨rfl, ?_⟩))
    rintro k ⟨hk, hall⟩
    have eL : ((t.claims).map ClRow).length = (t.claims).length := List.length_map _
    by_cases hlt : k < (t.claims).length
    · have hlt2 : (k : Int) < (((t.claims).map ClRow).length : Int) := by omega
      refine am_ (R_ (M_ r_ (F_ r_ (L_ 0 r_ (o_ r_ (br_ r_ (fun hlen => o_ r_ (bw_ r_ r_ (T_ (aq_ r_ u_ (as_ (al_ (B_ (R_ (F_ r_ (L_ 0 r_ (M_ r_ ?_)))))))))))))))))
      refine o_ r_ (cc_ r_ r_ g_ r_ r_ b_ (o_ r_ (cf_ r_ r_ r_ b_ r_ b_ (o_ r_ (cb_ r_ r_ (o_ r_ (bm_ r_ (rplainB_c _) (o_ r_ (cd_ r_ (M_ r_ (jl_or 8 8 rfl rfl rfl rfl (nb rfl) ?_)))))))))))
      apply Exists.intro
      refine ⟨fun hb1 => ?_, ?_⟩
      exact ah_ r_ h_ b_ (bf_ r_ r_ r_ b_ (ah_ r_ h_ b_ (bg_ 0 r_ r_ r_ r_ (ah_ r_ h_ b_ (bd_ r_ (ah_ r_ h_ b_ (cc_ r_ r_ g_ r_ r_ b_ (ah_ r_ h_ b_ (cf_ r_ r_ r_ b_ r_ b_ (ah_ r_ h_ b_ (cb_ r_ r_ (ah_ r_ h_ b_ (bm_ r_ (rplainB_c _) (ah_ r_ h_ b_ (cd_ r_ (ak_ (jq_seg 8 rfl rfl rfl (List.Perm.refl _))))))))))))))))))
      refine T_ (jc_cond rfl (fun hn => ?_) (fun hy => ?_))
      · have hp : clB (t.claims)[k] = false := by
          cases hcs : clB (t.claims)[k] with
          | false => rfl
          | true =>
            exfalso
            try simp only [clB, Bool.and_eq_true] at hcs
            simp [hcs] at hn
        have hno : (t.claims).all clB = false := all_no hlt hp
        have hres : okTk t = false := by unfold okTk; simp [hno]
        refine R_ (E_ r_ (T_ (ar_ (az_ (aw_ (aw_ (az_ (aw_ (jq_ret1 rfl rfl [] rfl (fun K h => by rw [hres] at h; exact h))))))))))
      · have hp : clB (t.claims)[k] = true := by simpa [clB, and_assoc] using hy
        refine as_ (ay_ (al_ (an_ (M_ r_ (o_ r_ (bj_ r_ r_ g_ (E_ r_ (ak_ (jq_againS (k + 1) ⟨hlt, all_snoc hlt hall hp⟩ g_ ?_ ?_)))))))))
        · exact bc_ 0 r_ sub_end
        · (repeat (first | exact True.intro | refine ⟨rfl, ?_⟩))
    · have hlt2 : ¬ (k : Int) < (((t.claims).map ClRow).length : Int) := by omega
      refine am_ (R_ (M_ r_ (F_ r_ (L_ 0 r_ (o_ r_ (br_ r_ (fun hlen => o_ r_ (bw_ r_ r_ (T_ (ap_ r_ w_ (av_ (ax_ (ax_ (ba_ (jq_cutS () (by rw [List.take_of_length_le g_] at hall; exact hall) ?_ ?_)))))))))))))))
      · exact bc_ 0 r_ sub_end
      · (repeat (first | exact True.intro | refine ⟨rfl, ?_⟩))
  intro _ h5
  have hres : okTk t = true := by unfold okTk; rw [h0, h1, h2, h3, h4, h5]; rfl
  refine R_ (E_ r_ (T_ (ar_ (jq_ret1 rfl rfl [] rfl (fun K h => by rw [hres] at h; exact h)))))
theorem rprintableB_c (p : Pg) : Con Tryd.prog 26 [.row p.row] [] (fun K => K (Bl (okPg p)) []) := by
  refine con_intro Tryd.func26 rfl rfl (Nat.le_of_ble_eq_true rfl) (fun c hc => ?_)
  skip
  refine R_ (o_ r_ (ci_ r_ (fun bx => E_ r_ (T_ (am_ (jc_cut (ι := Unit) [] (fun _ => (p.res).all nameB = true) (fun _ => [(1, .cell (.val (.pointer (some ⟨bx, 0, none⟩))))]) (fun _ => [.blk bx 33 p.row]) ?_ ?_))))))
  · refine R_ (E_ r_ (T_ (au_ (jc_loopS (ι := Nat) [] (fun k => k ≤ (p.res).length ∧ ((p.res).take k).all nameB = true) (fun k => (3, In .i64 (k : Int)) :: [(1, .cell (.val (.pointer (some ⟨bx, 0, none⟩))))]) (fun _ => [.blk bx 33 p.row]) (fun k => (p.res).length - k) 0 ⟨Nat.zero_le _, rfl⟩ ?_ ?_ ?_))))
    · exact bc_ 0 r_ sub_end
    · (repeat (first | exact True.intro | refine ⟨rfl, ?_⟩))
    rintro k ⟨hk, hall⟩
    have eL : ((p.res).map Wrow).length = (p.res).length := List.length_map _
    by_cases hlt : k < (p.res).length
    · have hlt2 : (k : Int) < (((p.res).map Wrow).length : Int) := by omega
      refine am_ (R_ (M_ r_ (F_ r_ (L_ 0 r_ (o_ r_ (br_ r_ (fun hlen => o_ r_ (bw_ r_ r_ (T_ (aq_ r_ u_ (as_ (al_ (B_ (R_ (F_ r_ (L_ 0 r_ (M_ r_ ?_)))))))))))))))))
      refine o_ r_ (cc_ r_ r_ g_ r_ r_ b_ (o_ r_ (cb_ r_ r_ (o_ r_ (bm_ r_ (rnameB_c _) (o_ r_ (cd_ r_ (T_ (jc_cond rfl (fun hn => ?_) (fun hy => ?_))))))))))
      · have hp : nameB (p.res)[k] = false := by
          cases hcs : nameB (p.res)[k] with
          | false => rfl
          | true =>
            exfalso
            skip
            simp [hcs] at hn
        have hno : (p.res).all nameB = false := all_no hlt hp
        have hres : okPg p = false := by unfold okPg; simp [hno]
        refine R_ (E_ r_ (T_ (ar_ (az_ (aw_ (aw_ (az_ (aw_ (jq_ret1 rfl rfl [] rfl (fun K h => by rw [hres] at h; exact h))))))))))
      · have hp : nameB (p.res)[k] = true := by simpa [and_assoc] using hy
        refine as_ (ay_ (al_ (an_ (M_ r_ (o_ r_ (bj_ r_ r_ g_ (E_ r_ (ak_ (jq_againS (k + 1) ⟨hlt, all_snoc hlt hall hp⟩ g_ ?_ ?_)))))))))
        · exact bc_ 0 r_ sub_end
        · (repeat (first | exact True.intro | refine ⟨rfl, ?_⟩))
    · have hlt2 : ¬ (k : Int) < (((p.res).map Wrow).length : Int) := by omega
      refine am_ (R_ (M_ r_ (F_ r_ (L_ 0 r_ (o_ r_ (br_ r_ (fun hlen => o_ r_ (bw_ r_ r_ (T_ (ap_ r_ w_ (av_ (ax_ (ax_ (ba_ (jq_cutS () (by rw [List.take_of_length_le g_] at hall; exact hall) ?_ ?_)))))))))))))))
      · exact bc_ 0 r_ sub_end
      · (repeat (first | exact True.intro | refine ⟨rfl, ?_⟩))
  intro _ h1
  refine am_ (jc_cut (ι := Unit) [] (fun _ => (p.shared).all shB = true) (fun _ => [(1, .cell (.val (.pointer (some ⟨bx, 0, none⟩))))]) (fun _ => [.blk bx 33 p.row]) ?_ ?_)
  · refine R_ (E_ r_ (T_ (au_ (jc_loopS (ι := Nat) [] (fun k => k ≤ (p.shared).length ∧ ((p.shared).take k).all shB = true) (fun k => (4, In .i64 (k : Int)) :: [(1, .cell (.val (.pointer (some ⟨bx, 0, none⟩))))]) (fun _ => [.blk bx 33 p.row]) (fun k => (p.shared).length - k) 0 ⟨Nat.zero_le _, rfl⟩ ?_ ?_ ?_))))
    · exact bc_ 0 r_ sub_end
    · (repeat (first | exact True.intro | refine ⟨rfl, ?_⟩))
    rintro k ⟨hk, hall⟩
    have eL : ((p.shared).map ShRow).length = (p.shared).length := List.length_map _
    by_cases hlt : k < (p.shared).length
    · have hlt2 : (k : Int) < (((p.shared).map ShRow).length : Int) := by omega
      refine am_ (R_ (M_ r_ (F_ r_ (L_ 0 r_ (o_ r_ (br_ r_ (fun hlen => o_ r_ (bw_ r_ r_ (T_ (aq_ r_ u_ (as_ (al_ (B_ (R_ (F_ r_ (L_ 0 r_ (M_ r_ ?_)))))))))))))))))
      refine o_ r_ (cc_ r_ r_ g_ r_ r_ b_ (o_ r_ (cr_ r_ r_ r_ (o_ r_ (bl_ r_ r_ (fun bl => S_ 0 r_ (T_ (R_ (F_ r_ (F_ r_ (L_ 0 r_ (o_ r_ (bm_ r_ (rnameB_c _) (o_ r_ (cd_ r_ (M_ r_ (jl_or 5 5 rfl rfl rfl rfl (nb rfl) ?_)))))))))))))))))
      apply Exists.intro
      refine ⟨fun hb1 => ?_, ?_⟩
      exact ah_ r_ h_ b_ (bf_ r_ r_ r_ b_ (ah_ r_ h_ b_ (bf_ r_ r_ r_ b_ (ah_ r_ h_ b_ (bg_ 0 r_ r_ r_ r_ (ah_ r_ h_ b_ (bm_ r_ (rplainB_c _) (ah_ r_ h_ b_ (cd_ r_ (ak_ (jq_seg 5 rfl rfl rfl (List.Perm.refl _))))))))))))
      refine M_ r_ (jl_or 4 12 rfl rfl rfl rfl (nb rfl) ?_)
      apply Exists.intro
      refine ⟨fun hb1 => ?_, ?_⟩
      exact ah_ r_ h_ b_ (bf_ r_ r_ r_ b_ (ah_ r_ h_ b_ (bg_ 0 r_ r_ r_ r_ (ah_ r_ h_ b_ (bm_ r_ (rnameB_c _) (ah_ r_ h_ b_ (cd_ r_ (ak_ (jq_seg 4 rfl rfl rfl (List.Perm.refl _))))))))))
      refine T_ (jc_cond rfl (fun hn => ?_) (fun hy => ?_))
      · have hp : shB (p.shared)[k] = false := by
          cases hcs : shB (p.shared)[k] with
          | false => rfl
          | true =>
            exfalso
            try simp only [shB, Bool.and_eq_true] at hcs
            simp [hcs] at hn
        have hno : (p.shared).all shB = false := all_no hlt hp
        have hres : okPg p = false := by unfold okPg; simp [hno]
        refine R_ (E_ r_ (T_ (ar_ (az_ (aw_ (aw_ (az_ (aw_ (jq_ret1 rfl rfl [] rfl (fun K h => by rw [hres] at h; exact h))))))))))
      · have hp : shB (p.shared)[k] = true := by simpa [shB, and_assoc] using hy
        refine as_ (ay_ (al_ (an_ (M_ r_ (o_ r_ (bj_ r_ r_ g_ (E_ r_ (ak_ (jq_againS (k + 1) ⟨hlt, all_snoc hlt hall hp⟩ g_ ?_ ?_)))))))))
        · exact bc_ 1 r_ sub_end
        · (repeat (first | exact True.intro | refine ⟨rfl, ?_⟩))
    · have hlt2 : ¬ (k : Int) < (((p.shared).map ShRow).length : Int) := by omega
      refine am_ (R_ (M_ r_ (F_ r_ (L_ 0 r_ (o_ r_ (br_ r_ (fun hlen => o_ r_ (bw_ r_ r_ (T_ (ap_ r_ w_ (av_ (ax_ (ax_ (ba_ (jq_cutS () (by rw [List.take_of_length_le g_] at hall; exact hall) ?_ ?_)))))))))))))))
      · exact bc_ 0 r_ sub_end
      · (repeat (first | exact True.intro | refine ⟨rfl, ?_⟩))
  intro _ h2
  refine am_ (jc_cut (ι := Unit) [] (fun _ => (p.tasks).all okTk = true) (fun _ => [(1, .cell (.val (.pointer (some ⟨bx, 0, none⟩))))]) (fun _ => [.blk bx 33 p.row]) ?_ ?_)
  · refine R_ (E_ r_ (T_ (au_ (jc_loopS (ι := Nat) [] (fun k => k ≤ (p.tasks).length ∧ ((p.tasks).take k).all okTk = true) (fun k => (6, In .i64 (k : Int)) :: [(1, .cell (.val (.pointer (some ⟨bx, 0, none⟩))))]) (fun _ => [.blk bx 33 p.row]) (fun k => (p.tasks).length - k) 0 ⟨Nat.zero_le _, rfl⟩ ?_ ?_ ?_))))
    · exact bc_ 0 r_ sub_end
    · (repeat (first | exact True.intro | refine ⟨rfl, ?_⟩))
    rintro k ⟨hk, hall⟩
    have eL : ((p.tasks).map Tk.row).length = (p.tasks).length := List.length_map _
    by_cases hlt : k < (p.tasks).length
    · have hlt2 : (k : Int) < (((p.tasks).map Tk.row).length : Int) := by omega
      refine am_ (R_ (M_ r_ (F_ r_ (L_ 0 r_ (o_ r_ (br_ r_ (fun hlen => o_ r_ (bw_ r_ r_ (T_ (aq_ r_ u_ (as_ (al_ (B_ (R_ (F_ r_ (L_ 0 r_ (M_ r_ ?_)))))))))))))))))
      refine o_ r_ (cc_ r_ r_ g_ r_ r_ b_ (o_ r_ (cr_ r_ r_ r_ (o_ r_ (bm_ r_ (rtaskB_c _) (o_ r_ (cd_ r_ (T_ (jc_cond rfl (fun hn => ?_) (fun hy => ?_))))))))))
      · have hp : okTk (p.tasks)[k] = false := by
          cases hcs : okTk (p.tasks)[k] with
          | false => rfl
          | true =>
            exfalso
            skip
            simp [hcs] at hn
        have hno : (p.tasks).all okTk = false := all_no hlt hp
        have hres : okPg p = false := by unfold okPg; simp [hno]
        refine R_ (E_ r_ (T_ (ar_ (az_ (aw_ (aw_ (az_ (aw_ (jq_ret1 rfl rfl [] rfl (fun K h => by rw [hres] at h; exact h))))))))))
      · have hp : okTk (p.tasks)[k] = true := by simpa [and_assoc] using hy
        refine as_ (ay_ (al_ (an_ (M_ r_ (o_ r_ (bj_ r_ r_ g_ (E_ r_ (ak_ (jq_againS (k + 1) ⟨hlt, all_snoc hlt hall hp⟩ g_ ?_ ?_)))))))))
        · exact bc_ 0 r_ sub_end
        · (repeat (first | exact True.intro | refine ⟨rfl, ?_⟩))
    · have hlt2 : ¬ (k : Int) < (((p.tasks).map Tk.row).length : Int) := by omega
      refine am_ (R_ (M_ r_ (F_ r_ (L_ 0 r_ (o_ r_ (br_ r_ (fun hlen => o_ r_ (bw_ r_ r_ (T_ (ap_ r_ w_ (av_ (ax_ (ax_ (ba_ (jq_cutS () (by rw [List.take_of_length_le g_] at hall; exact hall) ?_ ?_)))))))))))))))
      · exact bc_ 0 r_ sub_end
      · (repeat (first | exact True.intro | refine ⟨rfl, ?_⟩))
  intro _ h3
  have hres : okPg p = true := by unfold okPg; rw [h1, h2, h3]; rfl
  refine R_ (E_ r_ (T_ (ar_ (jq_ret1 rfl rfl [] rfl (fun K h => by rw [hres] at h; exact h)))))
end Go.Proofs.YtlniadfidfmckaaDoor
end
