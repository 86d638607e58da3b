import Derived.Test.YtccojifhaoadbaaDoorTkg
namespace Go.Proofs.YtccojifhaoadbaaDoor
open Go.Vc

/-! Words -/
/-- A token whose word is scanned to it. -/
structure Good (t : Tok) : Prop where
  next : nextT (wordT t) = ((t.kind, t.num, t.text), (wordT t).size)
  pos : 0 < (wordT t).size
  first : ¬ isW (byteAt (wordT t) 0)
theorem runLen_pre (p : Int → Bool) (x : ByteArray) (m : Nat) (h : m = runLen p x) : runLen p (x.extract 0 m) = m := by
  have hle : m ≤ x.size := by rw [h]; exact runLen_le p x
  unfold runLen at h ⊢
  rw [extract_bytes, List.drop_zero, Nat.sub_zero]
  have hall : ∀ a ∈ (bytesI x).take m, p a = true := by rw [h]; exact take_takeWhile _
  exact takeWhile_len (fun j hj _ => hall _ (List.getElem_mem hj)) (by rw [List.length_take, bytesI_len]; omega) (fun hk => by rw [List.length_take] at hk; omega)
theorem byte0_pre (x : ByteArray) (m : Nat) (h : 0 < m) : byteAt (x.extract 0 m) 0 = byteAt x 0 := by
  rw [byteAt_getD, byteAt_getD, extract_bytes, List.drop_zero, Nat.sub_zero, List.getD_eq_getElem?_getD, List.getD_eq_getElem?_getD, List.getElem?_take_of_lt h]
theorem runLen_zero {p : Int → Bool} {x : ByteArray} (hx : 0 < x.size) (h : p (byteAt x 0) = false) : runLen p x = 0 :=
  runLen_eq (fun j hj => by omega) (by omega) (fun _ => h)
theorem runLen_zero' {p : Int → Bool} {x : ByteArray} (hx : 0 < x.size) (h : runLen p x = 0) : p (byteAt x 0) = false := by
  unfold runLen at h
  have hb := bytesI_len x
  rw [byteAt_getD]
  cases he : bytesI x with
  | nil => rw [he] at hb; simp at hb; omega
  | cons a l =>
    rw [he] at h
    cases hp : p a with
    | true => simp [hp] at h
    | false => simpa using hp
theorem nameLen_zero {x : ByteArray} (h : isL (byteAt x 0) = false) : nameLen x = 0 := by
  unfold nameLen
  rw [if_neg (fun hh => by rw [h] at hh; cases hh.2)]
theorem nameLen_zero' {x : ByteArray} (hx : 0 < x.size) (h : nameLen x = 0) : isL (byteAt x 0) = false := by
  cases hl : isL (byteAt x 0) with
  | false => rfl
  | true =>
    unfold nameLen at h
    rw [if_pos ⟨hx, hl⟩] at h
    have := runLen_zero' hx h
    unfold isLD at this
    rw [hl] at this
    cases this
theorem isL_notW {n : Int} (h : isL n = true) : ¬ isW n := fun hw => by rw [(isW_not hw).2.2] at h; cases h
theorem isD_notW {n : Int} (h : isD n = true) : ¬ isW n := fun hw => by rw [(isW_not hw).2.1] at h; cases h
theorem isD_notL {n : Int} (h : isD n = true) : isL n = false := by
  unfold isD at h
  simp only [Bool.and_eq_true, decide_eq_true_eq] at h
  unfold isL
  rw [decide_eq_false (by omega)]
  rfl

/-! Digits -/
theorem bytesOf_one (n : Int) (h : 0 ≤ n ∧ n ≤ 255) : bytesI (bytesOf [n]) = [n] := by
  show [((UInt8.ofNat n.toNat).toNat : Int)] = [n]
  rw [UInt8.toNat_ofNat', Nat.mod_eq_of_lt (by omega)]
  congr 1
  omega
theorem decS_all (u : Nat) : ∀ c ∈ bytesI (decS u), isD c = true := by
  induction u using Nat.strongRecOn with
  | _ u ih =>
    have hd : ∀ m : Int, 0 ≤ m ∧ m < 10 → isD (48 + m) = true := by
      intro m hm
      unfold isD
      rw [decide_eq_true (by omega), decide_eq_true (by omega)]
      rfl
    by_cases hu : u < 10
    · rw [decS_small u hu, bytesOf_one _ (by omega)]
      intro c hc
      rw [List.mem_singleton] at hc
      subst hc
      exact hd _ (by omega)
    · rw [decS_big u hu, bytesI_app, bytesOf_one _ (by omega)]
      intro c hc
      rcases List.mem_append.1 hc with hc | hc
      · exact ih (u / 10) (by omega) c hc
      · rw [List.mem_singleton] at hc
        subst hc
        exact hd _ (by omega)
theorem decS_num (u : Nat) (hu : u ≤ 2147483647) : numVal (bytesI (decS u)) = (u : Int) := by
  induction u using Nat.strongRecOn with
  | _ u ih =>
    by_cases h : u < 10
    · rw [decS_small u h, bytesOf_one _ (by omega)]
      show min (10 * 0 + (48 + (u : Int) - 48)) 2147483648 = (u : Int)
      omega
    · rw [decS_big u h, bytesI_app, bytesOf_one _ (by omega), numVal_snoc, ih (u / 10) (by omega) (by omega)]
      omega
theorem numVal_powF : ∀ (l : List Int) (n : Int) (k : Nat), (∀ c ∈ l, isD c = true) → 0 ≤ n → n < 10 ^ k → l.foldl (fun n c => min (10 * n + (c - 48)) 2147483648) n < 10 ^ (k + l.length)
  | [], n, k, _, _, h => h
  | c :: l, n, k, hd, h0, h => by
    have h2 : isD c = true := hd c (by simp)
    simp only [isD, Bool.and_eq_true, decide_eq_true_eq] at h2
    have := numVal_powF l (min (10 * n + (c - 48)) 2147483648) (k + 1) (fun x hx => hd x (by simp [hx])) (by omega) (by rw [Int.pow_succ]; omega)
    rw [List.foldl_cons, List.length_cons, show k + (l.length + 1) = k + 1 + l.length by omega]
    exact this
theorem numVal_pow (l : List Int) (hd : ∀ c ∈ l, isD c = true) : numVal l < 10 ^ l.length := by
  have := numVal_powF l 0 0 hd (by omega) (by omega)
  rw [Nat.zero_add] at this
  exact this
theorem decS_pos (u : Nat) : 0 < (decS u).size := by
  rw [decS_size]
  exact Lib.nDigits_pos u

/-- Tokens are good, and their words not longer than what they were scanned from. -/
theorem next_good {x : ByteArray} {t : Int × Int × ByteArray} {n : Nat} (hx : 0 < x.size) (hw : ¬ isW (byteAt x 0)) (hn : nextT x = (t, n)) (h0 : n ≠ 0) (line : Int) : Good ⟨t.1, t.2.1, line, t.2.2⟩ ∧ (wordT ⟨t.1, t.2.1, line, t.2.2⟩).size ≤ n := by
  unfold nextT at hn
  split at hn
  · rename_i h1
    split at hn
    · simp only [Prod.mk.injEq] at hn; omega
    · simp only [Prod.mk.injEq] at hn
      obtain ⟨rfl, rfl⟩ := hn
      generalize hm : nameLen x = m at *
      have hle : m ≤ x.size := by rw [← hm]; exact nameLen_le x
      have hl : isL (byteAt x 0) = true := by
        cases hl : isL (byteAt x 0) with
        | true => rfl
        | false => rw [nameLen_zero hl] at hm; omega
      have hm2 : m = runLen isLD x := by rw [← hm]; unfold nameLen; rw [if_pos ⟨hx, hl⟩]
      have hsz : (x.extract 0 m).size = m := by rw [extract_size _ _ _ hle]; omega
      have hb0 := byte0_pre x m h1
      have hword : wordT ⟨1, 0, line, x.extract 0 m⟩ = x.extract 0 m := by unfold wordT; rw [if_pos (.inl rfl)]
      dsimp only
      have hnl : nameLen (x.extract 0 m) = m := by
        unfold nameLen
        rw [hsz, hb0, if_pos ⟨h1, hl⟩, runLen_pre isLD x m hm2]
      refine ⟨⟨?_, ?_, ?_⟩, ?_⟩
      · rw [hword, hsz]
        unfold nextT
        rw [hnl, if_pos h1, if_neg (by omega)]
        dsimp only
        congr 3
        have := pre_all (x.extract 0 m)
        rwa [hsz] at this
      · rw [hword, hsz]; exact h1
      · rw [hword, hb0]; exact isL_notW hl
      · rw [hword, hsz]; exact Nat.le_refl _
  · rename_i h1
    split at hn
    · rename_i h2
      split at hn
      · simp only [Prod.mk.injEq] at hn; omega
      · rename_i hg
        simp only [Prod.mk.injEq] at hn
        obtain ⟨rfl, rfl⟩ := hn
        generalize hm : runLen isD x = m at *
        have hle : m ≤ x.size := by rw [← hm]; exact runLen_le _ x
        have hdig : ∀ c ∈ bytesI (x.extract 0 m), isD c = true := by rw [← hm]; exact run_dig x
        have hlen : (bytesI (x.extract 0 m)).length = m := by rw [bytesI_len, extract_size _ _ _ hle]; omega
        have hbd := numVal_bd _ hdig
        have hpw := numVal_pow _ hdig
        rw [hlen] at hpw
        obtain ⟨u, hu⟩ : ∃ u : Nat, numVal (bytesI (x.extract 0 m)) = u := ⟨(numVal (bytesI (x.extract 0 m))).toNat, by omega⟩
        rw [hu] at hg hpw ⊢
        have hword : wordT ⟨2, (u : Int), line, ⟨#[]⟩⟩ = decS u := by
          unfold wordT
          rw [if_neg (by simp), if_pos rfl, if_neg (by dsimp only; omega)]
          rfl
        dsimp only
        have hup : u < 10 ^ m := by
          have : ((10 : Int) ^ m) = ((10 ^ m : Nat) : Int) := by simp
          omega
        have hb0 : isD (byteAt (decS u) 0) = true := by
          refine decS_all u _ ?_
          rw [← bytesI_get _ _ (decS_pos u)]
          exact List.getElem_mem _
        refine ⟨⟨?_, ?_, ?_⟩, ?_⟩
        · rw [hword]
          have hrl : runLen isD (decS u) = (decS u).size := runLen_eq (fun j hj => by rw [← bytesI_get _ _ hj]; exact decS_all u _ (List.getElem_mem _)) (Nat.le_refl _) (fun h => by omega)
          unfold nextT
          rw [nameLen_zero (isD_notL hb0), if_neg (by omega), hrl, if_pos (decS_pos u), pre_all, decS_num u (by omega), if_neg (by omega)]
        · rw [hword]; exact decS_pos u
        · rw [hword]; exact isD_notW hb0
        · rw [hword, decS_size]
          exact nDigits_le m u h2 hup
    · rename_i h2
      simp only [Prod.mk.injEq] at hn
      obtain ⟨rfl, rfl⟩ := hn
      have hm : signLen x = signLen x := rfl
      generalize hmm : signLen x = m at *
      have hle : m ≤ x.size := by rw [← hmm]; exact signLen_le x
      have hm0 : 0 < m := by omega
      have hsz : (x.extract 0 m).size = m := by rw [extract_size _ _ _ hle]; omega
      have hb0 := byte0_pre x m hm0
      have hL : isL (byteAt x 0) = false := nameLen_zero' hx (by omega)
      have hD : isD (byteAt x 0) = false := runLen_zero' hx (by omega)
      have hword : wordT ⟨3, 0, line, x.extract 0 m⟩ = x.extract 0 m := by unfold wordT; rw [if_pos (.inr rfl)]
      have hself : (x.extract 0 m).extract 0 m = x.extract 0 m := by
        have := pre_all (x.extract 0 m)
        rwa [hsz] at this
      have hsl : signLen (x.extract 0 m) = m := by
        unfold signLen at hmm
        split at hmm
        · rename_i hc
          subst hmm
          unfold signLen
          rw [hsz, hself, if_pos ⟨Nat.le_refl _, hc.2⟩]
        · split at hmm
          · rename_i hc
            subst hmm
            unfold signLen
            rw [hsz, hself, if_neg (by omega), if_pos ⟨Nat.le_refl _, hc.2⟩]
          · omega
      dsimp only
      refine ⟨⟨?_, ?_, ?_⟩, ?_⟩
      · rw [hword, hsz]
        unfold nextT
        rw [nameLen_zero (by rw [hb0]; exact hL), if_neg (by omega), runLen_zero (by omega) (by rw [hb0]; exact hD), if_neg (by omega), hsl, hself]
      · rw [hword, hsz]; exact hm0
      · rw [hword, hb0]; exact hw
      · rw [hword, hsz]; exact Nat.le_refl _

/-! Scans up to lines -/
abbrev strip (t : Tok) : Int × Int × ByteArray := (t.kind, t.num, t.text)
def PX (x : ByteArray) (L : List (Int × Int × ByteArray)) : Prop := ∀ line, ∃ l, SC x line l ∧ l.map strip = L
theorem px_nil {x : ByteArray} (h : x.size = 0) : PX x [] := fun _ => ⟨[], .nil h, rfl⟩
theorem px_of {x : ByteArray} {line : Int} {l : List Tok} (h : SC x line l) : PX x (l.map strip) := by
  induction h with
  | nil h0 => exact px_nil h0
  | nl h0 hb _ ih =>
    intro line
    obtain ⟨l, hs, e⟩ := ih (line + 1)
    exact ⟨l, .nl h0 hb hs, e⟩
  | sp h0 hb _ ih =>
    intro line
    obtain ⟨l, hs, e⟩ := ih line
    exact ⟨l, .sp h0 hb hs, e⟩
  | tok h0 hb hn hne _ ih =>
    intro line
    obtain ⟨l, hs, e⟩ := ih line
    exact ⟨_ :: l, .tok h0 hb hn hne hs, by rw [List.map_cons, e]; rfl⟩
/-- A text of blanks alone. -/
def blanks (b : ByteArray) : Prop := ∀ c ∈ bytesI b, isW c
theorem px_front : ∀ (m : Nat) (b x : ByteArray) (L : List (Int × Int × ByteArray)), b.size = m → blanks b → PX x L → PX (b ++ x) L
  | 0, b, x, L, hm, _, h => by
    have : b = ⟨#[]⟩ := (empty_iff b).2 hm
    rw [this, show (⟨#[]⟩ : ByteArray) ++ x = x from bytesI_inj (by rw [bytesI_app]; rfl)]
    exact h
  | m + 1, b, x, L, hm, hb, h => by
    have hb0 : isW (byteAt b 0) := by
      rw [← bytesI_get b 0 (by omega)]
      exact hb _ (List.getElem_mem _)
    have ih := px_front m (b.extract 1 b.size) x L (by rw [size0]; omega) (fun c hc => hb c (by rw [bytesI_full] at hc; exact List.mem_of_mem_drop hc)) h
    have e : (b ++ x).extract 1 (b ++ x).size = b.extract 1 b.size ++ x := ext_app b x 1 (by omega)
    intro line
    by_cases h10 : byteAt b 0 = 10
    · obtain ⟨l, hs, el⟩ := ih (line + 1)
      exact ⟨l, .nl (by rw [ByteArray.size_append]; omega) (by rw [byteAt_app _ _ _ (by omega)]; exact h10) (by rw [e]; exact hs), el⟩
    · obtain ⟨l, hs, el⟩ := ih line
      exact ⟨l, .sp (by rw [ByteArray.size_append]; omega) (by rw [byteAt_app _ _ _ (by omega)]; unfold isW at hb0; omega) (by rw [e]; exact hs), el⟩
theorem px_blank {b x : ByteArray} {L : List (Int × Int × ByteArray)} (hb : blanks b) (h : PX x L) : PX (b ++ x) L := px_front b.size b x L rfl hb h
theorem px_word {t : Tok} (hg : Good t) {r : ByteArray} {L : List (Int × Int × ByteArray)} (hr : blankLed r) (h : PX r L) : PX (wordT t ++ r) (strip t :: L) := by
  intro line
  obtain ⟨l, hs, e⟩ := h line
  have hp := hg.pos
  refine ⟨_ :: l, .tok (t := strip t) (n := (wordT t).size) (by rw [ByteArray.size_append]; omega) (by rw [byteAt_app _ _ _ hp]; exact hg.first) (by rw [next_blank _ _ hp hr]; exact hg.next) (by omega) (by rw [ext_app_right]; exact hs), by rw [List.map_cons, e]⟩
theorem px_back {x : ByteArray} {line : Int} {l : List Tok} (h : SC x line l) {b : ByteArray} (hb : blanks b) : SC (x ++ b) line l := by
  have hled : blankLed b := by
    by_cases h0 : b.size = 0
    · exact .inl h0
    · refine .inr ?_
      rw [← bytesI_get b 0 (by omega)]
      exact hb _ (List.getElem_mem _)
  induction h with
  | @nil x line h0 =>
    have hx : x = ⟨#[]⟩ := (empty_iff x).2 h0
    rw [hx, show (⟨#[]⟩ : ByteArray) ++ b = b ++ ⟨#[]⟩ from bytesI_inj (by rw [bytesI_app, bytesI_app, show bytesI ⟨#[]⟩ = [] from rfl, List.nil_append, List.append_nil])]
    obtain ⟨l, hs, e⟩ := px_blank hb (px_nil (x := ⟨#[]⟩) rfl) line
    rw [List.map_eq_nil_iff.1 e] at hs
    exact hs
  | @nl x line l h0 hb0 _ ih => exact .nl (by rw [ByteArray.size_append]; omega) (by rw [byteAt_app _ _ _ h0]; exact hb0) (by rw [ext_app _ _ _ (by omega)]; exact ih)
  | @sp x line l h0 hb0 _ ih => exact .sp (by rw [ByteArray.size_append]; omega) (by rw [byteAt_app _ _ _ h0]; exact hb0) (by rw [ext_app _ _ _ (by omega)]; exact ih)
  | @tok x line l t n h0 hb0 hn hne _ ih =>
    have hle := nextT_le x
    rw [hn] at hle
    exact .tok (by rw [ByteArray.size_append]; omega) (by rw [byteAt_app _ _ _ h0]; exact hb0) (by rw [next_blank _ _ h0 hled]; exact hn) hne (by rw [ext_app _ _ _ hle]; exact ih)

/-! What is known of the tokens of a scan -/
def wsum : List Tok → Nat
  | [] => 0
  | t :: l => (wordT t).size + 1 + wsum l
theorem sc_good {x : ByteArray} {line : Int} {l : List Tok} (h : SC x line l) : (∀ t ∈ l, Good t) ∧ wsum l ≤ 2 * x.size ∧ (∀ t ∈ l, line ≤ t.line) ∧ l.Pairwise (fun a b => a.line ≤ b.line) := by
  induction h with
  | nil h0 => exact ⟨by simp, by simp [wsum], by simp, .nil⟩
  | nl h0 _ _ ih =>
    obtain ⟨a, b, c, d⟩ := ih
    rw [size0] at b
    exact ⟨a, by omega, fun t ht => by have := c t ht; omega, d⟩
  | sp h0 _ _ ih =>
    obtain ⟨a, b, c, d⟩ := ih
    rw [size0] at b
    exact ⟨a, by omega, c, d⟩
  | @tok x line l t n h0 hb hn hne _ ih =>
    obtain ⟨a, b, c, d⟩ := ih
    rw [size0] at b
    obtain ⟨g, hs⟩ := next_good h0 hb hn hne line
    have hle := nextT_le x
    rw [hn] at hle
    dsimp only at hle
    refine ⟨fun t' ht => ?_, ?_, fun t' ht => ?_, List.pairwise_cons.2 ⟨fun t' ht => c t' ht, d⟩⟩
    · rcases List.mem_cons.1 ht with rfl | ht
      · exact g
      · exact a t' ht
    · simp only [wsum]; omega
    · rcases List.mem_cons.1 ht with rfl | ht
      · exact Int.le_refl _
      · exact c t' ht
theorem sameL_strip {l m : List Tok} (h : l.map strip = m.map strip) : sameL false l m = true := by
  have hlen : l.length = m.length := by have := congrArg List.length h; simpa using this
  refine sameL_yes hlen (fun j h1 h2 => ?_)
  have := congrArg (·[j]?) h
  simp only [List.getElem?_map, List.getElem?_eq_getElem h1, List.getElem?_eq_getElem h2, Option.map_some, Option.some.injEq, Prod.mk.injEq] at this
  obtain ⟨e1, e2, e3⟩ := this
  unfold sameTok
  rw [decide_eq_true e1, decide_eq_true e2, decide_eq_true e3]
  rfl
end Go.Proofs.YtccojifhaoadbaaDoor
