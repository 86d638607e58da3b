import Derived.Test.YtlniadfidfmckaaGreatDoorMq4
import Derived.Lib.AppendZerosOnto
import Derived.Lib.Builder
import Derived.Lib.UnsafeStr
import Derived.Laws.Externs
import Derived.Test.YtlniadfidfmckaaGreatDoorProg
import Derived.Shelf.Strings.OnBuilder
import Derived.Shelf.Strings.Repeat
section
namespace Go.Proofs.YtlniadfidfmckaaGreatDoor
open Go.Vc
set_option maxHeartbeats 1000000

theorem kw_ne {s k : ByteArray} (h : hasW s = false) (hk : hasW k = true) : s ≠ k := fun e => by rw [e, hk] at h; cases h
variable {l : List Tok}
theorem isA_w {a : Nat} {s : ByteArray} {R : List TK} (h : Hs l a (wT s :: R)) (w : ByteArray) : isA l a w = decide (s = w) := by rw [(hs_num h).2.2.2.1]; rfl
theorem isA_s {a : Nat} {c : UInt8} {R : List TK} (h : Hs l a (sgT c :: R)) (w : ByteArray) : isA l a w = decide ((⟨#[c]⟩ : ByteArray) = w) := by rw [(hs_num h).2.2.2.1]; rfl
theorem isA_n {a : Nat} {n : Int} {R : List TK} (h : Hs l a (nT n :: R)) (w : ByteArray) : isA l a w = false := by rw [(hs_num h).2.2.2.1]; rfl
theorem isNm_w {a : Nat} {s : ByteArray} {R : List TK} (h : Hs l a (wT s :: R)) : isNm l a = !hasW s := by rw [(hs_num h).2.2.2.2.1]; rfl
theorem isNm_s {a : Nat} {c : UInt8} {R : List TK} (h : Hs l a (sgT c :: R)) : isNm l a = false := by rw [(hs_num h).2.2.2.2.1]; rfl
theorem wdG_w {a : Nat} {s : ByteArray} {R : List TK} (h : Hs l a (wT s :: R)) : wdG l s a = .ok () (a + 1) := by
  unfold wdG
  rw [isA_w h, decide_eq_true rfl, if_pos rfl]
theorem wdG_s {a : Nat} {c : UInt8} {R : List TK} (h : Hs l a (sgT c :: R)) : wdG l (⟨#[c]⟩ : ByteArray) a = .ok () (a + 1) := by
  unfold wdG
  rw [isA_s h, decide_eq_true rfl, if_pos rfl]
theorem nmG_w {a : Nat} {s : ByteArray} {R : List TK} (h : Hs l a (wT s :: R)) (hs : hasW s = false) : nmG l a = .ok s (a + 1) := by
  unfold nmG
  rw [isNm_w h, hs, (hs_num h).2.2.1]
  rfl
theorem nuG_n {a : Nat} {n : Int} {R : List TK} (h : Hs l a (nT n :: R)) : nuG l a = .ok n (a + 1) := by
  unfold nuG
  rw [(hs_num h).1, if_pos (by decide), (hs_num h).2.1]
theorem nbG_n {a : Nat} {n : Int} {R : List TK} (hn : -2147483647 ≤ n ∧ n ≤ 2147483647) (h : Hs l a (nbT n ++ R)) : nbG l a = .ok n (a + (nbT n).length) := by
  unfold nbG
  unfold nbT at h ⊢
  by_cases h0 : n < 0
  · rw [if_pos h0] at h ⊢
    rw [isA_s h, if_pos (by decide), nuG_n h.cons.2]
    show Go.Proofs.YtlniadfidfmckaaGreatDoor.R.ok (ngI (-n)) (a + 1 + 1) = _
    congr 1
    unfold ngI
    rw [Int.neg_neg]
    simp [IntKind.wrap, IntKind.bits, IntKind.signed, IntKind.min, IntKind.max]
    omega
  · rw [if_neg h0] at h ⊢
    rw [isA_n h, if_neg (by decide), nuG_n h]
    rfl
/-- What may stand behind an expression. -/
def Nx (x : TK) : Prop := (∃ s, x = wT s ∧ isName s = true) ∨ x = sgT 93 ∨ x = sgT 125
theorem Nx.w {s : ByteArray} (h : isName s = true) : Nx (wT s) := .inl ⟨s, rfl, h⟩
theorem Nx.noOp {x : TK} {b : Nat} {R : List TK} (hx : Nx x) (h : Hs l b (x :: R)) : NoOp l b ∧ isA l b W91 = false := by
  rcases hx with ⟨s, rfl, hs⟩ | rfl | rfl
  · refine ⟨fun j _ => ?_, ?_⟩
    · rw [(hs_num h).2.2.2.2.2]
      exact if_neg (fun h => by have := h.1; omega)
    · rw [isA_w h]
      refine decide_eq_false (fun e => ?_)
      have := (isName_parts hs).2.2.2
      rw [e] at this
      exact absurd this (by decide)
  · exact ⟨noOp_sg (.inr rfl) h, by rw [isA_s h]; decide⟩
  · refine ⟨fun j hj => ?_, by rw [isA_s h]; decide⟩
    rw [(hs_num h).2.2.2.2.2]
    refine if_neg (fun h => ?_)
    have : j = 0 ∨ j = 1 ∨ j = 2 := by omega
    rcases this with rfl | rfl | rfl <;> exact absurd h.2 (by decide)
theorem toks_dp : ∀ t : T, t.dep ≤ (toksT t).length
  | .nu n => by have := toks_len (.nu n); simp only [T.dep]; omega
  | .nm s => by simp [T.dep, toksT]
  | .ix s t => by
    have := toks_dp t
    simp only [T.dep, toksT, List.length_cons, List.length_append, List.length_nil]
    omega
  | .bn o a b => by
    have h1 := toks_dp a
    have h2 := toks_dp b
    simp only [T.dep, toksT, List.length_cons, List.length_append, List.length_nil]
    omega
theorem Hs.len {a : Nat} {L : List TK} (h : Hs l a L) (h0 : 0 < L.length) : a + L.length = l.length := by
  unfold Hs at h
  have := congrArg List.length h
  rw [List.length_map, List.length_drop] at this
  omega
theorem exG_t {t : T} {a : Nat} {x : TK} {R : List TK} (ht : t.ok) (hd : t.dep ≤ 8) (h : Hs l a (toksT t ++ x :: R)) (hx : Nx x) : exG l a = .ok t (a + (toksT t).length) ∧ Hs l (a + (toksT t).length) (x :: R) := by
  have h2 := h.app
  obtain ⟨n1, n2⟩ := hx.noOp h2
  have hl := h.len (by rw [List.length_append, List.length_cons]; omega)
  rw [List.length_append, List.length_cons] at hl
  have hdp := toks_dp t
  have h3 := sx_toks (fr := false) t (5 * l.length) a (x :: R) ht (.inr hd) h n2 (by omega)
  have h4 := sx_ups 3 0 _ rfl h3 (fun j _ hj => n1 j hj)
  exact ⟨h4, h2⟩
theorem Fm.ex {t : T} (ht : Fm t) {a : Nat} {x : TK} {R : List TK} (h : Hs l a (toksT t ++ x :: R)) (hx : Nx x) : exG l a = .ok t (a + (toksT t).length) ∧ Hs l (a + (toksT t).length) (x :: R) := exG_t ht.1 (Nat.le_trans ht.2 (by decide)) h hx

/-- What may stand behind a statement. -/
def Fo (R : List TK) : Prop := ∃ x R', R = x :: R' ∧ Nx x ∧ x ≠ wT Kelse
theorem wT_ne {s t : ByteArray} (h : s ≠ t) : wT s ≠ wT t := fun e => h (by injection e with _ e; injection e)
theorem fo_st : ∀ {n : Nat} {s : Sm} (R : List TK), mdS n s → Fo (tkS s ++ R)
  | 0, _, _, h => h.elim
  | n + 1, s, R, h => by
    unfold mdS at h
    rcases h with ⟨v, x, hv, hx, rfl⟩ | ⟨v, y, x, hv, hy, hx, rfl⟩ | ⟨x, lab, t, e, hx, hl, ht, he, rfl⟩ | ⟨x, mx, lab, t, hx, hm, hl, ht, rfl⟩ | ⟨v, t, hv, ht, rfl⟩
    · rw [tkS_1]; exact ⟨_, _, rfl, .w hv.1, wT_ne (kw_ne hv.2 (by decide +kernel))⟩
    · rw [tkS_2]; exact ⟨_, _, rfl, .w hv.1, wT_ne (kw_ne hv.2 (by decide +kernel))⟩
    · rw [tkS_3]; exact ⟨_, _, rfl, .w (by decide +kernel), wT_ne (by decide)⟩
    · rw [tkS_4]; exact ⟨_, _, rfl, .w (by decide +kernel), wT_ne (by decide)⟩
    · rw [tkS_5]; exact ⟨_, _, rfl, .w (by decide +kernel), wT_ne (by decide)⟩
theorem start_st : ∀ {n : Nat} {s : Sm} {a : Nat} {R : List TK}, mdS n s → Hs l a (tkS s ++ R) → startA l a = true
  | 0, _, _, _, h, _ => h.elim
  | n + 1, s, a, R, h, hs => by
    unfold mdS at h
    unfold startA
    rcases h with ⟨v, x, hv, hx, rfl⟩ | ⟨v, y, x, hv, hy, hx, rfl⟩ | ⟨x, lab, t, e, hx, hl, ht, he, rfl⟩ | ⟨x, mx, lab, t, hx, hm, hl, ht, rfl⟩ | ⟨v, t, hv, ht, rfl⟩
    · rw [tkS_1] at hs; rw [isNm_w hs, hv.2]; simp
    · rw [tkS_2] at hs; rw [isNm_w hs, hv.2]; simp
    · rw [tkS_3] at hs; rw [isA_w hs]; simp
    · rw [tkS_4] at hs; rw [isA_w hs, isA_w hs]; simp
    · rw [tkS_5] at hs; rw [isA_w hs, isA_w hs, isA_w hs]; simp
/-- What ends a list of statements. -/
def Sto (x : TK) : Prop := x = sgT 125 ∨ x = wT Kend
theorem Sto.no {x : TK} {a : Nat} {R : List TK} (hx : Sto x) (h : Hs l a (x :: R)) : startA l a = false := by
  unfold startA
  rcases hx with rfl | rfl
  · rw [isA_s h, isA_s h, isA_s h, isNm_s h]; decide
  · rw [isA_w h, isA_w h, isA_w h, isNm_w h]; decide +kernel
theorem Sto.fo {x : TK} {R : List TK} (hx : Sto x) : Fo (x :: R) := by
  rcases hx with rfl | rfl
  · exact ⟨_, _, rfl, .inr (.inr rfl), by decide⟩
  · exact ⟨_, _, rfl, .w (by decide +kernel), wT_ne (by decide)⟩
theorem no_else {x : TK} {b : Nat} {R : List TK} (hx : Nx x) (hne : x ≠ wT Kelse) (h : Hs l b (x :: R)) : isA l b Kelse = false := by
  rcases hx with ⟨s, rfl, _⟩ | rfl | rfl
  · rw [isA_w h]
    exact decide_eq_false (fun e => hne (by rw [e]))
  · rw [isA_s h]; decide
  · rw [isA_s h]; decide
theorem tkS_pos : ∀ s : Sm, 1 ≤ (tkS s).length
  | .mk k nm i v m lb t e => by
    rw [tkS]
    split
    · simp
    split
    · simp
    split
    · simp
    split <;> simp
theorem sts_parse_of {n F w : Nat} (hw : w ≤ 7) (h : ∀ s, mdS n s → ∀ (a : Nat) (R : List TK), (tkS s).length ≤ F → Hs l a (tkS s ++ R) → Fo R → stmtG l F w a = .ok s (a + (tkS s).length)) :
    ∀ (ss : List Sm) (N a : Nat) (acc : List Sm) (x : TK) (R : List TK), (∀ s ∈ ss, mdS n s) → (tkSs ss).length ≤ N → (tkSs ss).length ≤ F → Hs l a (tkSs ss ++ x :: R) → Sto x → stmtsL l (stmtG l F w) w N a acc = .ok (acc ++ ss) (a + (tkSs ss).length)
  | [], N, a, acc, x, R, _, _, _, hs, hx => by
    rw [tkSs, List.nil_append] at hs
    cases N with
    | zero => rw [stmtsL, List.append_nil]; rfl
    | succ N => rw [stmtsL, if_neg (by rw [hx.no hs]; decide), List.append_nil]; rfl
  | s :: ss, N, a, acc, x, R, hm, hN, hF, hs, hx => by
    have hp := tkS_pos s
    rw [tkSs, List.length_append] at hN hF
    rw [tkSs, List.append_assoc] at hs
    have hm1 := hm s (by simp)
    have hfo : Fo (tkSs ss ++ x :: R) := by
      cases ss with
      | nil => exact hx.fo
      | cons s2 ss => rw [tkSs, List.append_assoc]; exact fo_st _ (hm s2 (by simp))
    obtain ⟨N, rfl⟩ : ∃ N', N = N' + 1 := ⟨N - 1, by omega⟩
    rw [stmtsL, if_pos (start_st hm1 hs), if_neg (by omega), h s hm1 a _ (by omega) hs hfo]
    show stmtsL l (stmtG l F w) w N (a + (tkS s).length) (acc ++ [s]) = _
    rw [sts_parse_of hw h ss N _ _ x R (fun t ht => hm t (by simp [ht])) (by omega) (by omega) hs.app hx, List.append_assoc, tkSs, List.length_append, Nat.add_assoc]
    rfl
theorem blk_parse {n F w N : Nat} (hw : w ≤ 7) (h : ∀ s, mdS n s → ∀ (a : Nat) (R : List TK), (tkS s).length ≤ F → Hs l a (tkS s ++ R) → Fo R → stmtG l F w a = .ok s (a + (tkS s).length))
    (ss : List Sm) (a : Nat) (R : List TK) (hm : ∀ s ∈ ss, mdS n s) (hN : (tkSs ss).length ≤ N) (hF : (tkSs ss).length ≤ F) (hs : Hs l a (sgT 123 :: (tkSs ss ++ sgT 125 :: R))) : blkG l (stmtG l F w) w N a = .ok ss (a + 1 + (tkSs ss).length + 1) ∧ Hs l (a + 1 + (tkSs ss).length + 1) R := by
  have h1 := hs.cons.2
  have h2 := h1.app
  refine ⟨?_, h2.cons.2⟩
  unfold blkG
  rw [wdG_s hs]
  show (stmtsL l (stmtG l F w) w N (a + 1) []).bind _ = _
  rw [sts_parse_of hw h ss N (a + 1) [] (sgT 125) R hm hN hF h1 (.inl rfl)]
  show (wdG l Kcb (a + 1 + (tkSs ss).length)).bind _ = _
  rw [wdG_s h2]
  rfl
theorem st_parse : ∀ (n : Nat) (s : Sm), mdS n s → ∀ (F w a : Nat) (R : List TK), n + w ≤ 7 → (tkS s).length ≤ F → Hs l a (tkS s ++ R) → Fo R → stmtG l F w a = .ok s (a + (tkS s).length)
  | 0, _, h, _, _, _, _, _, _, _, _ => h.elim
  | n + 1, s, h, F, w, a, R, hw, hF, hs, hR => by
    have hp := tkS_pos s
    obtain ⟨F, rfl⟩ : ∃ F', F = F' + 1 := ⟨F - 1, by omega⟩
    have ih := blk_parse (l := l) (n := n) (F := F) (w := w + 1) (N := F) (by omega) (fun s hs a R h1 h2 h3 => st_parse n s hs F (w + 1) a R (by omega) h1 h2 h3)
    obtain ⟨x0, R0, rfl, hx0, hne⟩ := hR
    unfold mdS at h
    rw [stmtG]
    rcases h with ⟨v, x, hv, hx, rfl⟩ | ⟨v, y, x, hv, hy, hx, rfl⟩ | ⟨x, lab, t, e, hx, hl, ht, he, rfl⟩ | ⟨x, mx, lab, t, hx, hm, hl, ht, rfl⟩ | ⟨v, t, hv, ht, rfl⟩
    · rw [tkS_1] at hs ⊢
      simp only [txK, List.cons_append] at hs ⊢
      have h1 := hs.cons.2
      have h2 := h1.cons.2
      obtain ⟨h3, _⟩ := hx.ex h2 hx0
      rw [isA_w hs, if_neg (by simpa using kw_ne hv.2 (by decide +kernel)), isA_w hs, if_neg (by simpa using kw_ne hv.2 (by decide +kernel)), isA_w hs, if_neg (by simpa using kw_ne hv.2 (by decide +kernel)), nmG_w hs hv.2]
      show (if isA l (a + 1) W91 = true then _ else _) = _
      rw [isA_s h1, if_neg (by decide), wdG_s h1]
      show (exG l (a + 1 + 1)).bind _ = _
      rw [h3]
      simp only [R.bind, List.length_cons]
      congr 1
      omega
    · rw [tkS_2] at hs ⊢
      simp only [txK, List.cons_append, List.append_assoc] at hs ⊢
      have h1 := hs.cons.2
      have h2 := h1.cons.2
      obtain ⟨h3, h4⟩ := hy.ex h2 (.inr (.inl rfl))
      have h5 := h4.cons.2
      have h6 := h5.cons.2
      obtain ⟨h7, _⟩ := hx.ex h6 hx0
      rw [isA_w hs, if_neg (by simpa using kw_ne hv.2 (by decide +kernel)), isA_w hs, if_neg (by simpa using kw_ne hv.2 (by decide +kernel)), isA_w hs, if_neg (by simpa using kw_ne hv.2 (by decide +kernel)), nmG_w hs hv.2]
      show (if isA l (a + 1) W91 = true then _ else _) = _
      rw [isA_s h1, if_pos (by decide), h3]
      show (wdG l W93 _).bind _ = _
      rw [wdG_s h4]
      show (wdG l Keq _).bind _ = _
      rw [wdG_s h5]
      show (exG l _).bind _ = _
      rw [h7]
      simp only [R.bind, List.length_cons, List.length_append]
      congr 1
      omega
    · rw [tkS_3] at hs hF ⊢
      simp only [txK, List.cons_append, List.append_assoc] at hs ⊢
      simp only [txK, List.length_cons, List.length_append] at hF
      have h1 := hs.cons.2
      obtain ⟨h2, h3⟩ := hx.ex h1 (.w (by decide +kernel))
      have h4 := h3.cons.2
      have h5 := h4.cons.2
      rw [isA_w hs, if_pos (by decide), h2]
      show (wdG l Klabel _).bind _ = _
      rw [wdG_w h3]
      show (nuG l _).bind _ = _
      rw [nuG_n h4]
      simp only [R.bind]
      by_cases h0 : e = []
      · rw [if_pos h0] at h5 hF ⊢
        simp only [List.nil_append, List.length_nil] at h5 hF ⊢
        obtain ⟨h6, h7⟩ := ih t _ _ ht (by omega) (by omega) h5
        rw [h6]
        simp only
        rw [no_else hx0 hne h7, if_neg (by decide), h0]
        congr 1
        simp only [List.length_cons, List.length_append, List.length_nil]
        omega
      · rw [if_neg h0] at h5 hF ⊢
        simp only [List.cons_append, List.append_assoc, List.nil_append, List.length_cons, List.length_append, List.length_nil] at h5 hF ⊢
        obtain ⟨h6, h7⟩ := ih t _ _ ht (by omega) (by omega) h5
        rw [h6]
        simp only
        rw [isA_w h7, if_pos (by decide)]
        obtain ⟨h8, h9⟩ := ih e _ _ he (by omega) (by omega) h7.cons.2
        rw [h8]
        simp only
        congr 1
        omega
    · rw [tkS_4] at hs hF ⊢
      simp only [txK, List.cons_append, List.append_assoc, List.nil_append] at hs ⊢
      simp only [txK, List.length_cons, List.length_append] at hF
      have h1 := hs.cons.2
      obtain ⟨h2, h3⟩ := hx.ex h1 (.w (by decide +kernel))
      have h4 := h3.cons.2
      have h5 := h4.cons.2
      have h6 := h5.cons.2
      have h7 := h6.cons.2
      rw [isA_w hs, if_neg (by decide), isA_w hs, if_pos (by decide), h2]
      show (wdG l Kmax _).bind _ = _
      rw [wdG_w h3]
      show (nuG l _).bind _ = _
      rw [nuG_n h4]
      show (wdG l Klabel _).bind _ = _
      rw [wdG_w h5]
      show (nuG l _).bind _ = _
      rw [nuG_n h6]
      simp only [R.bind]
      obtain ⟨h8, h9⟩ := ih t _ _ ht (by omega) (by omega) h7
      rw [h8]
      simp only
      congr 1
      simp only [List.length_cons, List.length_append, List.length_nil]
      omega
    · rw [tkS_5] at hs hF ⊢
      simp only [List.cons_append, List.append_assoc, List.nil_append] at hs ⊢
      simp only [List.length_cons, List.length_append] at hF
      have h1 := hs.cons.2
      have h2 := h1.cons.2
      rw [isA_w hs, if_neg (by decide), isA_w hs, if_neg (by decide), isA_w hs, if_pos (by decide), nmG_w h1 hv.2]
      simp only [R.bind]
      obtain ⟨h8, h9⟩ := ih t _ _ ht (by omega) (by omega) h2
      rw [h8]
      simp only
      congr 1
      simp only [List.length_cons, List.length_append, List.length_nil]
      omega

theorem lpG_t {α : Type} {kw : ByteArray} {one : Nat → R α} {g K : α → List TK} (hK : ∀ x, K x = wT kw :: g x) : ∀ {xs : List α} {N a : Nat} {acc : List α} {M : List TK}, (∀ x ∈ xs, ∀ (a : Nat) (M : List TK), Hs l a (g x ++ M) → one a = .ok x (a + (g x).length)) → xs.length ≤ N → Hs l a (catK K xs ++ M) → (∀ b, Hs l b M → isA l b kw = false) → lpG l kw one N a acc = .ok (acc ++ xs) (a + (catK K xs).length) ∧ Hs l (a + (catK K xs).length) M
  | [], N, a, acc, M, _, _, hs, hM => by
    rw [catK, List.nil_append] at hs
    refine ⟨?_, hs⟩
    cases N with
    | zero => rw [lpG, List.append_nil]; rfl
    | succ N => rw [lpG, hM a hs, if_neg (by decide), List.append_nil]; rfl
  | x :: xs, N, a, acc, M, h, hN, hs, hM => by
    rw [List.length_cons] at hN
    obtain ⟨N, rfl⟩ : ∃ N', N = N' + 1 := ⟨N - 1, by omega⟩
    rw [catK, hK, List.append_assoc, List.cons_append] at hs
    have h1 := hs.cons.2
    obtain ⟨h2, h3⟩ := lpG_t hK (xs := xs) (N := N) (a := a + 1 + (g x).length) (acc := acc ++ [x]) (M := M) (fun y hy => h y (by simp [hy])) (by omega) h1.app hM
    have e : a + (catK K (x :: xs)).length = a + 1 + (g x).length + (catK K xs).length := by
      rw [catK, hK, List.length_append, List.length_cons]
      omega
    rw [e]
    refine ⟨?_, h3⟩
    rw [lpG, isA_w hs, if_pos (by simp), h x (by simp) _ _ h1]
    show lpG l kw one N (a + 1 + (g x).length) (acc ++ [x]) = _
    rw [h2, List.append_assoc]
    rfl
theorem cat_len {α : Type} {K : α → List TK} : ∀ {xs : List α}, (∀ x ∈ xs, 1 ≤ (K x).length) → xs.length ≤ (catK K xs).length
  | [], _ => Nat.zero_le _
  | x :: xs, h => by
    have h1 := h x (by simp)
    have h2 := cat_len (xs := xs) (fun y hy => h y (by simp [hy]))
    rw [catK, List.length_append, List.length_cons]
    omega
/-- A list of tokens that is empty or begins with one of some words. -/
def Hd (S : List ByteArray) (M : List TK) : Prop := M = [] ∨ ∃ s M', s ∈ S ∧ M = wT s :: M'
theorem Hd.cat {S : List ByteArray} {M : List TK} (h : Hd S M) {α : Type} {kw : ByteArray} {g K : α → List TK} (hK : ∀ x, K x = wT kw :: g x) {xs : List α} (hk : kw ∈ S) : Hd S (catK K xs ++ M) := by
  cases xs with
  | nil => exact h
  | cons x xs => rw [catK, hK, List.append_assoc, List.cons_append]; exact .inr ⟨kw, _, hk, rfl⟩
theorem Hd.mono {S S' : List ByteArray} {M : List TK} (h : Hd S M) (hs : ∀ s ∈ S, s ∈ S') : Hd S' M := h.imp id (fun ⟨s, M', h1, h2⟩ => ⟨s, M', hs s h1, h2⟩)
theorem Hd.no {S : List ByteArray} {M : List TK} (h : Hd S M) {kw : ByteArray} (hk : (S.any fun s => decide (s = kw)) = false) (b : Nat) (hs : Hs l b M) : isA l b kw = false := by
  rcases h with rfl | ⟨s, M', h1, rfl⟩
  · exact (hs_end hs).2 kw
  · rw [isA_w hs]
    have := List.any_eq_false.1 hk s h1
    simpa using this
theorem in_t {x : Inp} (h : inB x = true) (a : Nat) (M : List TK) (hs : Hs l a ((wT x.1 :: (nbT x.2.1 ++ nbT x.2.2)) ++ M)) : inG l a = .ok x (a + (wT x.1 :: (nbT x.2.1 ++ nbT x.2.2)).length) := by
  obtain ⟨h0, h1, h2⟩ := inT_ok h
  simp only [List.cons_append, List.append_assoc] at hs
  have s1 := hs.cons.2
  have s2 := s1.app
  unfold inG
  rw [nmG_w hs h0.2]
  show (nbG l _).bind _ = _
  rw [nbG_n h1 s1]
  show (nbG l _).bind _ = _
  rw [nbG_n h2 s2]
  simp only [R.bind, List.length_cons, List.length_append]
  congr 1
  omega
theorem va_t {x : ByteArray} (h : nameB x = true) (a : Nat) (M : List TK) (hs : Hs l a ([wT x] ++ M)) : nmG l a = .ok x (a + ([wT x] : List TK).length) := nmG_w hs (vaT_ok h).2
theorem ar_t {x : Arr} (h : arB x = true) (a : Nat) (M : List TK) (hs : Hs l a ((wT x.1 :: [nT x.2]) ++ M)) : arG l a = .ok x (a + (wT x.1 :: [nT x.2]).length) := by
  obtain ⟨h0, h1⟩ := arT_ok h
  simp only [List.cons_append] at hs
  unfold arG
  rw [nmG_w hs h0.2]
  show (nuG l _).bind _ = _
  rw [nuG_n hs.cons.2]
  rfl
theorem sh_t {x : Shd} (h : shB x = true) (a : Nat) (M : List TK) (hs : Hs l a ((wT x.1 :: nT x.2.1 :: [wT x.2.2]) ++ M)) : shG l a = .ok x (a + (wT x.1 :: nT x.2.1 :: [wT x.2.2]).length) := by
  obtain ⟨h0, h1, h2⟩ := shT_ok h
  simp only [List.cons_append] at hs
  unfold shG
  rw [nmG_w hs h0.2]
  show (nuG l _).bind _ = _
  rw [nuG_n hs.cons.2]
  show (nmG l _).bind _ = _
  rw [nmG_w hs.cons.2.cons.2 h2.2]
  rfl
theorem cl_t {x : Clm} (a : Nat) (M : List TK) (hs : Hs l a ((nT x.1 :: [nT x.2]) ++ M)) : clG l a = .ok x (a + (nT x.1 :: [nT x.2]).length) := by
  simp only [List.cons_append] at hs
  unfold clG
  rw [nuG_n hs]
  show (nuG l _).bind _ = _
  rw [nuG_n hs.cons.2]
  rfl
theorem md_t {x : Md} (h : mdB x = true) (a : Nat) (M : List TK) (hs : Hs l a ((wT x.1 :: wT x.2.1 :: (nbT x.2.2.1 ++ nbT x.2.2.2)) ++ M)) : mdG l a = .ok x (a + (wT x.1 :: wT x.2.1 :: (nbT x.2.2.1 ++ nbT x.2.2.2)).length) := by
  obtain ⟨h0, h1, h2, h3⟩ := mdT_ok h
  simp only [List.cons_append, List.append_assoc] at hs
  have s1 := hs.cons.2
  have s2 := s1.cons.2
  have s3 := s2.app
  unfold mdG
  rw [nmG_w hs h0.2]
  show (nmG l _).bind _ = _
  rw [nmG_w s1 h1.2]
  show (nbG l _).bind _ = _
  rw [nbG_n h2 s2]
  show (nbG l _).bind _ = _
  rw [nbG_n h3 s3]
  simp only [R.bind, List.length_cons, List.length_append]
  congr 1
  omega
theorem dc_t {kw : ByteArray} {n : Int} {a : Nat} {M : List TK} (hs : Hs l a (wT kw :: nT n :: M)) : dcG l kw a = .ok n (a + 2) ∧ Hs l (a + 2) M := by
  refine ⟨?_, hs.cons.2.cons.2⟩
  unfold dcG
  rw [wdG_w hs]
  show nuG l (a + 1) = _
  rw [nuG_n hs.cons.2]
theorem task_t {t : Tk} (h : okTk t = true) (hb : ∀ s ∈ t.body, mdS 4 s) {a : Nat} {M : List TK} (hs : Hs l a (tkK t ++ M)) : (wdG l Ktask a).bind (fun _ b => taskG l b) = .ok t (a + (tkK t).length) := by
  obtain ⟨h1, _, h2, h3, h4, h5, h6⟩ := hd_of h
  obtain ⟨g0, _⟩ := tk1_ok h1
  have hlen := hs.len (by simp [tkK])
  have elen : (tkK t).length = 1 + ((hdK t).length + ((catK inK t.inputs).length + ((catK vaK t.vars).length + ((catK arK t.arrays).length + ((catK mdK t.modes).length + ((catK clK t.claims).length + (1 + ((tkSs t.body).length + 1)))))))) := by
    simp only [tkK, List.length_cons, List.length_append, List.length_nil]
    omega
  rw [List.length_append, elen] at hlen
  have n2 := cat_len (K := inK) (xs := t.inputs) (fun x _ => by simp [inK])
  have n3 := cat_len (K := vaK) (xs := t.vars) (fun x _ => by simp [vaK])
  have n4 := cat_len (K := arK) (xs := t.arrays) (fun x _ => by simp [arK])
  have n5 := cat_len (K := mdK) (xs := t.modes) (fun x _ => by simp [mdK])
  have n6 := cat_len (K := clK) (xs := t.claims) (fun x _ => by simp [clK])
  rw [elen]
  simp only [tkK, hdK, List.cons_append, List.append_assoc, List.nil_append] at hs
  have q1 := hs.cons.2
  have q2 := q1.cons.2
  obtain ⟨r3, q3⟩ := dc_t q2
  obtain ⟨r4, q4⟩ := dc_t q3
  obtain ⟨r5, q5⟩ := dc_t q4
  obtain ⟨r6, q6⟩ := dc_t q5
  have d6 : Hd [Kbody] (wT Kbody :: (tkSs t.body ++ wT Kend :: M)) := .inr ⟨_, _, by simp, rfl⟩
  have d5 : Hd [Kbody, Knever] _ := (d6.mono (by simp)).cat (K := clK) (g := fun x => nT x.1 :: [nT x.2]) (fun _ => rfl) (xs := t.claims) (by simp)
  have d4 : Hd [Kbody, Knever, Kmode] _ := (d5.mono (by simp)).cat (K := mdK) (g := fun x => wT x.1 :: wT x.2.1 :: (nbT x.2.2.1 ++ nbT x.2.2.2)) (fun _ => rfl) (xs := t.modes) (by simp)
  have d3 : Hd [Kbody, Knever, Kmode, Karray] _ := (d4.mono (by simp)).cat (K := arK) (g := fun x => wT x.1 :: [nT x.2]) (fun _ => rfl) (xs := t.arrays) (by simp)
  have d2 : Hd [Kbody, Knever, Kmode, Karray, Kvar] _ := (d3.mono (by simp)).cat (K := vaK) (g := fun x => [wT x]) (fun _ => rfl) (xs := t.vars) (by simp)
  obtain ⟨r7, q7⟩ := lpG_t (K := inK) (fun _ => rfl) (N := l.length + 1) (acc := []) (fun x hx => in_t (h2 x hx)) (by omega) q6 (d2.no (by decide))
  obtain ⟨r8, q8⟩ := lpG_t (K := vaK) (fun _ => rfl) (N := l.length + 1) (acc := []) (fun x hx => va_t (h3 x hx)) (by omega) q7 (d3.no (by decide))
  obtain ⟨r9, q9⟩ := lpG_t (K := arK) (fun _ => rfl) (N := l.length + 1) (acc := []) (fun x hx => ar_t (h4 x hx)) (by omega) q8 (d4.no (by decide))
  obtain ⟨ra, qa⟩ := lpG_t (K := mdK) (fun _ => rfl) (N := l.length + 1) (acc := []) (fun x hx => md_t (h5 x hx)) (by omega) q9 (d5.no (by decide))
  obtain ⟨rb, qb⟩ := lpG_t (K := clK) (fun _ => rfl) (N := l.length + 1) (acc := []) (fun x _ => cl_t) (by omega) qa (d6.no (by decide))
  have qc := qb.cons.2
  have rc := sts_parse_of (l := l) (n := 4) (F := l.length + 1) (w := 0) (by omega) (fun s hs a R h1 h2 h3 => st_parse 4 s hs _ 0 a R (by omega) h1 h2 h3) t.body (l.length + 1) _ [] (wT Kend) M hb (by omega) (by omega) qc (.inr rfl)
  have qd := qc.app
  rw [wdG_w hs]
  show taskG l (a + 1) = _
  unfold taskG
  rw [nmG_w q1 g0.2]
  simp only [R.bind, r3, r4, r5, r6, r7, r8, r9, ra, rb]
  unfold bodyG
  rw [wdG_w qb]
  simp only [R.bind, rc]
  rw [wdG_w qd]
  simp only [List.nil_append]
  congr 1
  simp only [hdK, List.length_cons, List.length_nil]
  omega
theorem tasks_t : ∀ {ts : List Tk} {N a : Nat} {acc : List Tk}, (∀ t ∈ ts, okTk t = true ∧ ∀ s ∈ t.body, mdS 4 s) → ts.length < N → Hs l a (catK tkK ts) → tasksL l N a acc = .ok (acc ++ ts) (a + (catK tkK ts).length)
  | [], N, a, acc, _, hN, hs => by
    obtain ⟨N, rfl⟩ : ∃ N', N = N' + 1 := ⟨N - 1, by omega⟩
    have e : ¬ a < l.length := by
      unfold Hs at hs
      rw [catK, List.map_eq_nil_iff, List.drop_eq_nil_iff] at hs
      omega
    rw [tasksL, if_neg e, List.append_nil]
    rfl
  | t :: ts, N, a, acc, h, hN, hs => by
    rw [List.length_cons] at hN
    obtain ⟨N, rfl⟩ : ∃ N', N = N' + 1 := ⟨N - 1, by omega⟩
    rw [catK] at hs
    have e : a < l.length := by
      have := hs.len (by simp [tkK])
      simp only [tkK, List.length_append, List.length_cons] at this
      omega
    have h1 := task_t (h t (by simp)).1 (h t (by simp)).2 hs
    have hw : isA l a Ktask = true := by
      rw [tkK, List.cons_append] at hs
      rw [isA_w hs]
      exact decide_eq_true rfl
    have e1 : wdG l Ktask a = .ok () (a + 1) := by unfold wdG; rw [if_pos hw]
    rw [e1] at h1
    rw [tasksL, if_pos e, e1]
    show (taskG l (a + 1)).bind _ = _
    rw [show taskG l (a + 1) = .ok t (a + (tkK t).length) from h1]
    show tasksL l N _ (acc ++ [t]) = _
    rw [tasks_t (fun u hu => h u (by simp [hu])) (by omega) hs.app, List.append_assoc, catK, List.length_append, Nat.add_assoc]
    rfl
theorem prog_t {p : Pg} (h : okPg p = true) (hb : ∀ t ∈ p.tasks, ∀ s ∈ t.body, mdS 4 s) (hl : l.map strip = progK p) : ∃ b, progG l = .ok p b := by
  have hs : Hs l 0 (progK p) := by
    unfold Hs
    exact hl
  have hlen : l.length = (progK p).length := by rw [← hl, List.length_map]
  unfold okPg at h
  simp only [Bool.and_eq_true, and_assoc, List.all_eq_true] at h
  obtain ⟨h1, h2, h3⟩ := h
  unfold progK at hs hlen
  rw [List.length_append, List.length_append] at hlen
  have n1 := cat_len (K := resK) (xs := p.res) (fun x _ => by simp [resK])
  have n2 := cat_len (K := shK) (xs := p.shared) (fun x _ => by simp [shK])
  have n3 := cat_len (K := tkK) (xs := p.tasks) (fun x _ => by simp [tkK])
  have d2 : Hd [Ktask] (catK tkK p.tasks) := by
    cases p.tasks with
    | nil => exact .inl rfl
    | cons t ts => exact .inr ⟨_, _, by simp, rfl⟩
  have d1 : Hd [Ktask, Kshared] _ := (d2.mono (by simp)).cat (K := shK) (g := fun x => wT x.1 :: nT x.2.1 :: [wT x.2.2]) (fun _ => rfl) (xs := p.shared) (by simp)
  obtain ⟨r1, q1⟩ := lpG_t (K := resK) (fun _ => rfl) (N := l.length + 1) (acc := []) (fun x hx => va_t (h1 x hx)) (by omega) hs (d1.no (by decide))
  obtain ⟨r2, q2⟩ := lpG_t (K := shK) (fun _ => rfl) (N := l.length + 1) (acc := []) (fun x hx => sh_t (h2 x hx)) (by omega) q1 (d2.no (by decide))
  have r3 := tasks_t (acc := []) (fun t ht => ⟨h3 t ht, hb t ht⟩) (show p.tasks.length < l.length + 1 by omega) q2
  unfold progG
  simp only [R.bind, r1, r2, r3, List.nil_append]
  exact ⟨_, rfl⟩
/-- A printed program is parsed to what it was. -/
theorem parse_prog {p : Pg} (h : okPg p = true) (hb : ∀ t ∈ p.tasks, ∀ s ∈ t.body, mdS 4 s) (hs : (progT p).size ≤ 8192) : parseF (progT p) = (some p, 0, 0) := by
  obtain ⟨l, h1, h2⟩ := scan_prog h hb hs
  obtain ⟨b, h3⟩ := prog_t h hb h2
  unfold parseF
  rw [h1, if_pos rfl]
  simp only [h3]
end Go.Proofs.YtlniadfidfmckaaGreatDoor
end

section
namespace Go.Proofs.YtlniadfidfmckaaGreatDoor
open Go.Vc
theorem con_conseq {P : Program} [Gl P] {f : FuncId} {ss : List S} {Hin : List Ch} {post post' : (S → List Ch → Prop) → Prop} (hp : ∀ K, post' K → post K) (h : Con P f ss Hin post) : Con P f ss Hin post' := by
  intro vs w A h1 h2 h3 h4 h5 h6
  refine (h vs w A h1 h2 h3 h4 h5 h6).mono ?_
  rintro e w' ⟨v, s, Ho, he, hK, hs, hrest⟩
  exact ⟨v, s, Ho, he, fun K h => hK K (hp K h), hs, hrest⟩
attribute [local irreducible] JL JC JQ OpWp Con ConN
theorem gNewT_c (L : List Int) : Con Tryz.prog 7 [.cell (.list (L.map Irow))] [] (fun K => ∀ b : Nat, True → K (Ptr b) [Dk b L]) := con_conseq (fun _ h b => h b trivial) (gNew_c L)
end Go.Proofs.YtlniadfidfmckaaGreatDoor
end

section
namespace Go.Proofs.YtlniadfidfmckaaGreatDoor
open Go.Vc
attribute [local irreducible] JL JC JQ OpWp Con ConN
attribute [local irreducible] progT StG BlG
attribute [local irreducible] progF

theorem TaskG.sz {Sh : List Shd} {nm : ByteArray} {W : Int} {t : Tk} (h : TaskG Sh nm W t) : TkSz t := by
  obtain ⟨lab, l, n, hl, hb⟩ := h.body
  have h1 := body_szs hl
  have h2 := Sm.szs_take l n
  refine ⟨by have := h.inputs.1; omega, by rw [h.vars]; decide, ?_, ?_, ?_, by rw [hb]; omega⟩
  · rcases h.arrays with e | ⟨k, _, e⟩ <;> rw [e] <;> simp
  · rcases h.modes with e | ⟨x, lo, hi, _, _, e⟩ <;> rw [e] <;> simp
  · rcases h.claims with e | ⟨a, b, _, _, _, e⟩ <;> rw [e] <;> simp
theorem PgG.sz {T : Nat} {W : Int} {p : Pg} (hT : T ≤ 1000) (h : PgG T W p) : PgSz p := by
  refine ⟨?_, ?_, by rw [h.len]; exact hT, ?_⟩
  · obtain ⟨n, hn, e⟩ := h.res
    rw [e]
    rcases n with _ | _ | n <;> simp [RSl]
  · rcases h.shared with e | ⟨r, k, _, _, e⟩ <;> rw [e] <;> simp
  · intro t ht
    obtain ⟨i, hi, rfl⟩ := List.mem_iff_getElem.1 ht
    exact (h.tasks i hi).sz
end Go.Proofs.YtlniadfidfmckaaGreatDoor
end

section
namespace Go.Proofs.YtlniadfidfmckaaGreatDoor
open Go.Vc
set_option maxHeartbeats 1000000

theorem numS_dig {n : Int} {k : Nat} (h0 : 0 ≤ n) (hk : 1 ≤ k) (h : n < (10 ^ k : Nat)) : (numS n).size ≤ k := by
  rw [numS_nonneg n h0, decS_size]
  exact nDigits_le k n.toNat hk (by omega)
theorem numS_11 {n : Int} (h0 : -2147483647 ≤ n) (h1 : n ≤ 2147483647) : (numS n).size ≤ 11 := by
  by_cases hn : n < 0
  · rw [numS_neg n hn, ByteArray.size_append, one_size]
    have := decS_le (-n).toNat (by omega)
    omega
  · rw [numS_nonneg n (by omega)]
    have := decS_le n.toNat (by omega)
    omega
theorem ExG.tz {V U : List ByteArray} (hV : ∀ s ∈ V, s.size ≤ 3) (hU : ∀ s ∈ U, s.size ≤ 3) : ∀ {d : Nat} {t : T}, ExG V U d t → ((textT t).size : Int) ≤ czT t := by
  intro d t h
  induction h with
  | nu d n h =>
    have h11 := numS_11 h.1 h.2
    unfold textT czT
    by_cases h9 : 0 ≤ n ∧ n ≤ 9
    · have := numS_dig (k := 1) h9.1 (by omega) (by show n < 10; omega)
      rw [if_pos h9, if_neg (by omega)]
      omega
    · rw [if_neg h9]
      split
      · rw [ByteArray.size_append, ByteArray.size_append, one_size, one_size]; omega
      · omega
  | nm d s h => have := hV s h; unfold textT czT; omega
  | ix d s t h _ ih =>
    have := hU s h
    unfold textT czT
    rw [ByteArray.size_append, ByteArray.size_append, ByteArray.size_append, one_size, one_size]
    omega
  | bn d o a b ho _ _ ia ib =>
    have := sign_size ho
    unfold textT czT
    simp only [ByteArray.size_append, one_size]
    omega
/-- The size of a statement's text, wherever it stands. -/
def Tz (d : Nat) (s : Sm) : Prop := ∀ sp : ByteArray, sp.size + 2 * d ≤ 8 → ((stT sp s).size : Int) ≤ s.cz
theorem sts_tz {d : Nat} {sp : ByteArray} (hsp : sp.size + 2 * d ≤ 8) : ∀ {l : List Sm}, (∀ s ∈ l, Tz d s) → ((stsT sp l).size : Int) ≤ Sm.czs l
  | [], _ => by rw [stsT, Sm.czs]; exact Int.le_refl _
  | s :: l, h => by
    have h1 := h s (by simp) sp hsp
    have h2 := sts_tz hsp (l := l) (fun t ht => h t (by simp [ht]))
    rw [stsT, Sm.czs, ByteArray.size_append]
    omega
theorem hdT_3 (v i x m lb t e) : hdT (.mk 3 v i x m lb t e) = (((Kif2 ++ tx1 x) ++ Klab) ++ numS lb) ++ Kopen := by simp [hdT, Sm.kind, Sm.value, Sm.label]
theorem hdT_4 (v i x m lb t e) : hdT (.mk 4 v i x m lb t e) = (((((Kwh ++ tx1 x) ++ Kmx) ++ numS m) ++ Klab) ++ numS lb) ++ Kopen := by simp [hdT, Sm.kind, Sm.value, Sm.label, Sm.max]
theorem hdT_5 (v i x m lb t e) : hdT (.mk 5 v i x m lb t e) = (Klk ++ v) ++ Kopen := by simp [hdT, Sm.kind, Sm.name]
theorem node_sz {sp : ByteArray} {s : Sm} (h : ¬ (s.kind = 1 ∨ s.kind = 2)) : (stT sp s).size ≤ sp.size + (hdT s).size + (stsT (sp ++ Ksp) s.thn).size + (sp.size + 9 + (stsT (sp ++ Ksp) s.els).size) + (sp.size + 2) ∧ (s.els = [] → (stT sp s).size = sp.size + (hdT s).size + (stsT (sp ++ Ksp) s.thn).size + (sp.size + 2)) := by
  rw [stT_node sp h]
  split
  · simp only [ByteArray.size_append, show Kclose.size = 2 from rfl, show (⟨#[]⟩ : ByteArray).size = 0 from rfl]
    exact ⟨by omega, fun _ => by omega⟩
  · simp only [ByteArray.size_append, show Kclose.size = 2 from rfl, show Kelse2.size = 9 from rfl]
    exact ⟨by omega, fun h => absurd h (by assumption)⟩
theorem tz_set {d : Nat} {v : ByteArray} {x : T} (hv : v.size ≤ 3) (hx : ((textT x).size : Int) ≤ czT x) : Tz d (.mk 1 v [] [x] 0 0 [] []) := by
  intro sp hsp
  rw [stT_leaf sp (.inl rfl), cz_1]
  simp only [hdT, Sm.kind, Sm.name, Sm.value, tx1, if_true, ByteArray.size_append, show Kst.size = 3 from rfl, show Knl.size = 1 from rfl, czTs, Sm.czs]
  omega
theorem tz_store {d : Nat} {v : ByteArray} {y x : T} (hv : v.size ≤ 3) (hy : ((textT y).size : Int) ≤ czT y) (hx : ((textT x).size : Int) ≤ czT x) : Tz d (.mk 2 v [y] [x] 0 0 [] []) := by
  intro sp hsp
  rw [stT_leaf sp (.inr rfl), cz_2]
  simp only [hdT, Sm.kind, Sm.name, Sm.value, Sm.index, tx1]
  rw [if_neg (by decide), if_pos trivial]
  simp only [ByteArray.size_append, show Kx1.size = 1 from rfl, show Kx2.size = 4 from rfl, show Knl.size = 1 from rfl, czTs, Sm.czs]
  omega
theorem tz_if {d : Nat} {x : T} {lb : Int} {t e : List Sm} (hx : ((textT x).size : Int) ≤ czT x) (hl : 0 ≤ lb ∧ lb ≤ 12) (ht : ∀ s ∈ t, Tz d s) (he : ∀ s ∈ e, Tz d s) : Tz (d + 1) (.mk 3 E0 [] [x] 0 lb t e) := by
  intro sp hsp
  have hs2 : (sp ++ Ksp).size + 2 * d ≤ 8 := by rw [ByteArray.size_append, show Ksp.size = 2 from rfl]; omega
  have h1 := sts_tz hs2 ht
  have h2 := sts_tz hs2 he
  have h3 := numS_dig (k := 2) hl.1 (by omega) (by show lb < 100; omega)
  have h4 := Sm.czs_nn e
  have h5 := (node_sz (sp := sp) (s := .mk 3 E0 [] [x] 0 lb t e) (by show ¬ ((3 : Int) = 1 ∨ (3 : Int) = 2); decide)).1
  rw [cz_3]
  simp only [hdT_3, Sm.thn, Sm.els, tx1, ByteArray.size_append, show Kif2.size = 3 from rfl, show Klab.size = 7 from rfl, show Kopen.size = 3 from rfl] at h5
  simp only [czTs]
  omega
theorem tz_while {d : Nat} {x : T} {mx lb : Int} {t : List Sm} (hx : ((textT x).size : Int) ≤ czT x) (hm : 0 ≤ mx ∧ mx ≤ 5) (hl : 0 ≤ lb ∧ lb ≤ 12) (ht : ∀ s ∈ t, Tz d s) : Tz (d + 1) (.mk 4 E0 [] [x] mx lb t []) := by
  intro sp hsp
  have hs2 : (sp ++ Ksp).size + 2 * d ≤ 8 := by rw [ByteArray.size_append, show Ksp.size = 2 from rfl]; omega
  have h1 := sts_tz hs2 ht
  have h3 := numS_dig (k := 2) hl.1 (by omega) (by show lb < 100; omega)
  have h4 := numS_dig (k := 1) hm.1 (by omega) (by show mx < 10; omega)
  have h5 := (node_sz (sp := sp) (s := .mk 4 E0 [] [x] mx lb t []) (by show ¬ ((4 : Int) = 1 ∨ (4 : Int) = 2); decide)).2 rfl
  rw [cz_4]
  simp only [hdT_4, Sm.thn, tx1, ByteArray.size_append, show Kwh.size = 6 from rfl, show Kmx.size = 5 from rfl, show Klab.size = 7 from rfl, show Kopen.size = 3 from rfl] at h5
  simp only [czTs, Sm.czs]
  omega
theorem tz_lock {d : Nat} {v : ByteArray} {t : List Sm} (hv : v.size ≤ 3) (ht : ∀ s ∈ t, Tz d s) : Tz (d + 1) (.mk 5 v [] [] 0 0 t []) := by
  intro sp hsp
  have hs2 : (sp ++ Ksp).size + 2 * d ≤ 8 := by rw [ByteArray.size_append, show Ksp.size = 2 from rfl]; omega
  have h1 := sts_tz hs2 ht
  have h5 := (node_sz (sp := sp) (s := .mk 5 v [] [] 0 0 t []) (by show ¬ ((5 : Int) = 1 ∨ (5 : Int) = 2); decide)).2 rfl
  rw [cz_5]
  simp only [hdT_5, Sm.thn, ByteArray.size_append, show Klk.size = 5 from rfl, show Kopen.size = 3 from rfl] at h5
  simp only [czTs, Sm.czs]
  omega
theorem StG.tz {V A : List ByteArray} {Sh : List Shd} (hV : ∀ s ∈ V, s.size ≤ 3) (hU : ∀ hs, ∀ s ∈ usableF A Sh hs, s.size ≤ 3) (hR : ∀ x ∈ Sh, x.2.2.size ≤ 3) : ∀ (d : Nat) (il : Int) (hs : ByteArray) (a b : Int) (l : List Sm), StG V A Sh d il hs a b l → 0 ≤ a → a ≤ b ∧ ∀ s ∈ l, Tz d s := by
  have ex : ∀ {hs : ByteArray} {d : Nat} {t : T}, ExG V (usableF A Sh hs) d t → ((textT t).size : Int) ≤ czT t := fun h => h.tz hV (hU _)
  have leaf : ∀ {n : Nat} {hs : ByteArray} {a b : Int} {l : List Sm}, LeafG V (usableF A Sh hs) a b l → a ≤ b ∧ ∀ s ∈ l, Tz n s := by
    rintro n hs a b l ⟨rfl, ⟨s, e, h1, h2, rfl⟩ | ⟨s, e1, e2, h1, h2, h3, rfl⟩⟩
    · refine ⟨Int.le_refl _, fun t ht => ?_⟩
      rw [List.mem_singleton.1 ht]
      exact tz_set (hV s h1) (ex h2)
    · refine ⟨Int.le_refl _, fun t ht => ?_⟩
      rw [List.mem_singleton.1 ht]
      exact tz_store (hU _ s h1) (ex h2) (ex h3)
  intro d
  induction d with
  | zero => intro il hs a b l h _; exact leaf h
  | succ d ih =>
    intro il hs a b l h h0
    rcases h with h | ⟨hl, c, l1, l2, lab1, hc, hb1, hb2, rfl⟩ | ⟨_, hl, ⟨c, mx, l1, hc, hm, hb, rfl⟩ | ⟨v, n, op, top, mx, l1, st, hv, hn, ho, ht, hm, hst, hb, rfl⟩⟩ | ⟨_, sh, hsh, l1, hb, rfl⟩
    · exact leaf h
    · obtain ⟨g1, g2⟩ := bl_all (ih il hs) hb1 (by omega)
      have g3 : lab1 ≤ b ∧ ∀ s ∈ l2, Tz d s := by
        rcases hb2 with ⟨rfl, rfl⟩ | hb2
        · exact ⟨Int.le_refl _, by simp⟩
        · exact bl_all (ih il hs) hb2 (by omega)
      refine ⟨by omega, fun t ht => ?_⟩
      rw [List.mem_singleton.1 ht]
      exact tz_if (ex hc) (by omega) g2 g3.2
    · obtain ⟨g1, g2⟩ := bl_all (ih (il + 1) hs) hb (by omega)
      refine ⟨by omega, fun t ht => ?_⟩
      rw [List.mem_singleton.1 ht]
      exact tz_while (ex hc) hm (by omega) g2
    · obtain ⟨g1, g2⟩ := bl_all (ih (il + 1) hs) hb (by omega)
      have hv2 := hV v hv
      have e9 : ∀ n : Int, 0 ≤ n ∧ n ≤ 9 → ((textT (.nu n)).size : Int) ≤ czT (.nu n) := fun n hn => ExG.tz (V := []) (U := []) (by simp) (by simp) (.nu 0 n (by omega))
      have hnm : ∀ s : ByteArray, s.size ≤ 3 → ((textT (.nm s)).size : Int) ≤ czT (.nm s) := fun s hs => by unfold textT czT; omega
      have bin : ∀ (o : Int) (a b : T), 1 ≤ o ∧ o ≤ 14 → ((textT a).size : Int) ≤ czT a → ((textT b).size : Int) ≤ czT b → ((textT (.bn o a b)).size : Int) ≤ czT (.bn o a b) := fun o a b ho ha hb => by
        have := sign_size ho
        rw [textT, czT]
        simp only [ByteArray.size_append, one_size]
        omega
      have htop : ((textT top).size : Int) ≤ czT top := by
        rcases ht with ⟨t, ht, rfl⟩ | ⟨s, hs, rfl⟩
        · exact e9 t (by omega)
        · exact hnm s (hV s hs)
      refine ⟨by omega, fun t ht => ?_⟩
      rcases List.mem_cons.1 ht with rfl | ht
      · exact tz_set hv2 (e9 n (by omega))
      · rw [List.mem_singleton.1 ht]
        refine tz_while (bin _ _ _ (by omega) (hnm v hv2) htop) hm (by omega) (fun s hs => ?_)
        rcases List.mem_append.1 hs with hs | hs
        · exact g2 s hs
        · rw [List.mem_singleton.1 hs]
          exact tz_set hv2 (bin _ _ _ (by omega) (hnm v hv2) (e9 st (by omega)))
    · obtain ⟨g1, g2⟩ := bl_all (ih il sh.2.2) hb h0
      refine ⟨g1, fun t ht => ?_⟩
      rw [List.mem_singleton.1 ht]
      exact tz_lock (hR sh hsh) g2
/-- The names of a made task are short. -/
structure NszG (Sh : List Shd) (t : Tk) : Prop where
  vars : ∀ s ∈ t.inputs.map (·.1) ++ VS, s.size ≤ 3
  usable : ∀ hs, ∀ s ∈ usableF (t.arrays.map (·.1)) Sh hs, s.size ≤ 3
  locks : ∀ x ∈ Sh, x.2.2.size ≤ 3
theorem RS_sz {n : Nat} : ∀ s ∈ RSl n, s.size ≤ 1 := by
  rcases n with _ | _ | n
  · simp [RSl]
  · intro s hs
    simp only [RSl, List.mem_singleton] at hs
    subst hs
    decide
  · intro s hs
    simp only [RSl, List.mem_cons, List.not_mem_nil, or_false] at hs
    rcases hs with rfl | rfl <;> decide
theorem shd_sz {R : List ByteArray} {n : Nat} {Sh : List Shd} (hR : R = RSl n) (hSh : ShG R Sh) : Sh.length ≤ 1 ∧ ∀ x ∈ Sh, x.1.size ≤ 3 ∧ (0 ≤ x.2.1 ∧ x.2.1 ≤ 8) ∧ x.2.2.size ≤ 1 ∧ nmOk x.1 ∧ nmOk x.2.2 := by
  rcases hSh with rfl | ⟨r, k, hr, hk, rfl⟩
  · simp
  · refine ⟨by simp, fun x hx => ?_⟩
    have hm : r ∈ RSl n := by rw [← hR]; exact List.mem_of_getElem? hr
    rw [List.mem_singleton.1 hx]
    refine ⟨show (⟨#[98, 117, 102]⟩ : ByteArray).size ≤ 3 by decide, ?_, RS_sz r hm, nmOk_lit (s := ⟨#[98, 117, 102]⟩) (by decide +kernel), RS_ok r hm⟩
    show 0 ≤ (2 : Int) ^ k ∧ (2 : Int) ^ k ≤ 8
    have : k = 0 ∨ k = 1 ∨ k = 2 ∨ k = 3 := by omega
    rcases this with rfl | rfl | rfl | rfl <;> decide
theorem nsz_of {R : List ByteArray} {n : Nat} {Sh : List Shd} {nm : ByteArray} {W : Int} {t : Tk} (hR : R = RSl n) (hSh : ShG R Sh) (h : TaskG Sh nm W t) : NszG Sh t := by
  have hs := (shd_sz hR hSh).2
  refine ⟨?_, ?_, fun x hx => by have := (hs x hx).2.2.1; omega⟩
  · intro s hs
    rcases List.mem_append.1 hs with hs | hs
    · rw [h.inputs.2.1] at hs
      have := List.mem_of_mem_take hs
      simp only [List.mem_cons, List.not_mem_nil, or_false] at this
      rcases this with rfl | rfl <;> decide
    · simp only [List.mem_cons, List.not_mem_nil, or_false] at hs
      rcases hs with rfl | rfl | rfl <;> decide
  · intro hs2 s hm
    unfold usableF at hm
    rcases List.mem_append.1 hm with hm | hm
    · rcases h.arrays with e | ⟨k, _, e⟩
      · rw [e] at hm; simp at hm
      · rw [e] at hm
        simp only [List.map_cons, List.map_nil, List.mem_singleton] at hm
        subst hm
        decide
    · obtain ⟨x, hx, he⟩ := List.mem_filterMap.1 hm
      split at he
      · rw [← Option.some.inj he]
        exact (hs x hx).1
      · cases he
/-- The sizes of a made task's lines. -/
theorem body_tz {Sh : List Shd} {nm : ByteArray} {W : Int} {t : Tk} (hN : NszG Sh t) (h : TaskG Sh nm W t) : (stsT Ksp t.body).size ≤ 1680 := by
  obtain ⟨lab, l, n, hl, hb⟩ := h.body
  obtain ⟨_, g⟩ := bl_all (StG.tz hN.vars hN.usable hN.locks 3 0 E0) hl (Int.le_refl _)
  have := sts_tz (d := 3) (sp := Ksp) (by decide) (l := t.body) (fun s hs => g s (by rw [hb] at hs; exact List.mem_of_mem_take hs))
  have := h.size
  omega

theorem Fm.one {x : T} (h : Fm x) : oneB [x] = true := (shpF_ok 20 x (by have := h.2; omega)).2 h.1
theorem Pl.b {n : Int} (h : Pl n) : plainB n = true := plainB_ok.2 h
theorem md_okS : ∀ (n F : Nat) (l : List Sm), n ≤ F → (∀ s ∈ l, mdS n s) → okSs F l = true
  | 0, 0, l, _, _ => rfl
  | 0, F + 1, l, _, h => by
    cases l with
    | nil => rfl
    | cons s l => exact (h s (by simp)).elim
  | n + 1, 0, l, hF, _ => by omega
  | n + 1, F + 1, l, hF, h => by
    rw [okSs, List.all_eq_true]
    intro s hs
    have h1 := h s hs
    unfold mdS at h1
    have ih := fun l hl => md_okS n F l (by omega) hl
    rcases h1 with ⟨v, x, hv, hx, rfl⟩ | ⟨v, y, x, hv, hy, hx, rfl⟩ | ⟨x, lab, t, e, hx, hl, ht, he, rfl⟩ | ⟨x, mx, lab, t, hx, hm, hl, ht, rfl⟩ | ⟨v, t, hv, ht, rfl⟩
    · simp [okOne, Sm.kind, Sm.name, Sm.index, Sm.value, Sm.max, Sm.label, Sm.thn, Sm.els, nameB_ok.2 hv, hx.one]
    · simp [okOne, Sm.kind, Sm.name, Sm.index, Sm.value, Sm.max, Sm.label, Sm.thn, Sm.els, nameB_ok.2 hv, hx.one, hy.one]
    · simp [okOne, Sm.kind, Sm.name, Sm.index, Sm.value, Sm.max, Sm.label, Sm.thn, Sm.els, hx.one, hl.b, ih t ht, ih e he]
    · simp [okOne, Sm.kind, Sm.name, Sm.index, Sm.value, Sm.max, Sm.label, Sm.thn, Sm.els, hx.one, hm.b, hl.b, ih t ht]
    · simp [okOne, Sm.kind, Sm.name, Sm.index, Sm.value, Sm.max, Sm.label, Sm.thn, Sm.els, nameB_ok.2 hv, ih t ht]
theorem md_deep : ∀ (n F : Nat) (l : List Sm), n ≤ F → (∀ s ∈ l, mdS n s) → dpF F l = false
  | 0, F, l, _, h => by
    cases l with
    | nil => cases F <;> rfl
    | cons s l => exact (h s (by simp)).elim
  | n + 1, 0, l, hF, _ => by omega
  | n + 1, F + 1, l, hF, h => by
    rw [dpF, List.any_eq_false]
    intro s hs
    have h1 := h s hs
    unfold mdS at h1
    have ih := fun l hl => md_deep n F l (by omega) hl
    have dx : ∀ x : T, Fm x → dpx x = false := fun x hx => decide_eq_false (by have := hx.2; omega)
    rcases h1 with ⟨v, x, hv, hx, rfl⟩ | ⟨v, y, x, hv, hy, hx, rfl⟩ | ⟨x, lab, t, e, hx, hl, ht, he, rfl⟩ | ⟨x, mx, lab, t, hx, hm, hl, ht, rfl⟩ | ⟨v, t, hv, ht, rfl⟩
    · simp [dpS, Sm.index, Sm.value, Sm.thn, Sm.els, dx x hx, ih [] (by simp)]
    · simp [dpS, Sm.index, Sm.value, Sm.thn, Sm.els, dx x hx, dx y hy, ih [] (by simp)]
    · simp [dpS, Sm.index, Sm.value, Sm.thn, Sm.els, dx x hx, ih t ht, ih e he]
    · simp [dpS, Sm.index, Sm.value, Sm.thn, Sm.els, dx x hx, ih t ht, ih [] (by simp)]
    · simp [dpS, Sm.index, Sm.value, Sm.thn, Sm.els, ih t ht, ih [] (by simp)]
theorem ifs_pl : ∀ (f n : Nat) (s : Sm), mdS n s → ∀ k ∈ rlOne f s, Pl k
  | 0, _, _, _, k, hk => by simp [rlOne] at hk
  | f + 1, 0, _, h, _, _ => h.elim
  | f + 1, n + 1, s, h, k, hk => by
    unfold mdS at h
    rw [rlOne, List.mem_append, List.mem_append] at hk
    have ih : ∀ (l : List Sm), (∀ s ∈ l, mdS n s) → k ∈ l.flatMap (rlOne f) → Pl k := fun l hl hk => by
      obtain ⟨s, hs, hk⟩ := List.mem_flatMap.1 hk
      exact ifs_pl f n s (hl s hs) k hk
    rcases h with ⟨v, x, hv, hx, rfl⟩ | ⟨v, y, x, hv, hy, hx, rfl⟩ | ⟨x, lab, t, e, hx, hl, ht, he, rfl⟩ | ⟨x, mx, lab, t, hx, hm, hl, ht, rfl⟩ | ⟨v, t, hv, ht, rfl⟩
    · simp [rlSelf, Sm.kind, Sm.thn, Sm.els] at hk
    · simp [rlSelf, Sm.kind, Sm.thn, Sm.els] at hk
    · rcases hk with (hk | hk) | hk
      · simp only [rlSelf, Sm.kind, if_true, Sm.label, List.mem_singleton] at hk
        rw [hk]; exact hl
      · exact ih t ht hk
      · exact ih e he hk
    · rcases hk with (hk | hk) | hk
      · simp [rlSelf, Sm.kind] at hk
      · exact ih t ht hk
      · simp [Sm.els] at hk
    · rcases hk with (hk | hk) | hk
      · simp [rlSelf, Sm.kind] at hk
      · exact ih t ht hk
      · simp [Sm.els] at hk
theorem nmT_ok {i : Nat} (h : i < 6) : nmOk (nmT i) ∧ (nmT i).size = 2 := by
  have : i = 0 ∨ i = 1 ∨ i = 2 ∨ i = 3 ∨ i = 4 ∨ i = 5 := by omega
  rcases this with rfl | rfl | rfl | rfl | rfl | rfl <;> exact ⟨nmOk_lit (by decide +kernel), by decide +kernel⟩
theorem task_okT {R : List ByteArray} {n i : Nat} {Sh : List Shd} {W : Int} {t : Tk} (hR : R = RSl n) (hSh : ShG R Sh) (hi : i < 6) (h : TaskG Sh (nmT i) W t) : okTk t = true ∧ (tkT t).size ≤ 1960 := by
  have hmd := h.md (nms_of hR hSh h)
  have hnm := nmT_ok hi
  have hbz := body_tz (nsz_of hR hSh h) h
  have hin : ∀ x ∈ t.inputs, (nmOk x.1 ∧ x.1.size = 1) ∧ (-2 ≤ x.2.1 ∧ x.2.1 ≤ 3) ∧ (-2 ≤ x.2.2 ∧ x.2.2 ≤ 14) := fun x hx => by
    have hm : x.1 ∈ t.inputs.map (·.1) := List.mem_map_of_mem hx
    rw [h.inputs.2.1] at hm
    have hm := List.mem_of_mem_take hm
    have hb := h.inputs.2.2 x hx
    refine ⟨?_, by omega, by omega⟩
    simp only [List.mem_cons, List.not_mem_nil, or_false] at hm
    rcases hm with e | e <;> rw [e] <;> exact ⟨nmOk_lit (by decide +kernel), by decide⟩
  have hva : ∀ x ∈ t.vars, nmOk x ∧ x.size = 1 := fun x hx => by
    rw [h.vars] at hx
    simp only [List.mem_cons, List.not_mem_nil, or_false] at hx
    rcases hx with rfl | rfl | rfl <;> exact ⟨nmOk_lit (by decide +kernel), by decide⟩
  have har : t.arrays.length ≤ 1 ∧ ∀ x ∈ t.arrays, nmOk x.1 ∧ x.1.size = 1 ∧ (0 ≤ x.2 ∧ x.2 ≤ 8) := by
    rcases h.arrays with e | ⟨k, hk, e⟩
    · rw [e]; simp
    · rw [e]
      refine ⟨by simp, fun x hx => ?_⟩
      rw [List.mem_singleton.1 hx]
      refine ⟨nmOk_lit (s := ⟨#[97]⟩) (by decide +kernel), show (⟨#[97]⟩ : ByteArray).size = 1 by decide, ?_⟩
      show 0 ≤ (2 : Int) ^ k ∧ (2 : Int) ^ k ≤ 8
      have : k = 0 ∨ k = 1 ∨ k = 2 ∨ k = 3 := by omega
      rcases this with rfl | rfl | rfl | rfl <;> decide
  have hmo : t.modes.length ≤ 1 ∧ ∀ x ∈ t.modes, (nmOk x.1 ∧ x.1.size = 3) ∧ (nmOk x.2.1 ∧ x.2.1.size = 1) ∧ (-2 ≤ x.2.2.1 ∧ x.2.2.1 ≤ 14) ∧ (-2 ≤ x.2.2.2 ∧ x.2.2.2 ≤ 14) := by
    rcases h.modes with e | ⟨y, lo, hi, hy, hb, e⟩
    · rw [e]; simp
    · rw [e]
      refine ⟨by simp, fun x hx => ?_⟩
      have hy2 := hin y (List.mem_of_getElem? hy)
      rw [List.mem_singleton.1 hx]
      exact ⟨⟨nmOk_lit (s := ⟨#[102, 101, 119]⟩) (by decide +kernel), show (⟨#[102, 101, 119]⟩ : ByteArray).size = 3 by decide⟩, hy2.1, by dsimp only; omega, by dsimp only; omega⟩
  have hcl : t.claims.length ≤ 1 ∧ ∀ x ∈ t.claims, Pl x.1 ∧ Pl x.2 := by
    have hif : ∀ k ∈ ifsOf t.body, Pl k := fun k hk => by
      obtain ⟨s, hs, hk⟩ := List.mem_flatMap.1 hk
      exact ifs_pl 20 4 s (hmd s hs) k hk
    rcases h.claims with e | ⟨a, b, ha, hb, _, e⟩
    · rw [e]; simp
    · rw [e]
      refine ⟨by simp, fun x hx => ?_⟩
      rw [List.mem_singleton.1 hx]
      exact ⟨hif _ (List.getElem_mem ha), hif _ (List.getElem_mem hb)⟩
  have hpe := h.period
  have hde := h.deadline
  have hpr := h.priority
  have hji := h.jitter
  refine ⟨?_, ?_⟩
  · unfold okTk hdB
    simp only [Bool.and_eq_true, List.all_eq_true]
    refine ⟨⟨⟨⟨⟨⟨⟨⟨⟨⟨?_, ?_⟩, ?_⟩, ?_⟩, ?_⟩, ?_⟩, ?_⟩, ?_⟩, ?_⟩, ?_⟩, ?_⟩
    · rw [h.name]; exact nameB_ok.2 hnm.1
    · exact plainB_ok.2 ⟨by omega, by omega⟩
    · exact plainB_ok.2 ⟨by omega, by omega⟩
    · exact plainB_ok.2 ⟨by omega, by omega⟩
    · exact plainB_ok.2 ⟨by omega, by omega⟩
    · exact md_okS 4 20 t.body (by omega) hmd
    · intro x hx
      have := hin x hx
      simp only [inB, Bool.and_eq_true]
      exact ⟨⟨nameB_ok.2 this.1.1, smallB_ok.2 (by omega)⟩, smallB_ok.2 (by omega)⟩
    · exact fun x hx => nameB_ok.2 (hva x hx).1
    · intro x hx
      have := har.2 x hx
      simp only [arB, Bool.and_eq_true]
      exact ⟨nameB_ok.2 this.1, plainB_ok.2 ⟨by omega, by omega⟩⟩
    · intro x hx
      have := hmo.2 x hx
      simp only [mdB, Bool.and_eq_true]
      exact ⟨⟨⟨nameB_ok.2 this.1.1, nameB_ok.2 this.2.1.1⟩, smallB_ok.2 (by omega)⟩, smallB_ok.2 (by omega)⟩
    · intro x hx
      have := hcl.2 x hx
      simp only [clB, Bool.and_eq_true]
      exact ⟨plainB_ok.2 this.1, plainB_ok.2 this.2⟩
  · have z0 : (tkHd t).size ≤ 97 := by
      have a1 := numS_11 (n := t.period) (by omega) (by omega)
      have a2 := numS_11 (n := t.deadline) (by omega) (by omega)
      have a3 := numS_11 (n := t.priority) (by omega) (by omega)
      have a4 := numS_11 (n := t.jitter) (by omega) (by omega)
      have a5 : t.name.size = 2 := by rw [h.name]; exact hnm.2
      simp only [tkHd, ByteArray.size_append, ba_lit, List.length_cons, List.length_nil]
      omega
    have z1 : (catL inT t.inputs).size ≤ t.inputs.length * 32 := catL_size (fun x hx => by
      have := hin x hx
      have a1 := numS_11 (n := x.2.1) (by omega) (by omega)
      have a2 := numS_11 (n := x.2.2) (by omega) (by omega)
      simp only [inT, ByteArray.size_append, ba_lit, List.length_cons, List.length_nil]
      omega)
    have z2 : (catL vaT t.vars).size ≤ t.vars.length * 6 := catL_size (fun x hx => by
      have := hva x hx
      simp only [vaT, ByteArray.size_append, ba_lit, List.length_cons, List.length_nil]
      omega)
    have z3 : (catL arT t.arrays).size ≤ t.arrays.length * 20 := catL_size (fun x hx => by
      have := har.2 x hx
      have a1 := numS_11 (n := x.2) (by omega) (by omega)
      simp only [arT, ByteArray.size_append, ba_lit, List.length_cons, List.length_nil]
      omega)
    have z4 : (catL mdT t.modes).size ≤ t.modes.length * 36 := catL_size (fun x hx => by
      have := hmo.2 x hx
      have a1 := numS_11 (n := x.2.2.1) (by omega) (by omega)
      have a2 := numS_11 (n := x.2.2.2) (by omega) (by omega)
      simp only [mdT, ByteArray.size_append, ba_lit, List.length_cons, List.length_nil]
      omega)
    have z5 : (catL clT t.claims).size ≤ t.claims.length * 30 := catL_size (fun x hx => by
      have := hcl.2 x hx
      have a1 := numS_11 (n := x.1) (by have := this.1.1; omega) this.1.2
      have a2 := numS_11 (n := x.2) (by have := this.2.1; omega) this.2.2
      simp only [clT, ByteArray.size_append, ba_lit, List.length_cons, List.length_nil]
      omega)
    have l1 := h.inputs.1
    have l2 : t.vars.length = 3 := by rw [h.vars]; rfl
    have l3 := har.1
    have l4 := hmo.1
    have l5 := hcl.1
    simp only [tkT, ByteArray.size_append, ba_lit, List.length_cons, List.length_nil]
    omega
/-- Made programs of at most four tasks are printed whole. -/
theorem prog_okT {T : Nat} {W : Int} {p : Pg} (hT : T ≤ 4) (h : PgG T W p) : okPg p = true ∧ p.tasks.any (fun t => dpF 8 t.body) = false ∧ (progT p).size ≤ 8192 := by
  obtain ⟨n, hn, hR⟩ := h.res
  have hsh := shd_sz hR h.shared
  have hres : ∀ x ∈ p.res, nmOk x ∧ x.size ≤ 1 := fun x hx => by rw [hR] at hx; exact ⟨RS_ok x hx, RS_sz x hx⟩
  have hresl : p.res.length ≤ 2 := by rw [hR]; rcases n with _ | _ | n <;> simp [RSl]
  have hlen := h.len
  have htk : ∀ t ∈ p.tasks, okTk t = true ∧ (tkT t).size ≤ 1960 := fun t ht => by
    obtain ⟨i, hi, rfl⟩ := List.mem_iff_getElem.1 ht
    exact task_okT hR h.shared (by omega) (h.tasks i hi)
  refine ⟨?_, ?_, ?_⟩
  · unfold okPg
    simp only [Bool.and_eq_true, List.all_eq_true]
    refine ⟨⟨fun x hx => nameB_ok.2 (hres x hx).1, fun x hx => ?_⟩, fun t ht => (htk t ht).1⟩
    have := hsh.2 x hx
    simp only [shB, Bool.and_eq_true]
    exact ⟨⟨nameB_ok.2 this.2.2.2.1, plainB_ok.2 ⟨by omega, by omega⟩⟩, nameB_ok.2 this.2.2.2.2⟩
  · rw [List.any_eq_false]
    intro t ht
    rw [md_deep 4 8 t.body (by omega) (h.md t ht)]
    decide
  · have z1 : (catL resT p.res).size ≤ p.res.length * 11 := catL_size (fun x hx => by
      have := hres x hx
      simp only [resT, ByteArray.size_append, ba_lit, List.length_cons, List.length_nil]
      omega)
    have z2 : (catL shT p.shared).size ≤ p.shared.length * 30 := catL_size (fun x hx => by
      have := hsh.2 x hx
      have a1 := numS_11 (n := x.2.1) (by omega) (by omega)
      simp only [shT, ByteArray.size_append, ba_lit, List.length_cons, List.length_nil]
      omega)
    have z3 : (catL tkT p.tasks).size ≤ p.tasks.length * 1960 := catL_size (fun t ht => (htk t ht).2)
    have l1 := hsh.1
    unfold progT
    simp only [ByteArray.size_append]
    omega
end Go.Proofs.YtlniadfidfmckaaGreatDoor
end

section
namespace Go.Proofs.YtlniadfidfmckaaGreatDoor
open Go.Vc
attribute [local irreducible] JL JC JQ OpWp Con ConN
attribute [local irreducible] byteAt runLen isL isD isName hasW
set_option maxHeartbeats 4000000

theorem namedB_c (s : ByteArray) : Con Tryz.prog 40 [Str s] [] (fun K => K (Bl (nameB s)) []) := by
  refine con_intro Tryz.func40 rfl rfl (Nat.le_of_ble_eq_true rfl) (fun c hc => R_ (E_ r_ (T_ (R_ (M_ r_ (o_ r_ (bm_ r_ (Name_c _) (M_ r_ (jl_and 3 2 rfl rfl rfl rfl (nb rfl) ?_)))))))))
  apply Exists.intro
  refine ⟨fun hb1 => ?_, ?_⟩
  exact ah_ r_ h_ b_ (bd_ r_ (ah_ r_ h_ b_ (bm_ r_ (Keyword_c _) (ah_ r_ h_ b_ (cd_ r_ (ak_ (jq_seg 3 rfl rfl rfl (List.Perm.refl _))))))))
  refine E_ r_ (T_ (ar_ (jq_ret1 rfl rfl [] rfl (fun K h => h))))
theorem plainL_c (l : List Int) : Con Tryz.prog 41 [.cell (.list (l.map Irow))] [] (fun K => K (Bl (l.all plainB)) []) := by
  have eL : (l.map Irow).length = l.length := List.length_map _
  refine con_intro Tryz.func41 rfl rfl (Nat.le_of_ble_eq_true rfl) (fun c hc => R_ (E_ r_ (T_ (am_ (R_ (M_ r_ (o_ r_ (br_ r_ (fun hlen => M_ r_ (T_ (au_ (jc_loopS (ι := Nat) [] (fun k => k ≤ l.length ∧ (l.take k).all plainB = true) (fun k => [(5, .cell (.list (l.map Irow))), (6, In .i64 ((l.map Irow).length : Int)), (7, In .i64 (k : Int))]) (fun _ => []) (fun k => l.length - k) 0 ⟨Nat.zero_le _, rfl⟩ ?_ ?_ ?_))))))))))))
  · exact sub_end
  · (repeat (first | exact True.intro | refine ⟨rfl, ?_⟩))
  rintro k ⟨hk, hall⟩
  by_cases hlt : k < l.length
  · have hlt2 : (k : Int) < ((l.map Irow).length : Int) := by omega
    refine R_ (o_ r_ (bw_ r_ r_ (T_ (am_ (aq_ r_ u_ (as_ (al_ (B_ (R_ (o_ r_ (cc_ r_ r_ g_ r_ r_ b_ (o_ r_ (cb_ r_ r_ (E_ r_ (T_ (R_ (M_ r_ (o_ r_ (bw_ r_ r_ ?_)))))))))))))))))))
    refine M_ r_ (jl_or 2 2 rfl rfl rfl rfl (nb rfl) ?_)
    apply Exists.intro
    refine ⟨fun hb1 => ?_, ?_⟩
    exact ah_ r_ h_ b_ (bd_ r_ (ah_ r_ h_ b_ (bz_ r_ r_ (ak_ (jq_seg 2 rfl rfl rfl (List.Perm.refl _))))))
    refine T_ (jc_cond rfl (fun hn => ?_) (fun hy => ?_))
    · have hp : plainB l[k] = false := by
        unfold plainB
        simp only [Bool.or_eq_true, decide_eq_true_eq] at hn
        simp only [Bool.and_eq_false_iff, decide_eq_false_iff_not]
        omega
      have hno := all_no hlt hp
      refine R_ (E_ r_ (T_ (ar_ (az_ (aw_ (aw_ (az_ (aw_ (jq_ret1 rfl rfl [] rfl (fun K h => by rw [hno] at h; exact h))))))))))
    · have hp : plainB l[k] = true := by
        unfold plainB
        simp only [Bool.or_eq_false_iff, decide_eq_false_iff_not] at hy
        simp only [Bool.and_eq_true, decide_eq_true_eq]
        omega
      refine as_ (ay_ (al_ (an_ (o_ r_ (bj_ r_ r_ g_ (M_ r_ (ak_ (jq_againS (k + 1) ⟨hlt, all_snoc hlt hall hp⟩ g_ ?_ ?_))))))))
      · exact sub_end
      · (repeat (first | exact True.intro | refine ⟨rfl, ?_⟩))
  · have hlt2 : ¬ (k : Int) < ((l.map Irow).length : Int) := by omega
    rw [List.take_of_length_le (by omega)] at hall
    refine R_ (o_ r_ (bw_ r_ r_ (T_ (am_ (ap_ r_ w_ (av_ (ax_ (ax_ (ba_ (al_ (R_ (E_ r_ (T_ (ar_ (jq_ret1 rfl rfl [] rfl (fun K h => by rw [hall] at h; exact h))))))))))))))))
theorem signedL_c (l : List Int) : Con Tryz.prog 68 [.cell (.list (l.map Irow))] [] (fun K => K (Bl (l.all smallB)) []) := by
  have eL : (l.map Irow).length = l.length := List.length_map _
  refine con_intro Tryz.func68 rfl rfl (Nat.le_of_ble_eq_true rfl) (fun c hc => R_ (E_ r_ (T_ (am_ (R_ (M_ r_ (o_ r_ (br_ r_ (fun hlen => M_ r_ (T_ (au_ (jc_loopS (ι := Nat) [] (fun k => k ≤ l.length ∧ (l.take k).all smallB = true) (fun k => [(5, .cell (.list (l.map Irow))), (6, In .i64 ((l.map Irow).length : Int)), (7, In .i64 (k : Int))]) (fun _ => []) (fun k => l.length - k) 0 ⟨Nat.zero_le _, rfl⟩ ?_ ?_ ?_))))))))))))
  · exact sub_end
  · (repeat (first | exact True.intro | refine ⟨rfl, ?_⟩))
  rintro k ⟨hk, hall⟩
  by_cases hlt : k < l.length
  · have hlt2 : (k : Int) < ((l.map Irow).length : Int) := by omega
    refine R_ (o_ r_ (bw_ r_ r_ (T_ (am_ (aq_ r_ u_ (as_ (al_ (B_ (R_ (o_ r_ (cc_ r_ r_ g_ r_ r_ b_ (o_ r_ (cb_ r_ r_ (E_ r_ (T_ (R_ (M_ r_ (o_ r_ (bw_ r_ r_ ?_)))))))))))))))))))
    refine M_ r_ (jl_or 2 2 rfl rfl rfl rfl (nb rfl) ?_)
    apply Exists.intro
    refine ⟨fun hb1 => ?_, ?_⟩
    exact ah_ r_ h_ b_ (bd_ r_ (ah_ r_ h_ b_ (bz_ r_ r_ (ak_ (jq_seg 2 rfl rfl rfl (List.Perm.refl _))))))
    refine T_ (jc_cond rfl (fun hn => ?_) (fun hy => ?_))
    · have hp : smallB l[k] = false := by
        unfold smallB
        simp only [Bool.or_eq_true, decide_eq_true_eq] at hn
        simp only [Bool.and_eq_false_iff, decide_eq_false_iff_not]
        omega
      have hno := all_no hlt hp
      refine R_ (E_ r_ (T_ (ar_ (az_ (aw_ (aw_ (az_ (aw_ (jq_ret1 rfl rfl [] rfl (fun K h => by rw [hno] at h; exact h))))))))))
    · have hp : smallB l[k] = true := by
        unfold smallB
        simp only [Bool.or_eq_false_iff, decide_eq_false_iff_not] at hy
        simp only [Bool.and_eq_true, decide_eq_true_eq]
        omega
      refine as_ (ay_ (al_ (an_ (o_ r_ (bj_ r_ r_ g_ (M_ r_ (ak_ (jq_againS (k + 1) ⟨hlt, all_snoc hlt hall hp⟩ g_ ?_ ?_))))))))
      · exact sub_end
      · (repeat (first | exact True.intro | refine ⟨rfl, ?_⟩))
  · have hlt2 : ¬ (k : Int) < ((l.map Irow).length : Int) := by omega
    rw [List.take_of_length_le (by omega)] at hall
    refine R_ (o_ r_ (bw_ r_ r_ (T_ (am_ (ap_ r_ w_ (av_ (ax_ (ax_ (ba_ (al_ (R_ (E_ r_ (T_ (ar_ (jq_ret1 rfl rfl [] rfl (fun K h => by rw [hall] at h; exact h))))))))))))))))
/-- The sign of an operator, or none. -/
def signA (o : Int) : ByteArray := if 1 ≤ o ∧ o ≤ 14 then signT o else ⟨#[]⟩
theorem signA_c (o : Int) : Con Tryz.prog 69 [In .i64 o] [] (fun K => K (Str (signA o)) []) := by
  by_cases h : 1 ≤ o ∧ o ≤ 14
  · have := Sign_c o h
    unfold signA
    rw [if_pos h]
    exact this
  · have e : signA o = ⟨#[]⟩ := by unfold signA; rw [if_neg h]
    refine con_intro Tryz.func69 rfl rfl (Nat.le_of_ble_eq_true rfl) (fun c hc => ?_)
    by_cases h1 : o < 1
    · refine R_ (E_ r_ (T_ (am_ (R_ (M_ r_ (o_ r_ (bw_ r_ r_ (M_ r_ (ai_ r_ u_ b_ (ai_ r_ u_ b_ (o_ r_ (bp_ r_ u_ r_ (T_ (aq_ r_ r_ (R_ (E_ r_ (T_ ?_)))))))))))))))))
      refine ar_ (aw_ (jq_ret1 rfl rfl [] rfl (fun K h => by rw [e] at h; exact h)))
    · have h2 : o > 14 := by omega
      refine R_ (E_ r_ (T_ (am_ (R_ (M_ r_ (o_ r_ (bw_ r_ r_ (M_ r_ (ah_ r_ w_ b_ (bd_ r_ (ah_ r_ w_ b_ (bz_ r_ r_ (o_ r_ (bv_ r_ w_ r_ (T_ (aq_ r_ u_ (R_ (E_ r_ (T_ ?_)))))))))))))))))))
      refine ar_ (aw_ (jq_ret1 rfl rfl [] rfl (fun K h => by rw [e] at h; exact h)))
theorem signA_ne (o : Int) : (!decide (signA o = ⟨#[]⟩)) = (decide (1 ≤ o) && decide (o ≤ 14)) := by
  by_cases h : 1 ≤ o ∧ o ≤ 14
  · have := str_ne h
    unfold signA
    rw [if_pos h, decide_eq_false this, decide_eq_true h.1, decide_eq_true h.2]
    rfl
  · unfold signA
    rw [if_neg h, decide_eq_true rfl]
    symm
    rw [Bool.not_true, Bool.and_eq_false_iff, decide_eq_false_iff_not, decide_eq_false_iff_not]
    omega
/-- An expression's own shape, without its parts. -/
def shHd : T → Bool
  | .nu n => smallB n
  | .nm s => nameB s
  | .ix s _ => nameB s
  | .bn o _ _ => decide (1 ≤ o) && decide (o ≤ 14)
theorem shp_hd (F : Nat) (t : T) : shpF (F + 1) t = (shHd t && t.args.all (shpF F)) := by
  cases t <;> simp [shpF, shHd, T.args, Bool.and_assoc]
theorem shapedB_c : ∀ (F : Nat) (t : T), F ≤ 20 → Con Tryz.prog 36 [.row t.row', In .i64 (21 - (F : Int))] [] (fun K => K (Bl (shpF F t)) []) := by
  intro F
  induction F with
  | zero =>
    intro t _
    refine con_intro Tryz.func36 rfl rfl (Nat.le_of_ble_eq_true rfl) (fun c hc => R_ (o_ r_ (ci_ r_ (fun bx => E_ r_ (T_ (am_ (R_ (M_ r_ (o_ r_ (bz_ r_ r_ (T_ (aq_ r_ r_ (R_ (E_ r_ (T_ (ar_ (aw_ ?_)))))))))))))))))
    refine jq_ret1 rfl rfl [] rfl (fun K h => h)
  | succ F ih =>
    intro t hF
    have eA : (t.args.map T.row).length = t.args.length := List.length_map _
    have hF1 : (21 - ((F + 1 : Nat) : Int) + 1) = 21 - (F : Int) := by omega
    have hF2 : ¬ 20 < (21 - ((F + 1 : Nat) : Int)) := by omega
    have hF3 : 0 ≤ (21 - ((F + 1 : Nat) : Int)) ∧ (21 - ((F + 1 : Nat) : Int)) ≤ 20 := by omega
    have ih := fun x => ih x (by omega)
    rw [← hF1] at ih
    have hsh := shp_hd F t
    generalize (21 - ((F + 1 : Nat) : Int)) = d at hF1 hF2 hF3 ih ⊢
    refine con_intro Tryz.func36 rfl rfl (Nat.le_of_ble_eq_true rfl) (fun c hc => R_ (o_ r_ (ci_ r_ (fun bx => E_ r_ (T_ (am_ (R_ (M_ r_ (o_ r_ (bz_ r_ r_ (T_ (ap_ r_ w_ (as_ (al_ (R_ (F_ r_ (L_ 0 r_ ?_)))))))))))))))))
    refine o_ r_ (bn_ r_ r_ (M_ r_ (jl_and 3 3 rfl rfl rfl rfl (nb rfl) ?_)))
    apply Exists.intro
    refine ⟨fun hb1 => ?_, ?_⟩
    exact ah_ r_ h_ b_ (bf_ r_ r_ r_ b_ (ah_ r_ h_ b_ (bg_ 0 r_ r_ r_ r_ (ah_ r_ h_ b_ (bn_ r_ r_ (ak_ (jq_seg 3 rfl rfl rfl (List.Perm.refl _))))))))
    refine E_ r_ (T_ (R_ (E_ r_ (T_ (am_ (R_ (F_ r_ (L_ 0 r_ (T_ (jc_cut (ι := Unit) [] (fun _ => True) (fun _ => [(1, In .i64 d), (2, .cell (.val (.pointer (some ⟨bx, 0, none⟩)))), (6, Bl (shHd t))]) (fun _ => [.blk bx 53 t.row']) ?_ ?_))))))))))
    · clear ih eA hsh
      cases t with
      | nu n =>
        refine au_ (R_ (o_ r_ (bn_ r_ r_ (E_ r_ (T_ (aq_ r_ x_ (an_ (F_ r_ (L_ 0 r_ (o_ r_ (bq_ r_ r_ b_ r_ r_ b_ (o_ r_ (bm_ r_ (signedL_c [n]) (M_ r_ (jl_and 3 4 rfl rfl rfl rfl (nb rfl) ?_)))))))))))))))
        apply Exists.intro
        refine ⟨fun hb1 => ?_, ?_⟩
        exact ah_ r_ h_ b_ (bf_ r_ r_ r_ b_ (ah_ r_ h_ b_ (bg_ 0 r_ r_ r_ r_ (ah_ r_ h_ b_ (cs_ r_ r_ (ak_ (jq_seg 3 rfl rfl rfl (List.Perm.refl _))))))))
        refine M_ r_ (jl_and 3 9 rfl rfl rfl rfl (nb rfl) ?_)
        apply Exists.intro
        refine ⟨fun hb1 => ?_, ?_⟩
        exact ah_ r_ h_ b_ (bf_ r_ r_ r_ b_ (ah_ r_ h_ b_ (bg_ 0 r_ r_ r_ r_ (ah_ r_ h_ b_ (bn_ r_ r_ (ak_ (jq_seg 3 rfl rfl rfl (List.Perm.refl _))))))))
        refine M_ r_ (jl_and 4 14 rfl rfl rfl rfl (nb rfl) ?_)
        apply Exists.intro
        refine ⟨fun hb1 => ?_, ?_⟩
        exact ah_ r_ h_ b_ (bf_ r_ r_ r_ b_ (ah_ r_ h_ b_ (bg_ 0 r_ r_ r_ r_ (ah_ r_ h_ b_ (br_ r_ (fun hlen => ah_ r_ h_ b_ (bn_ r_ r_ (ak_ (jq_seg 4 rfl rfl rfl (List.Perm.refl _))))))))))
        refine E_ r_ (ak_ (ay_ (jq_bl 6 rfl (b' := shHd (.nu n)) (by simp [shHd, T.num, T.name, T.op, T.args]) (jq_cutS () trivial ?_ ?_))))
        · exact bc_ 0 r_ sub_end
        · (repeat (first | exact True.intro | refine ⟨rfl, ?_⟩))
      | nm s =>
        refine au_ (R_ (o_ r_ (bn_ r_ r_ (E_ r_ (T_ (ap_ r_ r_ (R_ (o_ r_ (bn_ r_ r_ (E_ r_ (T_ (aq_ r_ x_ (an_ (F_ r_ (L_ 0 r_ (o_ r_ (bm_ r_ (namedB_c _) (M_ r_ ?_))))))))))))))))))
        refine jl_and 1 3 rfl rfl rfl rfl (nb rfl) ?_
        apply Exists.intro
        refine ⟨fun hb1 => ?_, ?_⟩
        exact ah_ r_ h_ b_ (bd_ r_ (ak_ (jq_seg 1 rfl rfl rfl (List.Perm.refl _))))
        refine M_ r_ (jl_and 4 6 rfl rfl rfl rfl (nb rfl) ?_)
        apply Exists.intro
        refine ⟨fun hb1 => ?_, ?_⟩
        exact ah_ r_ h_ b_ (bf_ r_ r_ r_ b_ (ah_ r_ h_ b_ (bg_ 0 r_ r_ r_ r_ (ah_ r_ h_ b_ (br_ r_ (fun hlen => ah_ r_ h_ b_ (bn_ r_ r_ (ak_ (jq_seg 4 rfl rfl rfl (List.Perm.refl _))))))))))
        refine E_ r_ (ak_ (ay_ (jq_bl 6 rfl (b' := shHd (.nm s)) (by simp [shHd, T.num, T.name, T.op, T.args]) (jq_cutS () trivial ?_ ?_))))
        · exact bc_ 0 r_ sub_end
        · (repeat (first | exact True.intro | refine ⟨rfl, ?_⟩))
      | ix s t =>
        refine au_ (R_ (o_ r_ (bn_ r_ r_ (E_ r_ (T_ (ap_ r_ r_ (R_ (o_ r_ (bn_ r_ r_ (E_ r_ (T_ (ap_ r_ r_ (R_ (o_ r_ (bn_ r_ r_ (E_ r_ (T_ (aq_ r_ x_ ?_))))))))))))))))))
        refine an_ (F_ r_ (L_ 0 r_ (o_ r_ (bm_ r_ (namedB_c _) (M_ r_ (jl_and 1 3 rfl rfl rfl rfl (nb rfl) ?_))))))
        apply Exists.intro
        refine ⟨fun hb1 => ?_, ?_⟩
        exact ah_ r_ h_ b_ (bd_ r_ (ak_ (jq_seg 1 rfl rfl rfl (List.Perm.refl _))))
        refine M_ r_ (jl_and 4 6 rfl rfl rfl rfl (nb rfl) ?_)
        apply Exists.intro
        refine ⟨fun hb1 => ?_, ?_⟩
        exact ah_ r_ h_ b_ (bf_ r_ r_ r_ b_ (ah_ r_ h_ b_ (bg_ 0 r_ r_ r_ r_ (ah_ r_ h_ b_ (br_ r_ (fun hlen => ah_ r_ h_ b_ (bn_ r_ r_ (ak_ (jq_seg 4 rfl rfl rfl (List.Perm.refl _))))))))))
        refine E_ r_ (ak_ (ay_ (jq_bl 6 rfl (b' := shHd (.ix s t)) (by simp [shHd, T.num, T.name, T.op, T.args]) (jq_cutS () trivial ?_ ?_))))
        · exact bc_ 0 r_ sub_end
        · (repeat (first | exact True.intro | refine ⟨rfl, ?_⟩))
      | bn o a b =>
        have hne : decide (¬ signA o = ⟨#[]⟩) = (decide (1 ≤ o) && decide (o ≤ 14)) := by rw [← signA_ne, decide_not]
        refine au_ (R_ (o_ r_ (bn_ r_ r_ (E_ r_ (T_ (ap_ r_ r_ (R_ (o_ r_ (bn_ r_ r_ (E_ r_ (T_ (ap_ r_ r_ (R_ (o_ r_ (bn_ r_ r_ (E_ r_ (T_ (ap_ r_ r_ ?_))))))))))))))))))
        refine R_ (o_ r_ (bn_ r_ r_ (E_ r_ (T_ (aq_ r_ x_ (an_ (F_ r_ (L_ 0 r_ (o_ r_ (bm_ r_ (signA_c _) (o_ r_ (ct_ r_ r_ (M_ r_ (jl_and 3 4 rfl rfl rfl rfl (nb rfl) ?_))))))))))))))
        apply Exists.intro
        refine ⟨fun hb1 => ?_, ?_⟩
        exact ah_ r_ h_ b_ (bf_ r_ r_ r_ b_ (ah_ r_ h_ b_ (bg_ 0 r_ r_ r_ r_ (ah_ r_ h_ b_ (bn_ r_ r_ (ak_ (jq_seg 3 rfl rfl rfl (List.Perm.refl _))))))))
        refine M_ r_ (jl_and 3 9 rfl rfl rfl rfl (nb rfl) ?_)
        apply Exists.intro
        refine ⟨fun hb1 => ?_, ?_⟩
        exact ah_ r_ h_ b_ (bf_ r_ r_ r_ b_ (ah_ r_ h_ b_ (bg_ 0 r_ r_ r_ r_ (ah_ r_ h_ b_ (cs_ r_ r_ (ak_ (jq_seg 3 rfl rfl rfl (List.Perm.refl _))))))))
        refine M_ r_ (jl_and 4 14 rfl rfl rfl rfl (nb rfl) ?_)
        apply Exists.intro
        refine ⟨fun hb1 => ?_, ?_⟩
        exact ah_ r_ h_ b_ (bf_ r_ r_ r_ b_ (ah_ r_ h_ b_ (bg_ 0 r_ r_ r_ r_ (ah_ r_ h_ b_ (br_ r_ (fun hlen => ah_ r_ h_ b_ (bn_ r_ r_ (ak_ (jq_seg 4 rfl rfl rfl (List.Perm.refl _))))))))))
        refine E_ r_ (ak_ (ay_ (jq_bl 6 rfl (b' := shHd (.bn o a b)) (by rw [shHd, ← hne]; by_cases hz : signA o = ⟨#[]⟩ <;> simp [T.num, T.name, T.op, T.args, hz]) (jq_cutS () trivial ?_ ?_))))
        · exact bc_ 0 r_ sub_end
        · (repeat (first | exact True.intro | refine ⟨rfl, ?_⟩))
    · intro _ _
      refine am_ (R_ (F_ r_ (L_ 0 r_ (o_ r_ (br_ r_ (fun hlen => M_ r_ (T_ (au_ (jc_loopS (ι := Nat) [] (fun k => k ≤ t.args.length) (fun k => [(1, In .i64 d), (6, Bl (shHd t && (t.args.take k).all (shpF F))), (94, .cell (.list (t.args.map T.row))), (95, In .i64 ((t.args.map T.row).length : Int)), (96, In .i64 (k : Int))]) (fun _ => []) (fun k => t.args.length - k) 0 (Nat.zero_le _) ?_ ?_ ?_)))))))))
      · exact sub_end
      · rw [show (shHd t && (t.args.take 0).all (shpF F)) = shHd t by simp]
        (repeat (first | exact True.intro | refine ⟨rfl, ?_⟩))
      intro k hk
      by_cases hlt : k < t.args.length
      · have hlt2 : (k : Int) < ((t.args.map T.row).length : Int) := by omega
        have ih1 := ih t.args[k]
        have e1 : (shHd t && (t.args.take (k + 1)).all (shpF F)) = ((shHd t && (t.args.take k).all (shpF F)) && shpF F t.args[k]) := by
          rw [List.take_succ_eq_append_getElem hlt, List.all_append, Bool.and_assoc]
          simp
        generalize (shHd t && (t.args.take k).all (shpF F)) = z at e1 ⊢
        refine R_ (o_ r_ (bw_ r_ r_ (T_ (am_ (aq_ r_ u_ (as_ (al_ (B_ (R_ (o_ r_ (cc_ r_ r_ g_ (T.row_eq _) r_ b_ (o_ r_ (cr_ r_ r_ r_ (o_ r_ (bl_ r_ r_ (fun bl => S_ 0 r_ (T_ (an_ (M_ r_ ?_)))))))))))))))))))
        refine M_ r_ (jl_and 4 1 rfl rfl rfl rfl (nb rfl) ?_)
        apply Exists.intro
        refine ⟨fun hb1 => ?_, ?_⟩
        exact ah_ r_ h_ b_ (bs_ 0 r_ r_ r_ r_ (ah_ r_ h_ b_ (bd_ r_ (ah_ r_ h_ b_ (bj_ r_ r_ g_ (ah_ r_ h_ b_ (bm_ r_ (ih1) (ak_ (jq_seg 4 rfl rfl rfl (List.Perm.refl _))))))))))
        refine E_ r_ (ak_ (ay_ (al_ (an_ (o_ r_ (bj_ r_ r_ g_ (M_ r_ (ak_ (jq_againS (k + 1) hlt g_ ?_ ?_)))))))))
        · exact sub_end
        · rw [e1]
          (repeat (first | exact True.intro | refine ⟨rfl, ?_⟩))
      · have hlt2 : ¬ (k : Int) < ((t.args.map T.row).length : Int) := by omega
        rw [List.take_of_length_le (show t.args.length ≤ k by omega), ← hsh]
        refine R_ (o_ r_ (bw_ r_ r_ (T_ (am_ (ap_ r_ w_ (av_ (ax_ (ax_ (ba_ (al_ (R_ (M_ r_ (E_ r_ (T_ (ar_ (jq_ret1 rfl rfl [] rfl (fun K h => h)))))))))))))))))
end Go.Proofs.YtlniadfidfmckaaGreatDoor
end

section
namespace Go.Proofs.YtlniadfidfmckaaGreatDoor
open Go.Vc
attribute [local irreducible] JL JC JQ OpWp Con ConN
attribute [local irreducible] byteAt runLen isL isD isName hasW
set_option maxHeartbeats 4000000

def rightB (s : Sm) : Bool :=
  if s.kind = 1 then nameB s.name && decide (s.index.length = 0) && decide (s.value.length = 1) && (decide (s.max = 0) && decide (s.label = 0)) && decide (s.thn.length + s.els.length = 0)
  else if s.kind = 2 then nameB s.name && decide (s.index.length = 1) && decide (s.value.length = 1) && (decide (s.max = 0) && decide (s.label = 0)) && decide (s.thn.length + s.els.length = 0)
  else if s.kind = 3 then decide (s.name = ⟨#[]⟩) && decide (s.index.length = 0) && decide (s.value.length = 1) && decide (s.max = 0) && plainB s.label
  else if s.kind = 4 then decide (s.name = ⟨#[]⟩) && decide (s.index.length = 0) && decide (s.value.length = 1) && (plainB s.max && plainB s.label) && decide (s.els.length = 0)
  else if s.kind = 5 then nameB s.name && decide (s.index.length = 0) && decide (s.value.length = 0) && (decide (s.max = 0) && decide (s.label = 0)) && decide (s.els.length = 0)
  else false
theorem wrap0 (a b : Nat) (ha : a ≤ 9223372036854775807) (hb : b ≤ 9223372036854775807) : decide (IntKind.i64.wrap ((a : Int) + (b : Int)) = 0) = decide (a + b = 0) := by
  rw [decide_eq_decide]
  simp only [IntKind.wrap, IntKind.bits, IntKind.signed]
  simp
  omega
theorem right_c (s : Sm) : Con Tryz.prog 75 [.row s.row'] [] (fun K => K (Bl (rightB s)) []) := by
  have eI : (s.index.map T.row).length = s.index.length := List.length_map _
  have eV : (s.value.map T.row).length = s.value.length := List.length_map _
  have eT : (s.thn.map Sm.row).length = s.thn.length := List.length_map _
  have eE : (s.els.map Sm.row).length = s.els.length := List.length_map _
  have d0 : ∀ n : Nat, decide ((n : Int) = 0) = decide (n = 0) := fun n => by rw [decide_eq_decide]; omega
  have d1 : ∀ n : Nat, decide ((n : Int) = 1) = decide (n = 1) := fun n => by rw [decide_eq_decide]; omega
  refine con_intro Tryz.func75 rfl rfl (Nat.le_of_ble_eq_true rfl) (fun c hc => ?_)
  have hk : s.kind = 1 ∨ s.kind = 2 ∨ s.kind = 3 ∨ s.kind = 4 ∨ s.kind = 5 ∨ ¬ (s.kind = 1 ∨ s.kind = 2 ∨ s.kind = 3 ∨ s.kind = 4 ∨ s.kind = 5) := by omega
  rcases hk with hk | hk | hk | hk | hk | hk
  · have e : rightB s = _ := if_pos hk
    refine R_ (o_ r_ (ci_ r_ (fun bx => E_ r_ (T_ (R_ (F_ r_ (L_ 0 r_ (o_ r_ (br_ r_ (fun hlen => F_ r_ (L_ 0 r_ (o_ r_ (br_ r_ (fun hlen => o_ r_ (ow_add r_ r_ (o_ r_ (bn_ r_ r_ (E_ r_ (T_ (R_ ?_))))))))))))))))))))
    refine F_ r_ (L_ 0 r_ (o_ r_ (bn_ r_ r_ (M_ r_ (jl_and 3 3 rfl rfl rfl rfl (nb rfl) ?_)))))
    apply Exists.intro
    refine ⟨fun hb1 => ?_, ?_⟩
    exact ah_ r_ h_ b_ (bf_ r_ r_ r_ b_ (ah_ r_ h_ b_ (bg_ 0 r_ r_ r_ r_ (ah_ r_ h_ b_ (bn_ r_ r_ (ak_ (jq_seg 3 rfl rfl rfl (List.Perm.refl _))))))))
    refine E_ r_ (T_ (am_ (R_ (F_ r_ (L_ 0 r_ (T_ (au_ (R_ (o_ r_ (bn_ r_ r_ (E_ r_ (T_ (aq_ r_ u_ (R_ (F_ r_ (L_ 0 r_ ?_))))))))))))))))
    refine o_ r_ (bm_ r_ (namedB_c _) (M_ r_ (jl_and 4 3 rfl rfl rfl rfl (nb rfl) ?_)))
    apply Exists.intro
    refine ⟨fun hb1 => ?_, ?_⟩
    exact ah_ r_ h_ b_ (bf_ r_ r_ r_ b_ (ah_ r_ h_ b_ (bg_ 0 r_ r_ r_ r_ (ah_ r_ h_ b_ (br_ r_ (fun hlen => ah_ r_ h_ b_ (bn_ r_ r_ (ak_ (jq_seg 4 rfl rfl rfl (List.Perm.refl _))))))))))
    refine M_ r_ (jl_and 4 9 rfl rfl rfl rfl (nb rfl) ?_)
    apply Exists.intro
    refine ⟨fun hb1 => ?_, ?_⟩
    exact ah_ r_ h_ b_ (bf_ r_ r_ r_ b_ (ah_ r_ h_ b_ (bg_ 0 r_ r_ r_ r_ (ah_ r_ h_ b_ (br_ r_ (fun hlen => ah_ r_ h_ b_ (bn_ r_ r_ (ak_ (jq_seg 4 rfl rfl rfl (List.Perm.refl _))))))))))
    refine M_ r_ (jl_and 1 15 rfl rfl rfl rfl (nb rfl) ?_)
    apply Exists.intro
    refine ⟨fun hb1 => ?_, ?_⟩
    exact ah_ r_ h_ b_ (bd_ r_ (ak_ (jq_seg 1 rfl rfl rfl (List.Perm.refl _))))
    refine M_ r_ (jl_and 1 18 rfl rfl rfl rfl (nb rfl) ?_)
    apply Exists.intro
    refine ⟨fun hb1 => ?_, ?_⟩
    exact ah_ r_ h_ b_ (bd_ r_ (ak_ (jq_seg 1 rfl rfl rfl (List.Perm.refl _))))
    refine E_ r_ (T_ (ar_ (az_ (aw_ (jq_bl 2 rfl (b' := rightB s) ?_ ?_)))))
    · rw [e, wrap0 (s.thn.map Sm.row).length (s.els.map Sm.row).length (by assumption) (by assumption), d0, d1, eI, eV, eT, eE]
    refine jq_ret1 rfl rfl [] rfl (fun K h => h)
  · have e : rightB s = _ := (if_neg (by omega)).trans (if_pos hk)
    refine R_ (o_ r_ (ci_ r_ (fun bx => E_ r_ (T_ (R_ (F_ r_ (L_ 0 r_ (o_ r_ (br_ r_ (fun hlen => F_ r_ (L_ 0 r_ (o_ r_ (br_ r_ (fun hlen => o_ r_ (ow_add r_ r_ (o_ r_ (bn_ r_ r_ (E_ r_ (T_ (R_ ?_))))))))))))))))))))
    refine F_ r_ (L_ 0 r_ (o_ r_ (bn_ r_ r_ (M_ r_ (jl_and 3 3 rfl rfl rfl rfl (nb rfl) ?_)))))
    apply Exists.intro
    refine ⟨fun hb1 => ?_, ?_⟩
    exact ah_ r_ h_ b_ (bf_ r_ r_ r_ b_ (ah_ r_ h_ b_ (bg_ 0 r_ r_ r_ r_ (ah_ r_ h_ b_ (bn_ r_ r_ (ak_ (jq_seg 3 rfl rfl rfl (List.Perm.refl _))))))))
    refine E_ r_ (T_ (am_ (R_ (F_ r_ (L_ 0 r_ (T_ (au_ (R_ (o_ r_ (bn_ r_ r_ (E_ r_ (T_ (ap_ r_ v_ (R_ (o_ r_ (bn_ r_ r_ (E_ r_ ?_)))))))))))))))))
    refine T_ (aq_ r_ u_ (R_ (F_ r_ (L_ 0 r_ (o_ r_ (bm_ r_ (namedB_c _) (M_ r_ (jl_and 4 3 rfl rfl rfl rfl (nb rfl) ?_))))))))
    apply Exists.intro
    refine ⟨fun hb1 => ?_, ?_⟩
    exact ah_ r_ h_ b_ (bf_ r_ r_ r_ b_ (ah_ r_ h_ b_ (bg_ 0 r_ r_ r_ r_ (ah_ r_ h_ b_ (br_ r_ (fun hlen => ah_ r_ h_ b_ (bn_ r_ r_ (ak_ (jq_seg 4 rfl rfl rfl (List.Perm.refl _))))))))))
    refine M_ r_ (jl_and 4 9 rfl rfl rfl rfl (nb rfl) ?_)
    apply Exists.intro
    refine ⟨fun hb1 => ?_, ?_⟩
    exact ah_ r_ h_ b_ (bf_ r_ r_ r_ b_ (ah_ r_ h_ b_ (bg_ 0 r_ r_ r_ r_ (ah_ r_ h_ b_ (br_ r_ (fun hlen => ah_ r_ h_ b_ (bn_ r_ r_ (ak_ (jq_seg 4 rfl rfl rfl (List.Perm.refl _))))))))))
    refine M_ r_ (jl_and 1 15 rfl rfl rfl rfl (nb rfl) ?_)
    apply Exists.intro
    refine ⟨fun hb1 => ?_, ?_⟩
    exact ah_ r_ h_ b_ (bd_ r_ (ak_ (jq_seg 1 rfl rfl rfl (List.Perm.refl _))))
    refine M_ r_ (jl_and 1 18 rfl rfl rfl rfl (nb rfl) ?_)
    apply Exists.intro
    refine ⟨fun hb1 => ?_, ?_⟩
    exact ah_ r_ h_ b_ (bd_ r_ (ak_ (jq_seg 1 rfl rfl rfl (List.Perm.refl _))))
    refine E_ r_ (T_ (ar_ (az_ (aw_ (jq_bl 2 rfl (b' := rightB s) ?_ ?_)))))
    · rw [e, wrap0 (s.thn.map Sm.row).length (s.els.map Sm.row).length (by assumption) (by assumption), d1, d1, eI, eV, eT, eE]
    refine jq_ret1 rfl rfl [] rfl (fun K h => h)
  · have e : rightB s = _ := (if_neg (by omega)).trans ((if_neg (by omega)).trans (if_pos hk))
    refine R_ (o_ r_ (ci_ r_ (fun bx => E_ r_ (T_ (R_ (F_ r_ (L_ 0 r_ (o_ r_ (br_ r_ (fun hlen => F_ r_ (L_ 0 r_ (o_ r_ (br_ r_ (fun hlen => o_ r_ (ow_add r_ r_ (o_ r_ (bn_ r_ r_ (E_ r_ (T_ (R_ ?_))))))))))))))))))))
    refine F_ r_ (L_ 0 r_ (o_ r_ (bn_ r_ r_ (M_ r_ (jl_and 3 3 rfl rfl rfl rfl (nb rfl) ?_)))))
    apply Exists.intro
    refine ⟨fun hb1 => ?_, ?_⟩
    exact ah_ r_ h_ b_ (bf_ r_ r_ r_ b_ (ah_ r_ h_ b_ (bg_ 0 r_ r_ r_ r_ (ah_ r_ h_ b_ (bn_ r_ r_ (ak_ (jq_seg 3 rfl rfl rfl (List.Perm.refl _))))))))
    refine E_ r_ (T_ (am_ (R_ (F_ r_ (L_ 0 r_ (T_ (au_ (R_ (o_ r_ (bn_ r_ r_ (E_ r_ (T_ (ap_ r_ v_ (R_ (o_ r_ (bn_ r_ r_ (E_ r_ ?_)))))))))))))))))
    refine T_ (ap_ r_ v_ (R_ (o_ r_ (bn_ r_ r_ (E_ r_ (T_ (aq_ r_ u_ (R_ (F_ r_ (L_ 0 r_ (o_ r_ (cs_ r_ r_ (M_ r_ (jl_and 4 3 rfl rfl rfl rfl (nb rfl) ?_))))))))))))))
    apply Exists.intro
    refine ⟨fun hb1 => ?_, ?_⟩
    exact ah_ r_ h_ b_ (bf_ r_ r_ r_ b_ (ah_ r_ h_ b_ (bg_ 0 r_ r_ r_ r_ (ah_ r_ h_ b_ (br_ r_ (fun hlen => ah_ r_ h_ b_ (bn_ r_ r_ (ak_ (jq_seg 4 rfl rfl rfl (List.Perm.refl _))))))))))
    refine M_ r_ (jl_and 4 9 rfl rfl rfl rfl (nb rfl) ?_)
    apply Exists.intro
    refine ⟨fun hb1 => ?_, ?_⟩
    exact ah_ r_ h_ b_ (bf_ r_ r_ r_ b_ (ah_ r_ h_ b_ (bg_ 0 r_ r_ r_ r_ (ah_ r_ h_ b_ (br_ r_ (fun hlen => ah_ r_ h_ b_ (bn_ r_ r_ (ak_ (jq_seg 4 rfl rfl rfl (List.Perm.refl _))))))))))
    refine M_ r_ (jl_and 3 15 rfl rfl rfl rfl (nb rfl) ?_)
    apply Exists.intro
    refine ⟨fun hb1 => ?_, ?_⟩
    exact ah_ r_ h_ b_ (bf_ r_ r_ r_ b_ (ah_ r_ h_ b_ (bg_ 0 r_ r_ r_ r_ (ah_ r_ h_ b_ (bn_ r_ r_ (ak_ (jq_seg 3 rfl rfl rfl (List.Perm.refl _))))))))
    refine M_ r_ (jl_and 4 20 rfl rfl rfl rfl (nb rfl) ?_)
    apply Exists.intro
    refine ⟨fun hb1 => ?_, ?_⟩
    exact ah_ r_ h_ b_ (bf_ r_ r_ r_ b_ (ah_ r_ h_ b_ (bg_ 0 r_ r_ r_ r_ (ah_ r_ h_ b_ (bq_ r_ r_ b_ r_ r_ b_ (ah_ r_ h_ b_ (bm_ r_ (plainL_c [s.label]) (ak_ (jq_seg 4 rfl rfl rfl (List.Perm.refl _))))))))))
    refine E_ r_ (T_ (ar_ (az_ (aw_ (jq_bl 2 rfl (b' := rightB s) ?_ ?_)))))
    · rw [e, d0, d1, eI, eV]
      simp [Bool.and_assoc]
    refine jq_ret1 rfl rfl [] rfl (fun K h => h)
  · have e : rightB s = _ := (if_neg (by omega)).trans ((if_neg (by omega)).trans ((if_neg (by omega)).trans (if_pos hk)))
    refine R_ (o_ r_ (ci_ r_ (fun bx => E_ r_ (T_ (R_ (F_ r_ (L_ 0 r_ (o_ r_ (br_ r_ (fun hlen => F_ r_ (L_ 0 r_ (o_ r_ (br_ r_ (fun hlen => o_ r_ (ow_add r_ r_ (o_ r_ (bn_ r_ r_ (E_ r_ (T_ (R_ ?_))))))))))))))))))))
    refine F_ r_ (L_ 0 r_ (o_ r_ (bn_ r_ r_ (M_ r_ (jl_and 3 3 rfl rfl rfl rfl (nb rfl) ?_)))))
    apply Exists.intro
    refine ⟨fun hb1 => ?_, ?_⟩
    exact ah_ r_ h_ b_ (bf_ r_ r_ r_ b_ (ah_ r_ h_ b_ (bg_ 0 r_ r_ r_ r_ (ah_ r_ h_ b_ (bn_ r_ r_ (ak_ (jq_seg 3 rfl rfl rfl (List.Perm.refl _))))))))
    refine E_ r_ (T_ (am_ (R_ (F_ r_ (L_ 0 r_ (T_ (au_ (R_ (o_ r_ (bn_ r_ r_ (E_ r_ (T_ (ap_ r_ v_ (R_ (o_ r_ (bn_ r_ r_ (E_ r_ ?_)))))))))))))))))
    refine T_ (ap_ r_ v_ (R_ (o_ r_ (bn_ r_ r_ (E_ r_ (T_ (ap_ r_ v_ (R_ (o_ r_ (bn_ r_ r_ (E_ r_ (T_ (aq_ r_ u_ (R_ (F_ r_ (L_ 0 r_ (o_ r_ (cs_ r_ r_ ?_))))))))))))))))))
    refine M_ r_ (jl_and 4 3 rfl rfl rfl rfl (nb rfl) ?_)
    apply Exists.intro
    refine ⟨fun hb1 => ?_, ?_⟩
    exact ah_ r_ h_ b_ (bf_ r_ r_ r_ b_ (ah_ r_ h_ b_ (bg_ 0 r_ r_ r_ r_ (ah_ r_ h_ b_ (br_ r_ (fun hlen => ah_ r_ h_ b_ (bn_ r_ r_ (ak_ (jq_seg 4 rfl rfl rfl (List.Perm.refl _))))))))))
    refine M_ r_ (jl_and 4 9 rfl rfl rfl rfl (nb rfl) ?_)
    apply Exists.intro
    refine ⟨fun hb1 => ?_, ?_⟩
    exact ah_ r_ h_ b_ (bf_ r_ r_ r_ b_ (ah_ r_ h_ b_ (bg_ 0 r_ r_ r_ r_ (ah_ r_ h_ b_ (br_ r_ (fun hlen => ah_ r_ h_ b_ (bn_ r_ r_ (ak_ (jq_seg 4 rfl rfl rfl (List.Perm.refl _))))))))))
    refine M_ r_ (jl_and 6 15 rfl rfl rfl rfl (nb rfl) ?_)
    apply Exists.intro
    refine ⟨fun hb1 => ?_, ?_⟩
    exact ah_ r_ h_ b_ (bf_ r_ r_ r_ b_ (ah_ r_ h_ b_ (bg_ 0 r_ r_ r_ r_ (ah_ r_ h_ b_ (bf_ r_ r_ r_ b_ (ah_ r_ h_ b_ (bg_ 0 r_ r_ r_ r_ (ah_ r_ h_ b_ (bq_ r_ r_ b_ r_ r_ b_ (ah_ r_ h_ b_ (bm_ r_ (plainL_c [s.max, s.label]) (ak_ (jq_seg 6 rfl rfl rfl (List.Perm.refl _))))))))))))))
    refine M_ r_ (jl_and 4 23 rfl rfl rfl rfl (nb rfl) ?_)
    apply Exists.intro
    refine ⟨fun hb1 => ?_, ?_⟩
    exact ah_ r_ h_ b_ (bf_ r_ r_ r_ b_ (ah_ r_ h_ b_ (bg_ 0 r_ r_ r_ r_ (ah_ r_ h_ b_ (br_ r_ (fun hlen => ah_ r_ h_ b_ (bn_ r_ r_ (ak_ (jq_seg 4 rfl rfl rfl (List.Perm.refl _))))))))))
    refine E_ r_ (T_ (ar_ (az_ (aw_ (jq_bl 2 rfl (b' := rightB s) ?_ ?_)))))
    · rw [e, d0, d1, d0, eI, eV, eE]
      simp [Bool.and_assoc]
    refine jq_ret1 rfl rfl [] rfl (fun K h => h)
  · have e : rightB s = _ := (if_neg (by omega)).trans ((if_neg (by omega)).trans ((if_neg (by omega)).trans ((if_neg (by omega)).trans (if_pos hk))))
    refine R_ (o_ r_ (ci_ r_ (fun bx => E_ r_ (T_ (R_ (F_ r_ (L_ 0 r_ (o_ r_ (br_ r_ (fun hlen => F_ r_ (L_ 0 r_ (o_ r_ (br_ r_ (fun hlen => o_ r_ (ow_add r_ r_ (o_ r_ (bn_ r_ r_ (E_ r_ (T_ (R_ ?_))))))))))))))))))))
    refine F_ r_ (L_ 0 r_ (o_ r_ (bn_ r_ r_ (M_ r_ (jl_and 3 3 rfl rfl rfl rfl (nb rfl) ?_)))))
    apply Exists.intro
    refine ⟨fun hb1 => ?_, ?_⟩
    exact ah_ r_ h_ b_ (bf_ r_ r_ r_ b_ (ah_ r_ h_ b_ (bg_ 0 r_ r_ r_ r_ (ah_ r_ h_ b_ (bn_ r_ r_ (ak_ (jq_seg 3 rfl rfl rfl (List.Perm.refl _))))))))
    refine E_ r_ (T_ (am_ (R_ (F_ r_ (L_ 0 r_ (T_ (au_ (R_ (o_ r_ (bn_ r_ r_ (E_ r_ (T_ (ap_ r_ v_ (R_ (o_ r_ (bn_ r_ r_ (E_ r_ ?_)))))))))))))))))
    refine T_ (ap_ r_ v_ (R_ (o_ r_ (bn_ r_ r_ (E_ r_ (T_ (ap_ r_ v_ (R_ (o_ r_ (bn_ r_ r_ (E_ r_ (T_ (ap_ r_ v_ (R_ (o_ r_ (bn_ r_ r_ (E_ r_ (T_ ?_))))))))))))))))))
    refine aq_ r_ u_ (R_ (F_ r_ (L_ 0 r_ (o_ r_ (bm_ r_ (namedB_c _) (M_ r_ (jl_and 4 3 rfl rfl rfl rfl (nb rfl) ?_)))))))
    apply Exists.intro
    refine ⟨fun hb1 => ?_, ?_⟩
    exact ah_ r_ h_ b_ (bf_ r_ r_ r_ b_ (ah_ r_ h_ b_ (bg_ 0 r_ r_ r_ r_ (ah_ r_ h_ b_ (br_ r_ (fun hlen => ah_ r_ h_ b_ (bn_ r_ r_ (ak_ (jq_seg 4 rfl rfl rfl (List.Perm.refl _))))))))))
    refine M_ r_ (jl_and 4 9 rfl rfl rfl rfl (nb rfl) ?_)
    apply Exists.intro
    refine ⟨fun hb1 => ?_, ?_⟩
    exact ah_ r_ h_ b_ (bf_ r_ r_ r_ b_ (ah_ r_ h_ b_ (bg_ 0 r_ r_ r_ r_ (ah_ r_ h_ b_ (br_ r_ (fun hlen => ah_ r_ h_ b_ (bn_ r_ r_ (ak_ (jq_seg 4 rfl rfl rfl (List.Perm.refl _))))))))))
    refine M_ r_ (jl_and 1 15 rfl rfl rfl rfl (nb rfl) ?_)
    apply Exists.intro
    refine ⟨fun hb1 => ?_, ?_⟩
    exact ah_ r_ h_ b_ (bd_ r_ (ak_ (jq_seg 1 rfl rfl rfl (List.Perm.refl _))))
    refine M_ r_ (jl_and 4 18 rfl rfl rfl rfl (nb rfl) ?_)
    apply Exists.intro
    refine ⟨fun hb1 => ?_, ?_⟩
    exact ah_ r_ h_ b_ (bf_ r_ r_ r_ b_ (ah_ r_ h_ b_ (bg_ 0 r_ r_ r_ r_ (ah_ r_ h_ b_ (br_ r_ (fun hlen => ah_ r_ h_ b_ (bn_ r_ r_ (ak_ (jq_seg 4 rfl rfl rfl (List.Perm.refl _))))))))))
    refine E_ r_ (T_ (ar_ (az_ (aw_ (jq_bl 2 rfl (b' := rightB s) ?_ ?_)))))
    · rw [e, d0, d0, d0, eI, eV, eE]
    refine jq_ret1 rfl rfl [] rfl (fun K h => h)
  · have e : rightB s = false := (if_neg (by omega)).trans ((if_neg (by omega)).trans ((if_neg (by omega)).trans ((if_neg (by omega)).trans (if_neg (by omega)))))
    refine R_ (o_ r_ (ci_ r_ (fun bx => E_ r_ (T_ (R_ (F_ r_ (L_ 0 r_ (o_ r_ (br_ r_ (fun hlen => F_ r_ (L_ 0 r_ (o_ r_ (br_ r_ (fun hlen => o_ r_ (ow_add r_ r_ (o_ r_ (bn_ r_ r_ (E_ r_ (T_ (R_ ?_))))))))))))))))))))
    refine F_ r_ (L_ 0 r_ (o_ r_ (bn_ r_ r_ (M_ r_ (jl_and 3 3 rfl rfl rfl rfl (nb rfl) ?_)))))
    apply Exists.intro
    refine ⟨fun hb1 => ?_, ?_⟩
    exact ah_ r_ h_ b_ (bf_ r_ r_ r_ b_ (ah_ r_ h_ b_ (bg_ 0 r_ r_ r_ r_ (ah_ r_ h_ b_ (bn_ r_ r_ (ak_ (jq_seg 3 rfl rfl rfl (List.Perm.refl _))))))))
    refine E_ r_ (T_ (am_ (R_ (F_ r_ (L_ 0 r_ (T_ (au_ (R_ (o_ r_ (bn_ r_ r_ (E_ r_ (T_ (ap_ r_ v_ (R_ (o_ r_ (bn_ r_ r_ (E_ r_ ?_)))))))))))))))))
    refine T_ (ap_ r_ v_ (R_ (o_ r_ (bn_ r_ r_ (E_ r_ (T_ (ap_ r_ v_ (R_ (o_ r_ (bn_ r_ r_ (E_ r_ (T_ (ap_ r_ v_ (R_ (o_ r_ (bn_ r_ r_ (E_ r_ (T_ ?_))))))))))))))))))
    refine ap_ r_ v_ (as_ (ay_ (al_ (R_ (E_ r_ (T_ (ar_ (jq_ret1 rfl rfl [] rfl (fun K h => by rw [e] at h; exact h)))))))))
end Go.Proofs.YtlniadfidfmckaaGreatDoor
end

section
namespace Go.Vc
open Go.RowKit

section
variable {P : Program} [Gl P] {nt : Nat} {c : Cx P nt} {env : Env} {H Hr : List Ch} {K : S → List Ch → Prop}
variable {d : Option Tmp} {ty t t' u : TypeId} {pos : String} {af : Array Edge} {g : Option (Nat × Bool)} {x y : Operand}
end
end Go.Vc
end

section
namespace Go.Vc
open Go.RowKit
set_option maxHeartbeats 1000000
section
variable {P : Program} [Gl P] {nt : Nat} {c : Cx P nt} {env : Env} {H : List Ch} {K : S → List Ch → Prop} {d : Option Tmp} {t tn ty : TypeId} {pos : String} {af : Array Edge} {g : Option (Nat × Bool)} {x y : Operand}

/-- append(nil, make([]E, n)...): a slice of one's own. -/
theorem ow_growNil [SL P t] [TI P tn] {z : Value} (n : Nat) (hn : TI.u P tn = .int .i64) (hz : (TI.i P (SL.e P t)).zero = some z) (h1 : z.cells.toList.all Value.oneCell' = true) (hsz : (TI.i P (SL.e P t)).size = z.cells.size) (hpos : 0 < z.cells.size)
    (hx : env.ev x = some (.cell (.val (.slice none 0 0)))) {m : Int} (hy : env.ev y = some (In .i64 m)) (hm : m = n) (h0 : 0 < n) (hlim : n * (TI.i P (SL.e P t)).bytes ≤ 140737488355328) (hmax : n ≤ 140737488351232)
    (hK : ∀ v, v.oneCell' = true → c.Fresh v → K (.cell (.val v)) (.own v (SL.e P t) z.cells.size (List.replicate n (zeroRow z)) :: H)) :
    OpWp c ⟨d, .call { callee := .builtin .append, args := #[x, y], argTypes := #[t, tn] }, ty, pos, af, g⟩ env H K := by
  subst hm
  intro a w h next Q hnx
  have hrun := Lib.run_append_grow_zeros (P := P) w t tn ty (SL.e P t) (TI.i P (SL.e P t)) z .i64 .i64 SL.hs (by rw [TI.hu (P := P) (t := tn), hn]) TI.hi hz none 0 0 [] (by simp [Builtin.firstCells]) n h0 (by omega) (by omega) (by omega) (by omega) (by rw [Nat.zero_add, nextslicecap_zero h0]; omega)
  simp only [Nat.zero_add] at hrun
  have hge := grownCap_ge w n 0 (SL.e P t)
  have hcm : grownCap w n 0 (SL.e P t) ≤ maxLen := grownCap_le_maxLen w n 0 (SL.e P t) (by unfold maxLen; omega)
  generalize grownCap w n 0 (SL.e P t) = G at hrun hge hcm
  have hzc : (Builtin.zeroCells z.cells n).size = n * z.cells.size := by simp [Builtin.zeroCells]
  have ho : (w.drew.alloc (.cells (([] : List Value).toArray ++ Builtin.zeroCells z.cells n ++ Builtin.zeroCells z.cells (G - n)) (SL.e P t))).ownsRow 0 (SL.e P t) z.cells.size (.slice (some ⟨w.heap.size, 0, none⟩) n G) n (Builtin.zeroCells z.cells n).toList := by
    refine ⟨by rw [Array.length_toList, hzc], .inr ⟨w.heap.size, G, _, rfl, Nat.zero_le _, heap_alloc_new w.drew _, hge, hcm, ?_, ?_⟩⟩
    · simp only [Array.size_append, List.size_toArray, List.length_nil, hzc, size_zeroCells, Nat.zero_add]
      rw [← Nat.add_mul]
      congr 1
      omega
    · simp only [Array.toList_append, List.nil_append]
      rw [← hzc, ← Array.length_toList]
      exact List.take_left
  have hg : w.grownBy (w.drew.alloc (.cells (([] : List Value).toArray ++ Builtin.zeroCells z.cells n ++ Builtin.zeroCells z.cells (G - n)) (SL.e P t))) none := ⟨rfl, rfl, rfl, by simp, fun k hk _ => Go.heap_alloc_old w.drew _ hk⟩
  generalize w.drew.alloc (.cells (([] : List Value).toArray ++ Builtin.zeroCells z.cells n ++ Builtin.zeroCells z.cells (G - n)) (SL.e P t)) = w' at hrun ho hg
  have hgr : Grow (hb []) w w' := by simpa [hb] using Grow.of_grownBy hg
  have h' : StW c ([] ++ H) w := h.heap
  have hav : ∀ b, c.av (.own (.slice (some ⟨w.heap.size, 0, none⟩) n G) (SL.e P t) z.cells.size (List.replicate n (zeroRow z)) :: H) b → c.av H b ∨ w.heap.size ≤ b := by
    intro b hb'
    rcases hb' with hb' | hb'
    · exact .inl (.inl hb')
    · rw [hb_cons] at hb'
      rcases List.mem_append.1 hb' with hb' | hb'
      · simp only [Ch.bs, Value.ownBlock, Option.mem_toList, Option.some.injEq] at hb'
        exact .inr (by omega)
      · exact .inl (.inr hb')
  obtain ⟨s1, s2⟩ := StW.step (H1' := [.own (.slice (some ⟨w.heap.size, 0, none⟩) n G) (SL.e P t) z.cells.size (List.replicate n (zeroRow z))]) h' hgr (by simp [hb, Ch.bs, Value.ownBlock]) (by simp [hb, Ch.bs, Value.ownBlock]) (by
    intro ch hch
    simp only [List.mem_singleton] at hch
    subst hch
    refine ⟨_, by rw [List.length_replicate]; exact ho, ?_, hpos⟩
    have e : (Builtin.zeroCells z.cells n).toList = (List.range (n * z.cells.size)).map fun i => z.cells[i % z.cells.size]! := by simp [Builtin.zeroCells]
    rw [e]
    exact rdRows_up (A := c.av H) (hgr.up (by simp [hb])) hav _ _ _ (rdRows_zeros rfl (List.all_eq_true.1 h1) n))
  unfold Oper.wp
  have hex : (execOp a.eval ⟨d, .call { callee := .builtin .append, args := #[x, y], argTypes := #[t, tn] }, ty, pos, af, g⟩).run P w = .ok (.value (.slice (some ⟨w.heap.size, 0, none⟩) n G)) w' := by
    simp only [execOp, resolve, invoke, builtin, Sem.run_bind, Sem.run_pure, Result.andThen_ok, List.map_toArray, List.map_cons, List.map_nil, ev_val h hx, ev_val h hy, hrun]
  rw [hex]
  exact hnx _ _ _ _ (hK _ rfl (fun b hb => by simp only [Value.ownBlock, Option.some.injEq] at hb; have := h.heap.size; omega)) s1 ⟨rfl, rfl⟩ s2
/-- The capacity of a slice whose value is known. -/
theorem ow_capNil [SL P t] (hx : env.ev x = some (.cell (.val (.slice none 0 0)))) (hK : K (In .i64 0) H) : OpWp c ⟨d, .call { callee := .builtin .cap, args := #[x], argTypes := #[t] }, ty, pos, af, g⟩ env H K :=
  ow_valx rfl (fun a w h => by
    simp [execOp, resolve, invoke, builtin, ev_val h hx, Builtin.cap_, run_underlying (SL.hs (P := P) (t := t)), goInt]) hK
theorem ow_lenNil [SL P t] (hx : env.ev x = some (.cell (.val (.slice none 0 0)))) (hK : K (In .i64 0) H) : OpWp c ⟨d, .call { callee := .builtin .len, args := #[x], argTypes := #[t] }, ty, pos, af, g⟩ env H K :=
  ow_valx rfl (fun a w h => by
    simp [execOp, resolve, invoke, builtin, ev_val h hx, Builtin.len_, run_underlying (SL.hs (P := P) (t := t)), goInt]) hK
theorem ow_trimNil [SL P t] (hx : env.ev x = some (.cell (.val (.slice none 0 0)))) (hy : env.ev y = some (In .i64 0)) (hK : K (.cell (.val (.slice none 0 0))) H) : OpWp c ⟨d, .slice t x none (some y) none, ty, pos, af, g⟩ env H K :=
  ow_valx rfl (fun a w h => by
    simp [execOp, ev_val h hx, ev_val h hy, Instr.sliceAt, Instr.slice, Instr.sliceBounds, Instr.sliceBound, asIntOf, run_elem t, run_sizeOf]) hK
end
end Go.Vc
end

section
namespace Go.Proofs.YtlniadfidfmckaaGreatDoor
open Go.Vc
attribute [local irreducible] JL JC JQ OpWp Con ConN
set_option maxHeartbeats 4000000

abbrev NilV : Value := .slice none 0 0
theorem growE_c (n : Nat) (hn : n ≤ 1000000) : Con Tryz.prog 104 [.cell (.val NilV), In .i64 (n : Int)] [] (fun K => ∀ v : Value, True → K (.cell (.val v)) [.own v 53 5 []]) := by
  refine con_intro Tryz.func104 rfl rfl (Nat.le_of_ble_eq_true rfl) (fun c hc => ?_)
  by_cases h0 : 0 < n
  · refine R_ (E_ r_ (T_ (am_ (R_ (M_ r_ (o_ r_ (bw_ r_ r_ (T_ (ap_ r_ r_ (as_ (al_ (am_ (R_ (M_ r_ (M_ r_ (o_ r_ (ow_capNil r_ ?_)))))))))))))))))
    refine M_ r_ (o_ r_ (ow_lenNil r_ (o_ r_ (cg_ r_ r_ g_ (o_ r_ (cg_ r_ r_ g_ (E_ r_ (T_ (R_ (M_ r_ (o_ r_ (bz_ r_ r_ (T_ (aq_ r_ t_ (an_ (M_ r_ (M_ r_ (o_ r_ (ow_capNil r_ (o_ r_ (ow_trimNil r_ r_ ?_)))))))))))))))))))))
    refine M_ r_ (o_ r_ (ow_growNil n rfl rfl rfl rfl (by decide) rfl rfl g_ h0 (by show n * 64 ≤ _; omega) g_ (fun v _ _ => M_ r_ (o_ r_ (ow_lenNil r_ (o_ r_ (ow_trim 0 r_ r_ r_ g_ g_ (jl_trim 0 0 rfl (Nat.zero_le _) (E_ r_ (T_ (R_ (M_ r_ (E_ r_ (T_ (ar_ (jq_ret1 rfl rfl [0] rfl (fun K h => h _ trivial)))))))))))))))))
  · obtain rfl : n = 0 := by omega
    refine R_ (E_ r_ (T_ (am_ (R_ (M_ r_ (o_ r_ (bw_ r_ r_ (T_ (ap_ r_ r_ (as_ (al_ (am_ (R_ (M_ r_ (M_ r_ (o_ r_ (ow_capNil r_ ?_)))))))))))))))))
    refine M_ r_ (o_ r_ (ow_lenNil r_ (o_ r_ (cg_ r_ r_ g_ (o_ r_ (cg_ r_ r_ g_ (E_ r_ (T_ (R_ (M_ r_ (o_ r_ (bz_ r_ r_ (T_ (ap_ r_ r_ (as_ (al_ (R_ (M_ r_ (E_ r_ ?_)))))))))))))))))))
    refine T_ (ar_ (jq_ownNil 53 5 g_ (jq_ret1 rfl rfl [0] rfl (fun K h => h _ trivial))))
end Go.Proofs.YtlniadfidfmckaaGreatDoor
end

section
namespace Go.Proofs.YtlniadfidfmckaaGreatDoor
open Go.Vc
attribute [local irreducible] JL JC JQ OpWp Con ConN
set_option maxHeartbeats 4000000

theorem concatE_c (A B : List T) (hA : A.length ≤ 1000) (hB : B.length ≤ 1000) : Con Tryz.prog 76 [.cell (.list [[.list (A.map T.row)], [.list (B.map T.row)]])] [] (fun K => K (.cell (.list ((A ++ B).map T.row))) []) := by
  have eA : (A.map T.row).length = A.length := List.length_map _
  have eB : (B.map T.row).length = B.length := List.length_map _
  refine con_intro Tryz.func76 rfl rfl (Nat.le_of_ble_eq_true rfl) (fun c hc => R_ (E_ r_ (T_ (R_ (E_ r_ (T_ (am_ (R_ (M_ r_ (o_ r_ (br_ r_ (fun hlen => M_ r_ (T_ (jc_cut (ι := Unit) [] (fun _ => True) (fun _ => [(0, .cell (.list [[.list (A.map T.row)], [.list (B.map T.row)]])), (3, In .i64 ((A.length + B.length : Nat) : Int))]) (fun _ => []) ?_ ?_))))))))))))))
  · refine au_ (jc_loopS (ι := Nat × Nat) [] (fun i => (i.1 = 0 ∧ i.2 = 0) ∨ (i.1 = 1 ∧ i.2 = A.length) ∨ (i.1 = 2 ∧ i.2 = A.length + B.length)) (fun i => [(0, .cell (.list [[.list (A.map T.row)], [.list (B.map T.row)]])), (9, .cell (.list [[.list (A.map T.row)], [.list (B.map T.row)]])), (10, In .i64 2), (11, In .i64 (i.1 : Int)), (3, In .i64 (i.2 : Int))]) (fun _ => []) (fun i => 2 - i.1) (0, 0) (.inl ⟨rfl, rfl⟩) ?_ ?_ ?_)
    · exact sub_end
    · (repeat (first | exact True.intro | refine ⟨rfl, ?_⟩))
    rintro ⟨k, q⟩ hi
    dsimp only at hi ⊢
    rcases hi with ⟨rfl, rfl⟩ | ⟨rfl, rfl⟩ | ⟨rfl, rfl⟩
    · refine R_ (o_ r_ (bw_ r_ r_ (T_ (am_ (aq_ r_ r_ (as_ (al_ (B_ (R_ (o_ r_ (ow_indexAddr r_ r_ g_ r_ r_ b_ (o_ r_ (cb_ r_ r_ (E_ r_ (T_ (R_ (M_ r_ (M_ r_ ?_))))))))))))))))))
      refine o_ r_ (br_ r_ (fun hlen => o_ r_ (bj_ r_ r_ g_ (E_ r_ (T_ (R_ (M_ r_ (o_ r_ (bw_ r_ r_ (T_ (ap_ r_ r_ (as_ (ay_ (al_ (an_ (o_ r_ (bj_ r_ r_ g_ (M_ r_ (ak_ ?_)))))))))))))))))))
      rw [show ((0 : Nat) : Int) + ((A.map T.row).length : Int) = ((A.length : Nat) : Int) by omega]
      refine jq_againS (i := (0, 0)) (1, A.length) (.inr (.inl ⟨rfl, rfl⟩)) (by dsimp only; omega) ?_ ?_
      · exact sub_end
      · (repeat (first | exact True.intro | refine ⟨rfl, ?_⟩))
    · refine R_ (o_ r_ (bw_ r_ r_ (T_ (am_ (aq_ r_ r_ (as_ (al_ (B_ (R_ (o_ r_ (ow_indexAddr r_ r_ g_ r_ r_ b_ (o_ r_ (cb_ r_ r_ (E_ r_ (T_ (R_ (M_ r_ (M_ r_ ?_))))))))))))))))))
      refine o_ r_ (br_ r_ (fun hlen => o_ r_ (bj_ r_ r_ g_ (E_ r_ (T_ (R_ (M_ r_ (o_ r_ (bw_ r_ r_ (T_ (ap_ r_ r_ (as_ (ay_ (al_ (an_ (o_ r_ (bj_ r_ r_ g_ (M_ r_ (ak_ ?_)))))))))))))))))))
      rw [show ((A.length : Nat) : Int) + ((B.map T.row).length : Int) = ((A.length + B.length : Nat) : Int) by omega]
      refine jq_againS (i := (1, A.length)) (2, A.length + B.length) (.inr (.inr ⟨rfl, rfl⟩)) (by dsimp only; omega) ?_ ?_
      · exact sub_end
      · (repeat (first | exact True.intro | refine ⟨rfl, ?_⟩))
    · refine R_ (o_ r_ (bw_ r_ r_ (T_ (am_ (ap_ r_ r_ (av_ (ax_ (ax_ (ba_ (jq_cutS () trivial ?_ ?_))))))))))
      · exact sub_end
      · (repeat (first | exact True.intro | refine ⟨rfl, ?_⟩))
  · intro _ _
    refine R_ (M_ r_ (o_ r_ (bt_ [] rfl rfl (growE_c _ g_) (fun pp hpp => E_ r_ (T_ (am_ (R_ (M_ r_ (o_ r_ (br_ r_ (fun hlen => M_ r_ (T_ (au_ ?_)))))))))))))
    refine jc_loopS (ι := Nat × Value × List T) [] (fun i => (i.1 = 0 ∧ i.2.2 = []) ∨ (i.1 = 1 ∧ i.2.2 = A) ∨ (i.1 = 2 ∧ i.2.2 = A ++ B)) (fun i => [(25, .cell (.list [[.list (A.map T.row)], [.list (B.map T.row)]])), (26, In .i64 2), (27, In .i64 (i.1 : Int)), (6, .cell (.val i.2.1))]) (fun i => [.own i.2.1 53 5 (i.2.2.map T.row)]) (fun i => 2 - i.1) (0, pp, []) (.inl ⟨rfl, rfl⟩) ?_ ?_ ?_
    · exact bc_ 0 r_ sub_end
    · (repeat (first | exact True.intro | refine ⟨rfl, ?_⟩))
    rintro ⟨k, v, l⟩ hi
    dsimp only at hi ⊢
    rcases hi with ⟨rfl, hl⟩ | ⟨rfl, hl⟩ | ⟨rfl, hl⟩ <;> rw [hl] <;> clear hl
    · refine R_ (o_ r_ (bw_ r_ r_ (T_ (am_ (aq_ r_ r_ (as_ (al_ (B_ (R_ (o_ r_ (ow_indexAddr r_ r_ g_ r_ r_ b_ (o_ r_ (cb_ r_ r_ (E_ r_ (T_ (an_ (M_ r_ (M_ r_ ?_))))))))))))))))))
      refine o_ r_ (ow_appendM 0 (l1 := []) (l2 := A) rfl rfl rfl rfl rfl rfl rfl (fun x => by rw [T.row_eq] ; rfl) (by show (0 + _) * 64 ≤ _ ; omega) (by show 0 + _ ≤ _ ; omega) (fun v1 _ => E_ r_ (ak_ (ay_ (al_ (an_ (o_ r_ (bj_ r_ r_ g_ (M_ r_ (ak_ (jq_againS (i := (0, v, [])) (1, v1, A) (.inr (.inl ⟨rfl, rfl⟩)) (by dsimp only; omega) ?_ ?_)))))))))))
      · exact bc_ 0 r_ sub_end
      · (repeat (first | exact True.intro | refine ⟨rfl, ?_⟩))
    · refine R_ (o_ r_ (bw_ r_ r_ (T_ (am_ (aq_ r_ r_ (as_ (al_ (B_ (R_ (o_ r_ (ow_indexAddr r_ r_ g_ r_ r_ b_ (o_ r_ (cb_ r_ r_ (E_ r_ (T_ (an_ (M_ r_ (M_ r_ ?_))))))))))))))))))
      refine o_ r_ (ow_appendM 0 (l1 := A) (l2 := B) rfl rfl rfl rfl rfl rfl rfl (fun x => by rw [T.row_eq] ; rfl) (by show (_ + _) * 64 ≤ _ ; omega) g_ (fun v1 _ => E_ r_ (ak_ (ay_ (al_ (an_ (o_ r_ (bj_ r_ r_ g_ (M_ r_ (ak_ (jq_againS (i := (1, v, A)) (2, v1, A ++ B) (.inr (.inr ⟨rfl, rfl⟩)) (by dsimp only; omega) ?_ ?_)))))))))))
      · exact bc_ 0 r_ sub_end
      · (repeat (first | exact True.intro | refine ⟨rfl, ?_⟩))
    · refine R_ (o_ r_ (bw_ r_ r_ (T_ (am_ (ap_ r_ r_ (av_ (ax_ (ax_ (ba_ (al_ (R_ (M_ r_ (E_ r_ (T_ (ar_ (jq_freeze 2 0 rfl rfl (by rw [hc]; simp [hb]) ?_))))))))))))))))
      refine jq_ret1 rfl rfl [] rfl (fun K h => h)
theorem exprs_c (s : Sm) (hI : s.index.length ≤ 1000) (hV : s.value.length ≤ 1000) : Con Tryz.prog 47 [.row s.row'] [] (fun K => K (.cell (.list ((s.index ++ s.value).map T.row))) []) := by
  have hC := concatE_c s.index s.value hI hV
  refine con_intro Tryz.func47 rfl rfl (Nat.le_of_ble_eq_true rfl) (fun c hc => R_ (o_ r_ (ci_ r_ (fun bx => E_ r_ (T_ (R_ (F_ r_ (L_ 0 r_ (F_ r_ (L_ 0 r_ (o_ r_ (bq_ r_ r_ b_ r_ r_ b_ (o_ r_ (bm_ r_ (hC) (E_ r_ (T_ (ar_ (jq_ret1 rfl rfl [] rfl (fun K h => h)))))))))))))))))))
end Go.Proofs.YtlniadfidfmckaaGreatDoor
end

section
namespace Go.Proofs.YtlniadfidfmckaaGreatDoor
open Go.Vc
attribute [local irreducible] JL JC JQ OpWp Con ConN
attribute [local irreducible] nameB plainB shpF
set_option maxHeartbeats 4000000

theorem okSs_nil (F : Nat) : okSs F [] = true := by cases F <;> simp [okSs]
/-- A statement is well formed if it is so itself, and so are its blocks and its expressions. -/
theorem ok_right (F : Nat) (s : Sm) : okOne (okSs F) s = (rightB s && okSs F s.thn && okSs F s.els && (s.index ++ s.value).all (shpF 20)) := by
  obtain ⟨k, nm, ix, v, mx, lb, th, el⟩ := s
  simp only [okOne, rightB, Sm.kind, Sm.name, Sm.index, Sm.value, Sm.max, Sm.label, Sm.thn, Sm.els]
  have hone : ∀ l : List T, oneB l = (decide (l.length = 1) && l.all (shpF 20)) := by
    intro l
    rcases l with _ | ⟨x, _ | ⟨y, l⟩⟩ <;> simp [oneB]
  rw [Bool.eq_iff_iff]
  rcases ix with _ | ⟨i, _ | ⟨i2, ix⟩⟩ <;> rcases v with _ | ⟨x, _ | ⟨x2, v⟩⟩ <;> rcases th with _ | ⟨t, th⟩ <;> rcases el with _ | ⟨e, el⟩ <;> simp [hone, okSs_nil] <;> (try split) <;> (try split) <;> (try split) <;> (try split) <;> (try split) <;> simp_all [and_assoc, and_comm, and_left_comm]
end Go.Proofs.YtlniadfidfmckaaGreatDoor
end

section
namespace Go.Proofs.YtlniadfidfmckaaGreatDoor
open Go.Vc
attribute [local irreducible] JL JC JQ OpWp Con ConN
attribute [local irreducible] nameB plainB shpF okSs rightB
set_option maxHeartbeats 8000000

/-- Lists within reason, so deep. -/
def lsS : Nat → List Sm → Prop
  | 0, _ => True
  | F + 1, l => ∀ s ∈ l, s.index.length ≤ 1000 ∧ s.value.length ≤ 1000 ∧ lsS F s.thn ∧ lsS F s.els
theorem formed_c : ∀ (F : Nat) (l : List Sm), F ≤ 20 → lsS F l → Con Tryz.prog 43 [.cell (.list (l.map Sm.row)), In .i64 (21 - (F : Int))] [] (fun K => K (Bl (okSs F l)) []) := by
  intro F
  induction F with
  | zero =>
    intro l _ _
    have e : okSs 0 l = true := by unfold okSs; rfl
    refine con_intro Tryz.func43 rfl rfl (Nat.le_of_ble_eq_true rfl) (fun c hc => R_ (E_ r_ (T_ (am_ (R_ (M_ r_ (o_ r_ (bz_ r_ r_ (T_ (aq_ r_ r_ (R_ (E_ r_ (T_ (ar_ (aw_ (jq_ret1 rfl rfl [] rfl (fun K h => by rw [e] at h; exact h)))))))))))))))))
  | succ F ih =>
    intro l hF hl
    have eL : (l.map Sm.row).length = l.length := List.length_map _
    have hF1 : (21 - ((F + 1 : Nat) : Int) + 1) = 21 - (F : Int) := by omega
    have hF2 : ¬ 20 < (21 - ((F + 1 : Nat) : Int)) := by omega
    have hF3 : 0 ≤ (21 - ((F + 1 : Nat) : Int)) ∧ (21 - ((F + 1 : Nat) : Int)) ≤ 20 := by omega
    have ih := fun x => ih x (by omega)
    rw [← hF1] at ih
    have eo : okSs (F + 1) l = l.all (okOne (okSs F)) := by unfold okSs; rfl
    have hl2 : ∀ s ∈ l, s.index.length ≤ 1000 ∧ s.value.length ≤ 1000 ∧ lsS F s.thn ∧ lsS F s.els := hl
    generalize (21 - ((F + 1 : Nat) : Int)) = d at hF1 hF2 hF3 ih ⊢
    refine con_intro Tryz.func43 rfl rfl (Nat.le_of_ble_eq_true rfl) (fun c hc => R_ (E_ r_ (T_ (am_ (R_ (M_ r_ (o_ r_ (bz_ r_ r_ (T_ (ap_ r_ w_ (as_ (al_ (am_ (R_ (M_ r_ (o_ r_ (br_ r_ (fun hlen => ?_))))))))))))))))))
    refine M_ r_ (T_ (au_ (jc_loopS (ι := Nat) [] (fun k => k ≤ l.length ∧ (l.take k).all (okOne (okSs F)) = true) (fun k => [(1, In .i64 d), (11, .cell (.list (l.map Sm.row))), (12, In .i64 ((l.map Sm.row).length : Int)), (13, In .i64 (k : Int))]) (fun _ => []) (fun k => l.length - k) 0 ⟨Nat.zero_le _, rfl⟩ ?_ ?_ ?_)))
    · exact sub_end
    · (repeat (first | exact True.intro | refine ⟨rfl, ?_⟩))
    rintro k ⟨hk, hall⟩
    by_cases hlt : k < l.length
    · have hlt2 : (k : Int) < ((l.map Sm.row).length : Int) := by omega
      obtain ⟨q1, q2, q3, q4⟩ := hl2 _ (List.getElem_mem hlt)
      have i1 := ih _ q3
      have i2 := ih _ q4
      have hE := exprs_c _ q1 q2
      have hok := ok_right F l[k]
      refine R_ (o_ r_ (bw_ r_ r_ (T_ (am_ (aq_ r_ u_ (as_ (al_ (B_ (R_ (o_ r_ (cc_ r_ r_ g_ (Sm.row_eq _) r_ b_ (o_ r_ (cr_ r_ r_ r_ (o_ r_ (bl_ r_ r_ (fun bl => S_ 0 r_ (T_ (am_ (R_ ?_)))))))))))))))))))
      refine A_ 0 r_ (o_ r_ (bm_ r_ (right_c _) (o_ r_ (cd_ r_ (M_ r_ (jl_or 6 3 rfl rfl rfl rfl (nb rfl) ?_))))))
      apply Exists.intro
      refine ⟨fun hb1 => ?_, ?_⟩
      exact ah_ r_ h_ b_ (bf_ r_ r_ r_ b_ (ah_ r_ h_ b_ (bg_ 0 r_ r_ r_ r_ (ah_ r_ h_ b_ (bd_ r_ (ah_ r_ h_ b_ (bj_ r_ r_ g_ (ah_ r_ h_ b_ (bm_ r_ (i1) (ah_ r_ h_ b_ (cd_ r_ (ak_ (jq_seg 6 rfl rfl rfl (List.Perm.refl _))))))))))))))
      refine M_ r_ (jl_or 6 11 rfl rfl rfl rfl (nb rfl) ?_)
      apply Exists.intro
      refine ⟨fun hb1 => ?_, ?_⟩
      exact ah_ r_ h_ b_ (bf_ r_ r_ r_ b_ (ah_ r_ h_ b_ (bg_ 0 r_ r_ r_ r_ (ah_ r_ h_ b_ (bd_ r_ (ah_ r_ h_ b_ (bj_ r_ r_ g_ (ah_ r_ h_ b_ (bm_ r_ (i2) (ah_ r_ h_ b_ (cd_ r_ (ak_ (jq_seg 6 rfl rfl rfl (List.Perm.refl _))))))))))))))
      refine T_ ?_
      have hS : ∀ x : T, Con Tryz.prog 36 [.row x.row', In .i64 1] [] (fun K => K (Bl (shpF 20 x)) []) := fun x => shapedB_c 20 x (by omega)
      refine jc_cond rfl (fun hn => ?_) (fun hy => ?_)
      · have hp : okOne (okSs F) l[k] = false := by
          rw [hok]
          cases h1 : rightB l[k] <;> cases h2 : okSs F l[k].thn <;> cases h3 : okSs F l[k].els <;> simp_all
        have hno := all_no hlt hp
        refine R_ (E_ r_ (T_ (ar_ (aw_ (az_ (aw_ (aw_ (az_ (aw_ (jq_ret1 rfl rfl [] rfl (fun K h => by rw [eo, hno] at h; exact h)))))))))))
      · have hy2 : rightB l[k] = true ∧ okSs F l[k].thn = true ∧ okSs F l[k].els = true := by
          cases h1 : rightB l[k] <;> cases h2 : okSs F l[k].thn <;> cases h3 : okSs F l[k].els <;> simp_all
        obtain ⟨y1, y2, y3⟩ := hy2
        rw [y1, y2, y3, Bool.true_and, Bool.true_and, Bool.true_and] at hok
        generalize l[k].index ++ l[k].value = E at hE hok
        have eE : (E.map T.row).length = E.length := List.length_map _
        refine as_ (al_ (R_ (A_ 0 r_ (o_ r_ (bm_ r_ (hE) (o_ r_ (br_ r_ (fun hlen => M_ r_ (T_ (au_ ?_))))))))))
        refine jc_loopS (ι := Nat) [] (fun q => q ≤ E.length ∧ (E.take q).all (shpF 20) = true) (fun q => [(1, In .i64 d), (11, .cell (.list (l.map Sm.row))), (12, In .i64 ((l.map Sm.row).length : Int)), (13, In .i64 (k : Int)), (37, .cell (.list (E.map T.row))), (38, In .i64 ((E.map T.row).length : Int)), (39, In .i64 (q : Int))]) (fun _ => []) (fun q => E.length - q) 0 ⟨Nat.zero_le _, rfl⟩ ?_ ?_ ?_
        · exact sub_end
        · (repeat (first | exact True.intro | refine ⟨rfl, ?_⟩))
        rintro q ⟨hq, hqa⟩
        by_cases hqt : q < E.length
        · have hqt2 : (q : Int) < ((E.map T.row).length : Int) := by omega
          have hSq := hS E[q]
          refine R_ (o_ r_ (bw_ r_ r_ (T_ (am_ (aq_ r_ u_ (as_ (al_ (B_ (R_ (o_ r_ (cc_ r_ r_ g_ (T.row_eq _) r_ b_ (o_ r_ (cr_ r_ r_ r_ (o_ r_ (bl_ r_ r_ (fun bl => S_ 0 r_ (T_ (R_ (A_ 0 r_ ?_)))))))))))))))))))
          refine o_ r_ (bm_ r_ (hSq) (o_ r_ (cd_ r_ (T_ (jc_cond rfl (fun hn => ?_) (fun hy => ?_))))))
          · have hp : E.all (shpF 20) = false := all_no hqt (by simpa using hn)
            have hno := all_no hlt (hok.trans hp)
            refine R_ (E_ r_ (T_ (ar_ (az_ (aw_ (aw_ (az_ (az_ (aw_ (aw_ (az_ (aw_ (jq_ret1 rfl rfl [] rfl (fun K h => by rw [eo, hno] at h; exact h))))))))))))))
          · refine as_ (ay_ (al_ (an_ (o_ r_ (bj_ r_ r_ g_ (M_ r_ (ak_ (jq_againS (q + 1) ⟨hqt, all_snoc hqt hqa (by simpa using hy)⟩ g_ ?_ ?_))))))))
            · exact sub_end
            · (repeat (first | exact True.intro | refine ⟨rfl, ?_⟩))
        · have hqt2 : ¬ (q : Int) < ((E.map T.row).length : Int) := by omega
          rw [List.take_of_length_le (by omega)] at hqa
          refine R_ (o_ r_ (bw_ r_ r_ (T_ (am_ (ap_ r_ w_ (av_ (ax_ (ax_ (ba_ (ay_ (al_ (an_ (o_ r_ (bj_ r_ r_ g_ (M_ r_ (ak_ (jq_againS (k + 1) ⟨hlt, all_snoc hlt hall (hok.trans hqa)⟩ g_ ?_ ?_)))))))))))))))))
          · exact sub_end
          · (repeat (first | exact True.intro | refine ⟨rfl, ?_⟩))
    · have hlt2 : ¬ (k : Int) < ((l.map Sm.row).length : Int) := by omega
      rw [List.take_of_length_le (by omega)] at hall
      refine R_ (o_ r_ (bw_ r_ r_ (T_ (am_ (ap_ r_ w_ (av_ (ax_ (ax_ (ba_ (al_ (R_ (E_ r_ (T_ (ar_ (jq_ret1 rfl rfl [] rfl (fun K h => by rw [eo, hall] at h; exact h))))))))))))))))
end Go.Proofs.YtlniadfidfmckaaGreatDoor
end

section
namespace Go.Vc
open Go.RowKit
set_option maxHeartbeats 1000000

section
variable {P : Program} [Gl P] {nt : Nat} {c : Cx P nt} {env : Env} {H Hr : List Ch} {K : S → List Ch → Prop} {d : Option Tmp} {t t' te ty : TypeId} {pos : String} {af : Array Edge} {g : Option (Nat × Bool)} {x y : Operand}
theorem ow_ptrNil [TI P t] (ht : TI.u P t = .pointer te) (hx : env.ev x = some (.cell (.val (.pointer none)))) (hy : env.ev y = some (.cell (.val (.pointer none)))) (hK : K (Bl true) H) : OpWp c ⟨d, .binOp .eql t x y t', ty, pos, af, g⟩ env H K :=
  ow_valx rfl (fun a w h => by
    have hu : P.underlying t = some (.pointer te) := by rw [TI.hu (P := P) (t := t), ht]
    have h1 : ∀ n : Nat, (Op.equalIn (n + 1) t (.pointer none) (.pointer none)).run P w = .ok true w := fun n => by
      simp [Op.equalIn, run_underlying hu]
    have h2 : (binOp .eql t (.pointer none) (.pointer none)).run P w = .ok (.bool true) w := by
      simp only [binOp]
      simp [Op.equal, Op.maxDepth, h1 9999]
    simp [execOp, ev_val h hx, ev_val h hy, eqGuard, h2]) hK
theorem ow_ptrNotNil [TI P t] (ht : TI.u P t = .pointer te) {p : Addr} (hx : env.ev x = some (.cell (.val (.pointer (some p))))) (hy : env.ev y = some (.cell (.val (.pointer none)))) (hK : K (Bl false) H) : OpWp c ⟨d, .binOp .eql t x y t', ty, pos, af, g⟩ env H K :=
  ow_valx rfl (fun a w h => by
    have hu : P.underlying t = some (.pointer te) := by rw [TI.hu (P := P) (t := t), ht]
    have h1 : ∀ n : Nat, (Op.equalIn (n + 1) t (.pointer (some p)) (.pointer none)).run P w = .ok false w := fun n => by
      simp [Op.equalIn, run_underlying hu]
    have h2 : (binOp .eql t (.pointer (some p)) (.pointer none)).run P w = .ok (.bool false) w := by
      simp only [binOp]
      simp [Op.equal, Op.maxDepth, h1 9999]
    simp [execOp, ev_val h hx, ev_val h hy, eqGuard, h2]) hK
theorem ow_ptrSame [TI P t] [TI P te] (ht : TI.u P t = .pointer te) {p : Addr} (hx : env.ev x = some (.cell (.val (.pointer (some p))))) (hy : env.ev y = some (.cell (.val (.pointer (some p))))) (hK : K (Bl false) H) : OpWp c ⟨d, .binOp .neq t x y t', ty, pos, af, g⟩ env H K :=
  ow_valx rfl (fun a w h => by
    have hu : P.underlying t = some (.pointer te) := by rw [TI.hu (P := P) (t := t), ht]
    have h2 := Lib.run_neq_ptr_same (P := P) w p hu (TI.hi (P := P) (t := te))
    simp [execOp, ev_val h hx, ev_val h hy, eqGuard, h2]) hK
theorem shape_of_blk {w : World} {b : Nat} {cs : List Value} {bt : TypeId} (hh : w.heap[b]? = some (.cells cs.toArray bt (0, 0))) : w.shape? b = some (bt, cs.length) := by
  simp [World.shape?, hh]
theorem ow_toUnsafe {dst : TypeId} [TI P t] [TI P dst] [TI P te] (j : Nat) {b : Nat} {bt : TypeId} {row : List C} (ht : TI.u P t = .pointer te) (hd : TI.u P dst = .unsafePointer) (hz : (TI.i P te).size ≠ 0) (hx : env.ev x = some (.cell (.val (.pointer (some ⟨b, 0, none⟩)))))
    (hp : pick [j] H = some ([.blk b bt row], Hr)) (hr : 0 < row.length) (hK : K (.cell (.val (.pointer (some ⟨b, 0, none⟩)))) H) : OpWp c ⟨d, .convert t dst x, ty, pos, af, g⟩ env H K :=
  ow_valx rfl (fun a w h => by
    obtain ⟨cs, hh, hrd⟩ := blk_ok h hp
    have hu : P.underlying t = some (.pointer te) := by rw [TI.hu (P := P) (t := t), ht]
    have hv : P.underlying dst = some .unsafePointer := by rw [TI.hu (P := P) (t := dst), hd]
    have h2 := Lib.run_to_unsafe (P := P) w ⟨b, 0, none⟩ hu hv (TI.hi (P := P) (t := te)) hz (shape_of_blk hh) (by rw [rdRow_length hrd]; exact hr)
    simp only [execOp, ev_val h hx, Sem.run_bind, h2, Result.andThen_ok, Sem.run_pure]) hK
theorem ow_fromUnsafe {dst u : TypeId} [TI P t] [TI P dst] [TI P u] (j : Nat) {b : Nat} {bt : TypeId} {row : List C} (ht : TI.u P t = .unsafePointer) (hd : TI.u P dst = .pointer u) (hx : env.ev x = some (.cell (.val (.pointer (some ⟨b, 0, none⟩)))))
    (hp : pick [j] H = some ([.blk b bt row], Hr)) (hl : liesAt P P.depth bt (row.length / P.cellsOf bt) 0 u 1 = true) (hK : K (.cell (.val (.pointer (some ⟨b, 0, none⟩)))) H) : OpWp c ⟨d, .convert t dst x, ty, pos, af, g⟩ env H K :=
  ow_valx rfl (fun a w h => by
    obtain ⟨cs, hh, hrd⟩ := blk_ok h hp
    have hu : P.underlying t = some .unsafePointer := by rw [TI.hu (P := P) (t := t), ht]
    have hv : P.underlying dst = some (.pointer u) := by rw [TI.hu (P := P) (t := dst), hd]
    have h2 := Lib.run_from_unsafe (P := P) w ⟨b, 0, none⟩ hu hv (TI.hi (P := P) (t := u)) (shape_of_blk hh) (by rw [rdRow_length hrd]; exact hl)
    simp only [execOp, ev_val h hx, Sem.run_bind, h2, Result.andThen_ok, Sem.run_pure]) hK
/-- A call of an entry that hands its one operand back. -/
theorem ow_noEscape {f : FuncId} {at_ : Array TypeId} {v : Value} (hf : ∀ w, (callFunc f #[v]).run P w = .ok (.value v) w) (h1 : v.oneCell' = true) (hx : env.ev x = some (.cell (.val v))) (hK : K (.cell (.val v)) H) :
    OpWp c ⟨d, .call { callee := .value (.func f), args := #[x], argTypes := at_ }, ty, pos, af, g⟩ env H K :=
  ow_valx h1 (fun a w h => by
    have hz : a.eval (.func f) = .func (.func f) #[] #[] := rfl
    simp only [execOp, resolve, invoke, hz, Deferred.ofValue, Sem.run_bind, Sem.run_pure, Result.andThen_ok, List.map_toArray, List.map_cons, List.map_nil, ev_val h hx]
    simp [hf]) hK
/-- A slice of one's own is nil, or some. -/
theorem jc_ownSome {Q : Exit → Act → World → Prop} {code : Code} (j : Nat) {v : Value} {e : TypeId} {k : Nat} {rows : List (List C)} (hp : pick [j] H = some ([.own v e k rows], Hr)) (h0 : 0 < rows.length)
    (h : ∀ g cap, v = .slice (some ⟨g, 0, none⟩) rows.length cap → rows.length ≤ cap → cap ≤ 9223372036854775807 → JC c code Q env H) : JC c code Q env H := by
  intro a w hs
  have hok := hs.heap.ok (.own v e k rows) ((pick_perm hp).mem_iff.2 (by simp))
  obtain ⟨vs, ⟨_, ho⟩, _, _⟩ := hok
  rcases ho with ⟨_, h1⟩ | ⟨g, cap, cur, hv, _, _, h2, h3, _⟩
  · omega
  · exact h g cap hv h2 (by unfold maxLen at h3; omega) a w hs
theorem rdRows_bytesI {w : World} {A : Nat → Prop} : ∀ {L : List Int} {vs : List Value}, RdRows w A 1 (L.map Brow) vs → vs = L.map (Value.int .u8)
  | [], vs, h => by simpa [RdRows] using h
  | n :: L, vs, h => by
    obtain ⟨cc, r, rfl, _, h2, h3⟩ := h
    obtain ⟨v, r', rfl, h4, h5⟩ := h2
    simp only [RdRow] at h5
    subst h5
    rw [rdRows_bytesI h3]
    obtain ⟨rfl, _⟩ := h4
    rfl
theorem freeze_grow (w : World) (g n : Nat) : Grow [g] w (w.freeze ⟨g, 0, none⟩ n) := by
  unfold World.freeze
  split
  · exact Grow.refl _ _
  · exact ⟨rfl, rfl, rfl, by simp, fun k hk hn => by
      simp only [Array.getElem?_modify]
      rw [if_neg (fun e => hn (by simpa using e.symm))]⟩
theorem bi_unsafeString {ats : Array TypeId} {ty : TypeId} {cs : Array Bool} {args : Array Value} : builtin .unsafeString ats ty cs args = (do pure (.value (← Builtin.unsafeString_ ats ty args))) := rfl
theorem bi_unsafeSliceData {ats : Array TypeId} {ty : TypeId} {cs : Array Bool} {args : Array Value} : builtin .unsafeSliceData ats ty cs args = (do pure (.value (← Builtin.unsafeSliceData_ ats ty args))) := rfl
theorem ow_unsafeString {pt it e : TypeId} [TI P pt] (j : Nat) {gb cap : Nat} {X : ByteArray} {m : Int} (ht : TI.u P pt = .pointer e) (hc : P.cellsOf e = 1) (hx : env.ev x = some (.cell (.val (.pointer (some ⟨gb, 0, none⟩))))) (hy : env.ev y = some (In .i64 m)) (hm : m = X.size)
    (hp : pick [j] H = some ([.own (.slice (some ⟨gb, 0, none⟩) X.size cap) e 1 ((bytesI X).map Brow)], Hr)) (h0 : 0 < X.size) (h63 : X.size ≤ 9223372036854775807) (hK : K (Str X) Hr) :
    OpWp c ⟨d, .call { callee := .builtin .unsafeString, args := #[x, y], argTypes := #[pt, it] }, ty, pos, af, g⟩ env H K := by
  subst hm
  intro a w h next Q hn
  have hperm := pick_perm hp
  have h' : StW c ([.own (.slice (some ⟨gb, 0, none⟩) X.size cap) e 1 ((bytesI X).map Brow)] ++ Hr) w := h.heap.perm hperm
  have hav : c.av ([.own (.slice (some ⟨gb, 0, none⟩) X.size cap) e 1 ((bytesI X).map Brow)] ++ Hr) = c.av H := av_perm c hperm
  obtain ⟨vs, ⟨hl, ho⟩, hr, _⟩ := h'.ok _ (List.mem_append_left _ (List.mem_singleton.2 rfl))
  have hvs := rdRows_bytesI hr
  rcases ho with ⟨hv, _⟩ | ⟨g', cap', cur, hv, _, hh, h2, h3, h4, h5⟩
  · cases hv
  simp only [Value.slice.injEq, Option.some.injEq, Addr.mk.injEq] at hv
  obtain ⟨⟨rfl, _⟩, hv2, rfl⟩ := hv
  have hu : P.underlying pt = some (.pointer e) := by rw [TI.hu (P := P) (t := pt), ht]
  have hX : X.data.toList.length = X.size := by simp
  have hXI : bytesI X = X.data.toList.map (fun b => (b.toNat : Int)) := rfl
  have hlen : (bytesI X).length = X.size := bytesI_len X
  have hrun := Lib.run_unsafeString_row (P := P) w pt it ty e hu hc gb cur.size (by simp [World.shape?, hh]) X.data.toList (by intro h; rw [h] at hX; simp at hX; omega) (by
      rw [hX, h4]; rw [List.length_map, hlen] at h2; omega) (by rw [hX]; omega) (fun i b hb => by
      have hi : i < X.size := by
        have := (List.getElem?_eq_some_iff.1 hb).1
        omega
      have hadd : (⟨gb, 0, none⟩ : Addr).add i = ⟨gb, i, none⟩ := by rw [add_at]; simp
      rw [hadd]
      have h6 : vs[i]? = some (.int .u8 b.toNat) := by rw [hvs, hXI, List.getElem?_map, List.getElem?_map, hb]; rfl
      have h7 := h5
      rw [← h7] at h6
      have h8 : i < (((bytesI X).map Brow).length * 1) := by rw [List.length_map, hlen]; omega
      rw [List.getElem?_take_of_lt h8] at h6
      simp only [World.cell?, hh]
      rw [← Array.getElem?_toList]
      exact h6)
  rw [hX] at hrun
  have hgr : Grow (hb [.own (.slice (some ⟨gb, 0, none⟩) X.size cap) e 1 ((bytesI X).map Brow)]) w (w.freeze ⟨gb, 0, none⟩ X.size) := freeze_grow w gb X.size
  obtain ⟨s1, s2⟩ := StW.step (H1' := []) h' hgr (by simp [hb]) (by simp [hb]) (by simp)
  unfold Oper.wp
  have hex : (execOp a.eval ⟨d, .call { callee := .builtin .unsafeString, args := #[x, y], argTypes := #[pt, it] }, ty, pos, af, g⟩).run P w = .ok (.value (.string X)) (w.freeze ⟨gb, 0, none⟩ X.size) := by
    have hXX : (⟨X.data.toList.toArray⟩ : ByteArray) = X := by simp
    rw [hXX] at hrun
    simp only [execOp, resolve, invoke, bi_unsafeString, Sem.run_bind, Sem.run_pure, Result.andThen_ok, List.map_toArray, List.map_cons, List.map_nil, ev_val h hx, ev_val h hy, hrun]
  rw [hex]
  rw [List.nil_append] at s1 s2
  exact hn _ _ _ _ hK s1 ⟨rfl, rfl⟩ (fun s v hs => s2 s v (by rw [hav]; exact hs))
theorem hok_sliceData {Sw : World → Prop} {st : TypeId} {p : Addr} {n cap : Nat} (hx : env.ev x = some (.cell (.val (.slice (some p) n cap)))) (h0 : 0 < cap) : HOk c Sw env H ⟨d, .call { callee := .builtin .unsafeSliceData, args := #[x], argTypes := #[st] }, ty, pos, af, none⟩ (.cell (.val (.pointer (some p)))) :=
  fun a w h _ => ⟨.pointer (some p), fun w' _ => by
    have hrun := Lib.run_unsafeSliceData_row (P := P) w' #[st] ty p n cap (by omega)
    simp only [execOp, resolve, invoke, bi_unsafeSliceData, Sem.run_bind, Sem.run_pure, Result.andThen_ok, List.map_toArray, List.map_cons, List.map_nil, ev_val h hx, hrun], rfl, rfl⟩
theorem hok_sliceDataNil {Sw : World → Prop} {st : TypeId} {n cap : Nat} (hx : env.ev x = some (.cell (.val (.slice none n cap)))) : HOk c Sw env H ⟨d, .call { callee := .builtin .unsafeSliceData, args := #[x], argTypes := #[st] }, ty, pos, af, none⟩ (.cell (.val (.pointer none))) :=
  fun a w h _ => ⟨.pointer none, fun w' _ => by
    have hrun := Lib.run_unsafeSliceData_nil (P := P) w' #[st] ty n cap
    simp only [execOp, resolve, invoke, bi_unsafeSliceData, Sem.run_bind, Sem.run_pure, Result.andThen_ok, List.map_toArray, List.map_cons, List.map_nil, ev_val h hx, hrun], rfl, rfl⟩
theorem ow_unsafeString0 {pt it : TypeId} {p : Option Addr} (hx : env.ev x = some (.cell (.val (.pointer p)))) (hy : env.ev y = some (In .i64 0)) (hK : K (Str ⟨#[]⟩) H) :
    OpWp c ⟨d, .call { callee := .builtin .unsafeString, args := #[x, y], argTypes := #[pt, it] }, ty, pos, af, g⟩ env H K :=
  ow_valx rfl (fun a w h => by
    have hrun := Lib.run_unsafeString_none (P := P) w pt it ty p
    simp only [execOp, resolve, invoke, bi_unsafeString, Sem.run_bind, Sem.run_pure, Result.andThen_ok, List.map_toArray, List.map_cons, List.map_nil, ev_val h hx, ev_val h hy, hrun]
    rfl) hK
theorem hok_lenV {Sw : World → Prop} [SL P t] {p : Option Addr} {n cap : Nat} (hx : env.ev x = some (.cell (.val (.slice p n cap)))) (_hn : n ≤ 9223372036854775807) : HOk c Sw env H ⟨d, .call { callee := .builtin .len, args := #[x], argTypes := #[t] }, ty, pos, af, none⟩ (In .i64 (n : Int)) :=
  fun a w h _ => ⟨.int .i64 n, fun w' _ => by
    simp [execOp, resolve, invoke, builtin, ev_val h hx, Builtin.len_, run_underlying (SL.hs (P := P) (t := t)), goInt], rfl, rfl⟩
end
end Go.Vc
end

section
namespace Go.Proofs.YtlniadfidfmckaaGreatDoor
set_option maxRecDepth 100000
def laysJoin_ren : Go.Shelf.Ren := ⟨fun | 156 => 50 | 165 => 80 | 166 => 48 | 169 => 25 | 240 => 77 | 241 => 109 | 276 => 105 | 277 => 128 | n => n, fun | 0 => 0 | 3 => 3 | 4 => 4 | 5 => 5 | 9 => 9 | 20 => 20 | 31 => 27 | 37 => 73 | 70 => 72 | 72 => 75 | 75 => 115 | 76 => 116 | 80 => 84 | 127 => 121 | 164 => 160 | n => n, fun  | n => n⟩
theorem laysJoin : Go.Proofs.Lays.n156 Tryz.prog laysJoin_ren := {
  mixed := by kernel_rfl,
  f156 := Tryz.func50.trans (congrArg some (by kernel_rfl)),
  f165 := Tryz.func80.trans (congrArg some (by kernel_rfl)),
  f166 := Tryz.func48.trans (congrArg some (by kernel_rfl)),
  f169 := Tryz.func25.trans (congrArg some (by kernel_rfl)),
  f240 := Tryz.func77.trans (congrArg some (by kernel_rfl)),
  f241 := Tryz.func109.trans (congrArg some (by kernel_rfl)),
  f276 := Tryz.func105.trans (congrArg some (by kernel_rfl)),
  f277 := Tryz.func128.trans (congrArg some (by kernel_rfl)),
  t0 := Tryz.underlying0,
  a0 := Tryz.isAgg0,
  z0 := Tryz.sizeOf0,
  v0 := Tryz.zeroValue0,
  t3 := Tryz.underlying3,
  a3 := Tryz.isAgg3,
  z3 := Tryz.sizeOf3,
  v3 := Tryz.zeroValue3,
  t4 := Tryz.underlying4,
  a4 := Tryz.isAgg4,
  z4 := Tryz.sizeOf4,
  v4 := Tryz.zeroValue4,
  t9 := Tryz.underlying9,
  a9 := Tryz.isAgg9,
  z9 := Tryz.sizeOf9,
  v9 := Tryz.zeroValue9,
  t20 := Tryz.underlying20,
  a20 := Tryz.isAgg20,
  z20 := Tryz.sizeOf20,
  v20 := Tryz.zeroValue20,
  t31 := Tryz.underlying27,
  a31 := Tryz.isAgg27,
  z31 := Tryz.sizeOf27,
  v31 := Tryz.zeroValue27,
  t37 := Tryz.underlying73,
  a37 := Tryz.isAgg73,
  z37 := Tryz.sizeOf73,
  v37 := Tryz.zeroValue73,
  t70 := Tryz.underlying72,
  a70 := Tryz.isAgg72,
  z70 := Tryz.sizeOf72,
  v70 := Tryz.zeroValue72,
  t72 := Tryz.underlying75,
  a72 := Tryz.isAgg75,
  z72 := Tryz.sizeOf75,
  v72 := Tryz.zeroValue75,
  t75 := Tryz.underlying115,
  a75 := Tryz.isAgg115,
  z75 := Tryz.sizeOf115,
  v75 := Tryz.zeroValue115,
  t76 := Tryz.underlying116,
  a76 := Tryz.isAgg116,
  z76 := Tryz.sizeOf116,
  v76 := Tryz.zeroValue116,
  t127 := Tryz.underlying121,
  a127 := Tryz.isAgg121,
  z127 := Tryz.sizeOf121,
  v127 := Tryz.zeroValue121,
  t164 := Tryz.underlying160,
  a164 := Tryz.isAgg160,
  z164 := Tryz.sizeOf160,
  v164 := Tryz.zeroValue160 }
theorem laysJoinX : Go.Proofs.Builder.Extra Tryz.prog laysJoin_ren := {
  sizeBuilder := by kernel_rfl,
  liesBuilder := by kernel_rfl,
  t5 := Tryz.underlying5,
  a5 := Tryz.isAgg5,
  z5 := Tryz.sizeOf5,
  v5 := Tryz.zeroValue5,
  infoByte := by kernel_rfl,
  cellsByte := by kernel_rfl,
  sizeByte := by kernel_rfl,
  neB5 := by decide }
def laysRepeat_ren : Go.Shelf.Ren := ⟨fun | 99 => 79 | 105 => 49 | 165 => 80 | 166 => 48 | 169 => 25 | 170 => 24 | 206 => 108 | 212 => 78 | 240 => 77 | 241 => 109 | 263 => 106 | 264 => 107 | 276 => 105 | 277 => 128 | n => n, fun | 0 => 0 | 3 => 3 | 4 => 4 | 5 => 5 | 9 => 9 | 20 => 20 | 37 => 73 | 46 => 104 | 51 => 162 | 53 => 165 | 70 => 72 | 72 => 75 | 75 => 115 | 76 => 116 | 80 => 84 | 109 => 139 | 127 => 121 | 146 => 163 | 148 => 166 | 164 => 160 | n => n, fun  | n => n⟩
theorem laysRepeat : Go.Proofs.Lays.n105 Tryz.prog laysRepeat_ren := {
  mixed := by kernel_rfl,
  f99 := Tryz.func79.trans (congrArg some (by kernel_rfl)),
  f105 := Tryz.func49.trans (congrArg some (by kernel_rfl)),
  f165 := Tryz.func80.trans (congrArg some (by kernel_rfl)),
  f166 := Tryz.func48.trans (congrArg some (by kernel_rfl)),
  f169 := Tryz.func25.trans (congrArg some (by kernel_rfl)),
  f170 := Tryz.func24.trans (congrArg some (by kernel_rfl)),
  f206 := Tryz.func108.trans (congrArg some (by kernel_rfl)),
  f212 := Tryz.func78.trans (congrArg some (by kernel_rfl)),
  f240 := Tryz.func77.trans (congrArg some (by kernel_rfl)),
  f241 := Tryz.func109.trans (congrArg some (by kernel_rfl)),
  f263 := Tryz.func106.trans (congrArg some (by kernel_rfl)),
  f264 := Tryz.func107.trans (congrArg some (by kernel_rfl)),
  f276 := Tryz.func105.trans (congrArg some (by kernel_rfl)),
  f277 := Tryz.func128.trans (congrArg some (by kernel_rfl)),
  t0 := Tryz.underlying0,
  a0 := Tryz.isAgg0,
  z0 := Tryz.sizeOf0,
  v0 := Tryz.zeroValue0,
  t3 := Tryz.underlying3,
  a3 := Tryz.isAgg3,
  z3 := Tryz.sizeOf3,
  v3 := Tryz.zeroValue3,
  t4 := Tryz.underlying4,
  a4 := Tryz.isAgg4,
  z4 := Tryz.sizeOf4,
  v4 := Tryz.zeroValue4,
  t5 := Tryz.underlying5,
  a5 := Tryz.isAgg5,
  z5 := Tryz.sizeOf5,
  v5 := Tryz.zeroValue5,
  t9 := Tryz.underlying9,
  a9 := Tryz.isAgg9,
  z9 := Tryz.sizeOf9,
  v9 := Tryz.zeroValue9,
  t20 := Tryz.underlying20,
  a20 := Tryz.isAgg20,
  z20 := Tryz.sizeOf20,
  v20 := Tryz.zeroValue20,
  t37 := Tryz.underlying73,
  a37 := Tryz.isAgg73,
  z37 := Tryz.sizeOf73,
  v37 := Tryz.zeroValue73,
  t46 := Tryz.underlying104,
  a46 := Tryz.isAgg104,
  z46 := Tryz.sizeOf104,
  v46 := Tryz.zeroValue104,
  t51 := Tryz.underlying162,
  a51 := Tryz.isAgg162,
  z51 := Tryz.sizeOf162,
  v51 := Tryz.zeroValue162,
  t53 := Tryz.underlying165,
  a53 := Tryz.isAgg165,
  z53 := Tryz.sizeOf165,
  v53 := Tryz.zeroValue165,
  t70 := Tryz.underlying72,
  a70 := Tryz.isAgg72,
  z70 := Tryz.sizeOf72,
  v70 := Tryz.zeroValue72,
  t72 := Tryz.underlying75,
  a72 := Tryz.isAgg75,
  z72 := Tryz.sizeOf75,
  v72 := Tryz.zeroValue75,
  t75 := Tryz.underlying115,
  a75 := Tryz.isAgg115,
  z75 := Tryz.sizeOf115,
  v75 := Tryz.zeroValue115,
  t76 := Tryz.underlying116,
  a76 := Tryz.isAgg116,
  z76 := Tryz.sizeOf116,
  v76 := Tryz.zeroValue116,
  t109 := Tryz.underlying139,
  a109 := Tryz.isAgg139,
  z109 := Tryz.sizeOf139,
  v109 := Tryz.zeroValue139,
  t127 := Tryz.underlying121,
  a127 := Tryz.isAgg121,
  z127 := Tryz.sizeOf121,
  v127 := Tryz.zeroValue121,
  t146 := Tryz.underlying163,
  a146 := Tryz.isAgg163,
  z146 := Tryz.sizeOf163,
  v146 := Tryz.zeroValue163,
  t148 := Tryz.underlying166,
  a148 := Tryz.isAgg166,
  z148 := Tryz.sizeOf166,
  v148 := Tryz.zeroValue166,
  t164 := Tryz.underlying160,
  a164 := Tryz.isAgg160,
  z164 := Tryz.sizeOf160,
  v164 := Tryz.zeroValue160 }
theorem laysRepeatX : Go.Proofs.Builder.Extra Tryz.prog laysRepeat_ren := {
  sizeBuilder := by kernel_rfl,
  liesBuilder := by kernel_rfl,
  t5 := Tryz.underlying5,
  a5 := Tryz.isAgg5,
  z5 := Tryz.sizeOf5,
  v5 := Tryz.zeroValue5,
  infoByte := by kernel_rfl,
  cellsByte := by kernel_rfl,
  sizeByte := by kernel_rfl,
  neB5 := by decide }
end Go.Proofs.YtlniadfidfmckaaGreatDoor
end

section
namespace Go.Proofs.YtlniadfidfmckaaGreatDoor
open Go.Vc
set_option maxHeartbeats 4000000
set_option maxRecDepth 20000

def spN : Nat → ByteArray
  | 0 => ⟨#[]⟩
  | n + 1 => spN n ++ Ksp
theorem spN_size : ∀ n, (spN n).size = 2 * n
  | 0 => rfl
  | n + 1 => by rw [spN, ByteArray.size_append, spN_size n]; show _ + 2 = _; omega
theorem spN_rep : ∀ n : Nat, (⟨(Lib.repeatL [32, 32] n).toArray⟩ : ByteArray) = spN n
  | 0 => rfl
  | n + 1 => by
    rw [spN, ← spN_rep n, Lib.repeatL_add, Lib.repeatL_one]
    apply ByteArray.ext
    simp
/-- Words with a space between them. -/
def joinB : List ByteArray → ByteArray
  | [] => ⟨#[]⟩
  | [x] => x
  | x :: y :: l => x ++ (⟨#[32]⟩ : ByteArray) ++ joinB (y :: l)
theorem joinB_lib : ∀ l : List ByteArray, (⟨(Lib.join (l.map (·.data.toList)) [32]).toArray⟩ : ByteArray) = joinB l
  | [] => rfl
  | [x] => by
    simp only [List.map_cons, List.map_nil, Lib.join_one, joinB]
  | x :: y :: l => by
    have ih := joinB_lib (y :: l)
    rw [joinB, ← ih]
    simp only [List.map_cons, Lib.join_cons]
    apply ByteArray.ext
    simp [Lib.joinTail]
theorem repeat_c (n : Nat) (hn : n ≤ 1000) : Con Tryz.prog 49 [.cell (.val (.string Ksp)), In .i64 (n : Int)] [] (fun K => K (Str (spN n)) []) := by
  rintro vs w A _ _ _ ⟨v, r, rfl, ⟨rfl, _⟩, v2, r2, rfl, ⟨rfl, _⟩, hr⟩ _ _
  simp only [SOks] at hr
  subst hr
  refine (Any.strings_Repeat laysRepeat laysRepeatX Ksp n w g_ (by show 2 * n ≤ _; omega)).mono ?_
  rintro e w' ⟨rfl, hb⟩
  exact ⟨_, _, [], rfl, fun K h => h, ⟨congrArg Value.string (spN_rep n), rfl⟩, by simp, by simp [Go.Vc.hb], by simp [Go.Vc.hb], ⟨hb.os, hb.tape, hb.output, hb.size, fun k hk _ => hb.block k hk⟩⟩
theorem wrow_cells {w : World} {A : Nat → Prop} {k : Nat} : ∀ {L : List ByteArray} {vs : List Value}, RdRows w A k (L.map Wrow) vs → vs = L.map Value.string
  | [], vs, h => by simpa [RdRows] using h
  | n :: L, vs, h => by
    obtain ⟨cc, r, rfl, _, h2, h3⟩ := h
    obtain ⟨v, r', rfl, h4, h5⟩ := h2
    simp only [RdRow] at h5
    subst h5
    rw [wrow_cells h3]
    obtain ⟨rfl, _⟩ := h4
    rfl
theorem join_c (L : List ByteArray) (hL : L ≠ []) (hl : L.length ≤ 1000) (hn : (joinB L).size ≤ 140737488355328) : Con Tryz.prog 50 [.cell (.list (L.map Wrow)), .cell (.val (.string ⟨#[32]⟩))] [] (fun K => K (Str (joinB L)) []) := by
  have hlen : (L.map Wrow).length = L.length := List.length_map _
  rintro vs w A _ _ _ ⟨v, r, rfl, ⟨a, cap, rfl, h1, h2, h3⟩, v2, r2, rfl, ⟨rfl, _⟩, hr⟩ _ _
  simp only [SOks] at hr
  subst hr
  have h0 : L.length ≠ 0 := fun h => hL (List.eq_nil_of_length_eq_zero h)
  rcases h3 with h3 | ⟨b, off, vs, k, rfl, _, hc, hk, hrd⟩
  · omega
  have hvs := wrow_cells hrd
  have hjl : (Lib.join (L.map (·.data.toList)) [32]).length = (joinB L).size := by
    rw [← joinB_lib]
    show _ = (Lib.join (L.map (·.data.toList)) [32]).toArray.size
    simp
  have hbk : b < w.heap.size := cells_lt hc (by rw [hvs, List.length_map]; omega)
  rw [hlen] at h1 ⊢
  refine (Any.strings_Join laysJoin laysJoinX b off cap L ⟨#[32]⟩ w (fun j x hx => hc j _ (by rw [hvs, List.getElem?_map, hx]; rfl)) hbk (by unfold maxLen at h2; omega) h1 (by show (Lib.join (L.map (·.data.toList)) [32]).length ≤ _; omega)).mono ?_
  rintro e w' ⟨rfl, hb⟩
  exact ⟨_, _, [], rfl, fun K h => h, ⟨congrArg Value.string (joinB_lib L), rfl⟩, by simp, by simp [Go.Vc.hb], by simp [Go.Vc.hb], ⟨hb.os, hb.tape, hb.output, hb.size, fun k hk _ => hb.block k hk⟩⟩

attribute [local irreducible] JL JC JQ OpWp Con ConN HOk
/-- The writer's block: its own address once it was used, and its bytes. -/
abbrev Wblk (b : Nat) (p : Option Addr) (v : Value) : Ch := .blk b 77 [.val (.pointer p), .val v]
abbrev Wptr (b : Nat) : S := .cell (.val (.pointer (some ⟨b, 0, none⟩)))
def WP (b : Nat) (p : Option Addr) : Prop := p = none ∨ p = some ⟨b, 0, none⟩
theorem noEscape_run (v : Value) (w : World) : (callFunc 105 #[v]).run Tryz.prog w = .ok (.value v) w := by
  rw [run_callFunc_extern Tryz.func105 (by kernel_rfl) (by kernel_rfl) (by kernel_rfl) (e := Extern.AbiNoEscape.same) (by kernel_rfl), Lib.run_noEscape]
  rfl
theorem copyCheck_c (b : Nat) (v : Value) (p : Option Addr) (hp : WP b p) : Con Tryz.prog 77 [Wptr b] [Wblk b p v] (fun K => K (.tup []) [Wblk b (some ⟨b, 0, none⟩) v]) := by
  refine con_intro Tryz.func77 rfl rfl (Nat.le_of_ble_eq_true rfl) (fun c hc => ?_)
  rcases hp with rfl | rfl
  · refine R_ (M_ r_ (N_ r_ (F_ r_ (L_ 0 r_ (o_ r_ (ow_ptrNil r_ r_ r_ (T_ (aq_ r_ r_ (an_ (M_ r_ (M_ r_ (o_ r_ (ow_toUnsafe (te := 75) 0 rfl rfl (by decide) rfl rfl b_ (o_ r_ (ow_noEscape (noEscape_run _) r_ r_ (o_ r_ (ow_fromUnsafe (u := 75) 0 r_ r_ r_ r_ k_ (N_ r_ (F_ r_ ?_)))))))))))))))))))
    refine W_ 0 r_ (ak_ (jq_ret0 (.inr rfl) rfl [0] rfl (fun K h => h)))
  · refine R_ (M_ r_ (N_ r_ (F_ r_ (L_ 0 r_ (o_ r_ (ow_ptrNotNil r_ r_ r_ (T_ (ap_ r_ r_ (R_ (M_ r_ (N_ r_ (F_ r_ (L_ 0 r_ (M_ r_ (o_ r_ (ow_ptrSame (te := 75) r_ r_ r_ (T_ ?_)))))))))))))))))
    refine ap_ r_ r_ (as_ (jq_ret0 (.inr rfl) rfl [0] rfl (fun K h => h)))
theorem writeString_c (b : Nat) (v : Value) (p : Option Addr) (X s : ByteArray) (hp : WP b p) (hX : X.size + s.size ≤ 140737488355328) : Con Tryz.prog 48 [Wptr b, Str s] [Wblk b p v, Bw v X]
    (fun K => ∀ v' : Value, True → K (.tup [In .i64 s.size, .cell (.val .nilIface)]) [Wblk b (some ⟨b, 0, none⟩) v', Bw v' (X ++ s)]) := by
  have hcc := copyCheck_c b v p hp
  refine con_intro Tryz.func48 rfl rfl (Nat.le_of_ble_eq_true rfl) (fun c hc => R_ (E_ r_ (E_ r_ (T_ (R_ (M_ r_ (o_ r_ (bi_ [0] r_ r_ (hcc) (T_ (R_ (M_ r_ (M_ r_ (N_ r_ (F_ r_ (L_ 0 r_ (M_ r_ ?_))))))))))))))))
  refine o_ r_ (ow_appendS 1 rfl rfl rfl rfl rfl rfl rfl rfl g_ (fun v1 _ => N_ r_ (F_ r_ (W_ 1 r_ (T_ (R_ (M_ r_ (o_ r_ (co_ r_ r_ (E_ r_ (E_ r_ (T_ (ar_ (jq_ret2 rfl rfl rfl [0, 0] rfl (fun K h => h _ trivial)))))))))))))))
theorem builderLen_c (b : Nat) (p : Option Addr) (v : Value) (X : ByteArray) : Con Tryz.prog 24 [Wptr b] [Wblk b p v, Bw v X] (fun K => K (In .i64 (X.size : Int)) [Wblk b p v, Bw v X]) := by
  have hl : ((bytesI X).map Brow).length = X.size := by rw [List.length_map, bytesI_len]
  refine con_intro Tryz.func24 rfl rfl (Nat.le_of_ble_eq_true rfl) (fun c hc => R_ (E_ r_ (T_ (R_ (M_ r_ (N_ r_ (F_ r_ (L_ 0 r_ (o_ r_ (cw_ 1 r_ r_ (fun hlen => E_ r_ (T_ (ar_ (jq_ret1 rfl rfl [0, 0] rfl (fun K h => by rw [← hl] at h; exact h)))))))))))))))
theorem builderString_c (b : Nat) (p : Option Addr) (v : Value) (X : ByteArray) (h0 : 0 < X.size) (h63 : X.size ≤ 140737488355328) : Con Tryz.prog 25 [Wptr b] [Wblk b p v, Bw v X] (fun K => K (Str X) [Wblk b p v]) := by
  have hl : ((bytesI X).map Brow).length = X.size := by rw [List.length_map, bytesI_len]
  refine con_intro Tryz.func25 rfl rfl (Nat.le_of_ble_eq_true rfl) (fun c hc => jc_ownSome 1 rfl g_ (fun g cap hv h1 h2 => ?_))
  rw [hl] at hv h1
  subst hv
  refine R_ (E_ r_ (T_ (am_ (jc_hpV 11 (n := 12) rfl 0 [.pointer p, .slice (some ⟨g, 0, none⟩) X.size cap] k_ rfl rfl (df_ (i := 0) rfl k_ k_ k_ b_ (by (repeat (first | refine pani_then ?_ | refine pani_block ?_)); exact pani_body) (dk_ rfl) ?_)))))
  refine df_ (i := 1) rfl k_ k_ k_ b_ (by (repeat (first | refine pani_then ?_ | refine pani_block ?_)); exact pani_body) (dr_ rfl) ?_
  refine df_ (i := 2) rfl k_ k_ k_ b_ (by (repeat (first | refine pani_then ?_ | refine pani_block ?_)); exact pani_body) (dl_ rfl rfl rfl b_) ?_
  refine df_ (i := 3) rfl k_ k_ k_ b_ (by (repeat (first | refine pani_then ?_ | refine pani_block ?_)); exact pani_body) (dm_ 0 rfl rfl rfl mem0 rfl) ?_
  refine df_ (i := 4) rfl k_ k_ k_ b_ (by (repeat (first | refine pani_then ?_ | refine pani_block ?_)); exact pani_body) (hok_sliceData rfl g_) ?_
  refine df_ (i := 5) rfl k_ k_ k_ b_ (by (repeat (first | refine pani_then ?_ | refine pani_block ?_)); exact pani_body) (dk_ rfl) ?_
  refine df_ (i := 6) rfl k_ k_ k_ b_ (by (repeat (first | refine pani_then ?_ | refine pani_block ?_)); exact pani_body) (dr_ rfl) ?_
  refine df_ (i := 7) rfl k_ k_ k_ b_ (by (repeat (first | refine pani_then ?_ | refine pani_block ?_)); exact pani_body) (dl_ rfl rfl rfl b_) ?_
  refine df_ (i := 8) rfl k_ k_ k_ b_ (by (repeat (first | refine pani_then ?_ | refine pani_block ?_)); exact pani_body) (dm_ 0 rfl rfl rfl mem0 rfl) ?_
  refine df_ (i := 9) rfl k_ k_ k_ b_ (by (repeat (first | refine pani_then ?_ | refine pani_block ?_)); exact pani_body) (hok_lenV rfl g_) ?_
  refine dg_ (i := 10) r_ k_ b_ (ow_unsafeString 1 r_ r_ r_ r_ r_ r_ h0 g_ ⟨?_, ?_⟩)
  exact keep1 0 rfl
  refine hp_tail (di_ (i := 11) rfl k_ b_ (by decide) (be_ rfl (ht_done k_ (al_ (ar_ (jq_ret1 rfl rfl [0] rfl (fun K h => h)))))))
theorem builderString0_c (b : Nat) (p : Option Addr) : Con Tryz.prog 25 [Wptr b] [Wblk b p NilV, Bw NilV ⟨#[]⟩] (fun K => K (Str ⟨#[]⟩) [Wblk b p NilV]) := by
  refine con_intro Tryz.func25 rfl rfl (Nat.le_of_ble_eq_true rfl) (fun c hc => R_ (E_ r_ (T_ (am_ (jc_hpV 11 (n := 12) rfl 0 [.pointer p, .slice none 0 0] k_ rfl rfl (df_ (i := 0) rfl k_ k_ k_ b_ (by (repeat (first | refine pani_then ?_ | refine pani_block ?_)); exact pani_body) (dk_ rfl) ?_))))))
  refine df_ (i := 1) rfl k_ k_ k_ b_ (by (repeat (first | refine pani_then ?_ | refine pani_block ?_)); exact pani_body) (dr_ rfl) ?_
  refine df_ (i := 2) rfl k_ k_ k_ b_ (by (repeat (first | refine pani_then ?_ | refine pani_block ?_)); exact pani_body) (dl_ rfl rfl rfl b_) ?_
  refine df_ (i := 3) rfl k_ k_ k_ b_ (by (repeat (first | refine pani_then ?_ | refine pani_block ?_)); exact pani_body) (dm_ 0 rfl rfl rfl mem0 rfl) ?_
  refine df_ (i := 4) rfl k_ k_ k_ b_ (by (repeat (first | refine pani_then ?_ | refine pani_block ?_)); exact pani_body) (hok_sliceDataNil rfl) ?_
  refine df_ (i := 5) rfl k_ k_ k_ b_ (by (repeat (first | refine pani_then ?_ | refine pani_block ?_)); exact pani_body) (dk_ rfl) ?_
  refine df_ (i := 6) rfl k_ k_ k_ b_ (by (repeat (first | refine pani_then ?_ | refine pani_block ?_)); exact pani_body) (dr_ rfl) ?_
  refine df_ (i := 7) rfl k_ k_ k_ b_ (by (repeat (first | refine pani_then ?_ | refine pani_block ?_)); exact pani_body) (dl_ rfl rfl rfl b_) ?_
  refine df_ (i := 8) rfl k_ k_ k_ b_ (by (repeat (first | refine pani_then ?_ | refine pani_block ?_)); exact pani_body) (dm_ 0 rfl rfl rfl mem0 rfl) ?_
  refine df_ (i := 9) rfl k_ k_ k_ b_ (by (repeat (first | refine pani_then ?_ | refine pani_block ?_)); exact pani_body) (hok_lenV rfl g_) ?_
  refine dg_ (i := 10) r_ k_ b_ (ow_unsafeString0 r_ r_ ⟨?_, ?_⟩)
  exact keep1 0 rfl
  refine hp_tail (di_ (i := 11) rfl k_ b_ (by decide) (be_ rfl (ht_done k_ (al_ (ar_ (jq_ret1 rfl rfl [0] rfl (fun K h => h)))))))
/-- A line, within n blocks. -/
def lnT (n : Nat) (L : List ByteArray) : ByteArray := (spN n ++ joinB L) ++ (⟨#[10]⟩ : ByteArray)
theorem line_c (b : Nat) (v : Value) (p : Option Addr) (X : ByteArray) (n : Nat) (L : List ByteArray) (hp : WP b p) (hn : n ≤ 1000) (hL : L ≠ []) (hl : L.length ≤ 1000) (hj : (joinB L).size ≤ 100000000) (hX : X.size ≤ 140000000000000) :
    Con Tryz.prog 21 [Wptr b, In .i64 (n : Int), .cell (.list (L.map Wrow))] [Wblk b p v, Bw v X]
      (fun K => ∀ v' : Value, True → K (.tup []) [Wblk b (some ⟨b, 0, none⟩) v', Bw v' (X ++ lnT n L)]) := by
  have hs := spN_size n
  have hR := repeat_c n hn
  have hJ := join_c L hL hl (by omega)
  have hsz : (lnT n L).size = (spN n).size + (joinB L).size + 1 := by unfold lnT; rw [ByteArray.size_append, ByteArray.size_append]; rfl
  have hW := writeString_c b v p X (lnT n L) hp (by omega)
  refine con_intro Tryz.func21 rfl rfl (Nat.le_of_ble_eq_true rfl) (fun c hc => jc_anyB 9 none rfl k_ k_ (yM_ r_ (yN_ r_ (yF_ r_ (yM_ r_ (aa_ (fun c => bm_ r_ (hR) p_) (yM_ r_ (aa_ (fun c => bm_ r_ (hJ) p_) (aa_ (fun c => ow_strcat r_ r_ g_ p_) (aa_ (fun c => ow_strcat rfl rfl (by simp only [ByteArray.size_append, ba_lit, List.length_cons, List.length_nil] ; omega) p_) (ae_ (afin_none ?_))))))))))))
  refine o_ r_ (bt_ [0, 0] rfl rfl (hW) (fun pp hpp => ak_ ?_))
  trace_state
  refine jq_ret0 (.inr rfl) rfl [0, 0] rfl (fun K h => h _ trivial)
end Go.Proofs.YtlniadfidfmckaaGreatDoor
end

section
namespace Go.Proofs.YtlniadfidfmckaaGreatDoor
open Go.Vc
attribute [local irreducible] JL JC JQ OpWp Con ConN HOk
attribute [local irreducible] nameB plainB smallB shpF okSs rightB
set_option maxHeartbeats 4000000

def declB (t : Tk) : Bool := hdB t && t.inputs.all inB && t.vars.all nameB && t.arrays.all arB && t.modes.all mdB && t.claims.all clB
theorem okTk_decl (t : Tk) : okTk t = (declB t && okSs 20 t.body) := by
  unfold okTk declB
  cases hdB t <;> cases okSs 20 t.body <;> simp
theorem all_step {α : Type} {p : α → Bool} {l : List α} {k : Nat} {z : Bool} (h : k < l.length) : (z && (l.take (k + 1)).all p) = ((z && (l.take k).all p) && p l[k]) := by
  rw [List.take_succ_eq_append_getElem h, List.all_append, Bool.and_assoc]
  simp
theorem declared_c (t : Tk) : Con Tryz.prog 42 [.row t.row] [] (fun K => K (Bl (declB t)) []) := by
  have hres : declB t = (((((hdB t && t.inputs.all inB) && t.vars.all nameB) && t.arrays.all arB) && t.modes.all mdB) && t.claims.all clB) := rfl
  refine con_intro Tryz.func42 rfl rfl (Nat.le_of_ble_eq_true rfl) (fun c hc => R_ (o_ r_ (ci_ r_ (fun bx => E_ r_ (T_ (R_ (F_ r_ (L_ 0 r_ (o_ r_ (bm_ r_ (namedB_c _) (M_ r_ (jl_and 10 3 rfl rfl rfl rfl (nb rfl) ?_))))))))))))
  apply Exists.intro
  refine ⟨fun hb1 => ?_, ?_⟩
  exact ah_ r_ h_ b_ (bf_ r_ r_ r_ b_ (ah_ r_ h_ b_ (bg_ 0 r_ r_ r_ r_ (ah_ r_ h_ b_ (bf_ r_ r_ r_ b_ (ah_ r_ h_ b_ (bg_ 0 r_ r_ r_ r_ (ah_ r_ h_ b_ (bf_ r_ r_ r_ b_ (ah_ r_ h_ b_ (bg_ 0 r_ r_ r_ r_ (ah_ r_ h_ b_ (bf_ r_ r_ r_ b_ (ah_ r_ h_ b_ (bg_ 0 r_ r_ r_ r_ (ah_ r_ h_ b_ (bq_ r_ r_ b_ r_ r_ b_ (ah_ r_ h_ b_ (bm_ r_ (plainL_c [t.period, t.deadline, t.priority, t.jitter]) (ak_ (jq_seg 10 rfl rfl rfl (List.Perm.refl _))))))))))))))))))))))
  refine E_ r_ (T_ (am_ (R_ (F_ r_ (L_ 0 r_ (o_ r_ (br_ r_ (fun hlen => M_ r_ (T_ ?_)))))))))
  have hz0 : (nameB t.name && [t.period, t.deadline, t.priority, t.jitter].all plainB) = hdB t := by simp [hdB, Bool.and_assoc]
  rw [hz0]
  rw [hres]
  clear hres
  generalize hz1 : hdB t = z0 at *
  refine au_ ?_
  have eL0 : ((t.inputs).map InRow).length = (t.inputs).length := List.length_map _
  refine jc_loopS (ι := Nat) [] (fun k => k ≤ (t.inputs).length) (fun k => [(1, .cell (.val (.pointer (some ⟨bx, 0, none⟩)))), (3, Bl (z0 && ((t.inputs).take k).all inB)), (30, .cell (.list ((t.inputs).map InRow))), (31, In .i64 (((t.inputs).map InRow).length : Int)), (32, In .i64 (k : Int))]) (fun _ => [.blk bx 41 t.row]) (fun k => (t.inputs).length - k) 0 (Nat.zero_le _) ?_ ?_ ?_
  · exact bc_ 0 r_ sub_end
  · rw [show (z0 && ((t.inputs).take 0).all inB) = z0 by simp]
    (repeat (first | exact True.intro | refine ⟨rfl, ?_⟩))
  intro k hk
  by_cases hlt : k < (t.inputs).length
  · have hlt2 : (k : Int) < (((t.inputs).map InRow).length : Int) := by omega
    have e1 := all_step (p := inB) (z := z0) hlt
    generalize (z0 && ((t.inputs).take k).all inB) = zz at e1 ⊢
    refine R_ (o_ r_ (bw_ r_ r_ (T_ (am_ (aq_ r_ u_ (as_ (al_ (B_ (R_ (o_ r_ (cc_ r_ r_ g_ r_ r_ b_ (o_ r_ (cr_ r_ r_ r_ (o_ r_ (bl_ r_ r_ (fun bl => S_ 0 r_ (T_ (an_ (M_ r_ ?_)))))))))))))))))))
    refine M_ r_ (jl_and 3 1 rfl rfl rfl rfl (nb rfl) ?_)
    apply Exists.intro
    refine ⟨fun hb1 => ?_, ?_⟩
    exact ah_ r_ h_ b_ (bf_ r_ r_ r_ b_ (ah_ r_ h_ b_ (bg_ 0 r_ r_ r_ r_ (ah_ r_ h_ b_ (bm_ r_ (namedB_c _) (ak_ (jq_seg 3 rfl rfl rfl (List.Perm.refl _))))))))
    refine M_ r_ (jl_and 6 6 rfl rfl rfl rfl (nb rfl) ?_)
    apply Exists.intro
    refine ⟨fun hb1 => ?_, ?_⟩
    exact ah_ r_ h_ b_ (bf_ r_ r_ r_ b_ (ah_ r_ h_ b_ (bg_ 0 r_ r_ r_ r_ (ah_ r_ h_ b_ (bf_ r_ r_ r_ b_ (ah_ r_ h_ b_ (bg_ 0 r_ r_ r_ r_ (ah_ r_ h_ b_ (bq_ r_ r_ b_ r_ r_ b_ (ah_ r_ h_ b_ (bm_ r_ (signedL_c [(t.inputs[k]).2.1, (t.inputs[k]).2.2]) (ak_ (jq_seg 6 rfl rfl rfl (List.Perm.refl _))))))))))))))
    refine E_ r_ (ak_ (ay_ (al_ (an_ (o_ r_ (bj_ r_ r_ g_ (M_ r_ (ak_ (jq_bl 3 rfl (b' := zz && inB (t.inputs)[k]) (by simp [inB, Bool.and_assoc]) (jq_againS (k + 1) hlt g_ ?_ ?_))))))))))
    · exact bc_ 1 r_ sub_end
    · rw [e1]
      (repeat (first | exact True.intro | refine ⟨rfl, ?_⟩))
  have hlt2 : ¬ (k : Int) < (((t.inputs).map InRow).length : Int) := by omega
  rw [List.take_of_length_le (show (t.inputs).length ≤ k by omega)]
  clear hlt hk
  refine R_ (o_ r_ (bw_ r_ r_ (T_ (am_ (ap_ r_ w_ (av_ (ax_ (ax_ (ba_ (al_ (am_ (R_ (F_ r_ (L_ 0 r_ (o_ r_ (br_ r_ (fun hlen => M_ r_ ?_)))))))))))))))))
  refine T_ ?_
  generalize hz2 : (z0 && (t.inputs).all inB) = z1 at *
  refine au_ ?_
  have eL1 : ((t.vars).map Wrow).length = (t.vars).length := List.length_map _
  refine jc_loopS (ι := Nat) [] (fun k => k ≤ (t.vars).length) (fun k => [(1, .cell (.val (.pointer (some ⟨bx, 0, none⟩)))), (3, Bl (z1 && ((t.vars).take k).all nameB)), (52, .cell (.list ((t.vars).map Wrow))), (53, In .i64 (((t.vars).map Wrow).length : Int)), (54, In .i64 (k : Int))]) (fun _ => [.blk bx 41 t.row]) (fun k => (t.vars).length - k) 0 (Nat.zero_le _) ?_ ?_ ?_
  · exact bc_ 0 r_ sub_end
  · rw [show (z1 && ((t.vars).take 0).all nameB) = z1 by simp]
    (repeat (first | exact True.intro | refine ⟨rfl, ?_⟩))
  intro k hk
  by_cases hlt : k < (t.vars).length
  · have hlt2 : (k : Int) < (((t.vars).map Wrow).length : Int) := by omega
    have e1 := all_step (p := nameB) (z := z1) hlt
    generalize (z1 && ((t.vars).take k).all nameB) = zz at e1 ⊢
    refine R_ (o_ r_ (bw_ r_ r_ (T_ (am_ (aq_ r_ u_ (as_ (al_ (B_ (R_ (o_ r_ (cc_ r_ r_ g_ r_ r_ b_ (o_ r_ (cb_ r_ r_ (E_ r_ (T_ (an_ (M_ r_ (M_ r_ ?_))))))))))))))))))
    refine jl_and 2 1 rfl rfl rfl rfl (nb rfl) ?_
    apply Exists.intro
    refine ⟨fun hb1 => ?_, ?_⟩
    exact ah_ r_ h_ b_ (bd_ r_ (ah_ r_ h_ b_ (bm_ r_ (namedB_c _) (ak_ (jq_seg 2 rfl rfl rfl (List.Perm.refl _))))))
    refine E_ r_ (ak_ (ay_ (al_ (an_ (o_ r_ (bj_ r_ r_ g_ (M_ r_ (ak_ (jq_bl 3 rfl (b' := zz && nameB (t.vars)[k]) (rfl) (jq_againS (k + 1) hlt g_ ?_ ?_))))))))))
    · exact bc_ 0 r_ sub_end
    · rw [e1]
      (repeat (first | exact True.intro | refine ⟨rfl, ?_⟩))
  have hlt2 : ¬ (k : Int) < (((t.vars).map Wrow).length : Int) := by omega
  rw [List.take_of_length_le (show (t.vars).length ≤ k by omega)]
  clear hlt hk
  refine R_ (o_ r_ (bw_ r_ r_ (T_ (am_ (ap_ r_ w_ (av_ (ax_ (ax_ (ba_ (al_ (am_ (R_ (F_ r_ (L_ 0 r_ (o_ r_ (br_ r_ (fun hlen => M_ r_ ?_)))))))))))))))))
  refine T_ ?_
  generalize hz3 : (z1 && (t.vars).all nameB) = z2 at *
  refine au_ ?_
  have eL2 : ((t.arrays).map ArRow).length = (t.arrays).length := List.length_map _
  refine jc_loopS (ι := Nat) [] (fun k => k ≤ (t.arrays).length) (fun k => [(1, .cell (.val (.pointer (some ⟨bx, 0, none⟩)))), (3, Bl (z2 && ((t.arrays).take k).all arB)), (65, .cell (.list ((t.arrays).map ArRow))), (66, In .i64 (((t.arrays).map ArRow).length : Int)), (67, In .i64 (k : Int))]) (fun _ => [.blk bx 41 t.row]) (fun k => (t.arrays).length - k) 0 (Nat.zero_le _) ?_ ?_ ?_
  · exact bc_ 0 r_ sub_end
  · rw [show (z2 && ((t.arrays).take 0).all arB) = z2 by simp]
    (repeat (first | exact True.intro | refine ⟨rfl, ?_⟩))
  intro k hk
  by_cases hlt : k < (t.arrays).length
  · have hlt2 : (k : Int) < (((t.arrays).map ArRow).length : Int) := by omega
    have e1 := all_step (p := arB) (z := z2) hlt
    generalize (z2 && ((t.arrays).take k).all arB) = zz at e1 ⊢
    refine R_ (o_ r_ (bw_ r_ r_ (T_ (am_ (aq_ r_ u_ (as_ (al_ (B_ (R_ (o_ r_ (cc_ r_ r_ g_ r_ r_ b_ (o_ r_ (cr_ r_ r_ r_ (o_ r_ (bl_ r_ r_ (fun bl => S_ 0 r_ (T_ (an_ (M_ r_ ?_)))))))))))))))))))
    refine M_ r_ (jl_and 3 1 rfl rfl rfl rfl (nb rfl) ?_)
    apply Exists.intro
    refine ⟨fun hb1 => ?_, ?_⟩
    exact ah_ r_ h_ b_ (bf_ r_ r_ r_ b_ (ah_ r_ h_ b_ (bg_ 0 r_ r_ r_ r_ (ah_ r_ h_ b_ (bm_ r_ (namedB_c _) (ak_ (jq_seg 3 rfl rfl rfl (List.Perm.refl _))))))))
    refine M_ r_ (jl_and 4 6 rfl rfl rfl rfl (nb rfl) ?_)
    apply Exists.intro
    refine ⟨fun hb1 => ?_, ?_⟩
    exact ah_ r_ h_ b_ (bf_ r_ r_ r_ b_ (ah_ r_ h_ b_ (bg_ 0 r_ r_ r_ r_ (ah_ r_ h_ b_ (bq_ r_ r_ b_ r_ r_ b_ (ah_ r_ h_ b_ (bm_ r_ (plainL_c [(t.arrays[k]).2]) (ak_ (jq_seg 4 rfl rfl rfl (List.Perm.refl _))))))))))
    refine E_ r_ (ak_ (ay_ (al_ (an_ (o_ r_ (bj_ r_ r_ g_ (M_ r_ (ak_ (jq_bl 3 rfl (b' := zz && arB (t.arrays)[k]) (by simp [arB, Bool.and_assoc]) (jq_againS (k + 1) hlt g_ ?_ ?_))))))))))
    · exact bc_ 1 r_ sub_end
    · rw [e1]
      (repeat (first | exact True.intro | refine ⟨rfl, ?_⟩))
  have hlt2 : ¬ (k : Int) < (((t.arrays).map ArRow).length : Int) := by omega
  rw [List.take_of_length_le (show (t.arrays).length ≤ k by omega)]
  clear hlt hk
  refine R_ (o_ r_ (bw_ r_ r_ (T_ (am_ (ap_ r_ w_ (av_ (ax_ (ax_ (ba_ (al_ (am_ (R_ (F_ r_ (L_ 0 r_ (o_ r_ (br_ r_ (fun hlen => M_ r_ ?_)))))))))))))))))
  refine T_ ?_
  generalize hz4 : (z2 && (t.arrays).all arB) = z3 at *
  refine au_ ?_
  have eL3 : ((t.modes).map MdRow).length = (t.modes).length := List.length_map _
  refine jc_loopS (ι := Nat) [] (fun k => k ≤ (t.modes).length) (fun k => [(1, .cell (.val (.pointer (some ⟨bx, 0, none⟩)))), (3, Bl (z3 && ((t.modes).take k).all mdB)), (85, .cell (.list ((t.modes).map MdRow))), (86, In .i64 (((t.modes).map MdRow).length : Int)), (87, In .i64 (k : Int))]) (fun _ => [.blk bx 41 t.row]) (fun k => (t.modes).length - k) 0 (Nat.zero_le _) ?_ ?_ ?_
  · exact bc_ 0 r_ sub_end
  · rw [show (z3 && ((t.modes).take 0).all mdB) = z3 by simp]
    (repeat (first | exact True.intro | refine ⟨rfl, ?_⟩))
  intro k hk
  by_cases hlt : k < (t.modes).length
  · have hlt2 : (k : Int) < (((t.modes).map MdRow).length : Int) := by omega
    have e1 := all_step (p := mdB) (z := z3) hlt
    generalize (z3 && ((t.modes).take k).all mdB) = zz at e1 ⊢
    refine R_ (o_ r_ (bw_ r_ r_ (T_ (am_ (aq_ r_ u_ (as_ (al_ (B_ (R_ (o_ r_ (cc_ r_ r_ g_ r_ r_ b_ (o_ r_ (cr_ r_ r_ r_ (o_ r_ (bl_ r_ r_ (fun bl => S_ 0 r_ (T_ (an_ (M_ r_ ?_)))))))))))))))))))
    refine M_ r_ (jl_and 3 1 rfl rfl rfl rfl (nb rfl) ?_)
    apply Exists.intro
    refine ⟨fun hb1 => ?_, ?_⟩
    exact ah_ r_ h_ b_ (bf_ r_ r_ r_ b_ (ah_ r_ h_ b_ (bg_ 0 r_ r_ r_ r_ (ah_ r_ h_ b_ (bm_ r_ (namedB_c _) (ak_ (jq_seg 3 rfl rfl rfl (List.Perm.refl _))))))))
    refine M_ r_ (jl_and 3 6 rfl rfl rfl rfl (nb rfl) ?_)
    apply Exists.intro
    refine ⟨fun hb1 => ?_, ?_⟩
    exact ah_ r_ h_ b_ (bf_ r_ r_ r_ b_ (ah_ r_ h_ b_ (bg_ 0 r_ r_ r_ r_ (ah_ r_ h_ b_ (bm_ r_ (namedB_c _) (ak_ (jq_seg 3 rfl rfl rfl (List.Perm.refl _))))))))
    refine M_ r_ (jl_and 6 11 rfl rfl rfl rfl (nb rfl) ?_)
    apply Exists.intro
    refine ⟨fun hb1 => ?_, ?_⟩
    exact ah_ r_ h_ b_ (bf_ r_ r_ r_ b_ (ah_ r_ h_ b_ (bg_ 0 r_ r_ r_ r_ (ah_ r_ h_ b_ (bf_ r_ r_ r_ b_ (ah_ r_ h_ b_ (bg_ 0 r_ r_ r_ r_ (ah_ r_ h_ b_ (bq_ r_ r_ b_ r_ r_ b_ (ah_ r_ h_ b_ (bm_ r_ (signedL_c [(t.modes[k]).2.2.1, (t.modes[k]).2.2.2]) (ak_ (jq_seg 6 rfl rfl rfl (List.Perm.refl _))))))))))))))
    refine E_ r_ (ak_ (ay_ (al_ (an_ (o_ r_ (bj_ r_ r_ g_ (M_ r_ (ak_ (jq_bl 3 rfl (b' := zz && mdB (t.modes)[k]) (by simp [mdB, Bool.and_assoc]) (jq_againS (k + 1) hlt g_ ?_ ?_))))))))))
    · exact bc_ 1 r_ sub_end
    · rw [e1]
      (repeat (first | exact True.intro | refine ⟨rfl, ?_⟩))
  have hlt2 : ¬ (k : Int) < (((t.modes).map MdRow).length : Int) := by omega
  rw [List.take_of_length_le (show (t.modes).length ≤ k by omega)]
  clear hlt hk
  refine R_ (o_ r_ (bw_ r_ r_ (T_ (am_ (ap_ r_ w_ (av_ (ax_ (ax_ (ba_ (al_ (am_ (R_ (F_ r_ (L_ 0 r_ (o_ r_ (br_ r_ (fun hlen => M_ r_ ?_)))))))))))))))))
  refine T_ ?_
  generalize hz5 : (z3 && (t.modes).all mdB) = z4 at *
  refine au_ ?_
  have eL4 : ((t.claims).map ClRow).length = (t.claims).length := List.length_map _
  refine jc_loopS (ι := Nat) [] (fun k => k ≤ (t.claims).length) (fun k => [(1, .cell (.val (.pointer (some ⟨bx, 0, none⟩)))), (3, Bl (z4 && ((t.claims).take k).all clB)), (112, .cell (.list ((t.claims).map ClRow))), (113, In .i64 (((t.claims).map ClRow).length : Int)), (114, In .i64 (k : Int))]) (fun _ => [.blk bx 41 t.row]) (fun k => (t.claims).length - k) 0 (Nat.zero_le _) ?_ ?_ ?_
  · exact bc_ 0 r_ sub_end
  · rw [show (z4 && ((t.claims).take 0).all clB) = z4 by simp]
    (repeat (first | exact True.intro | refine ⟨rfl, ?_⟩))
  intro k hk
  by_cases hlt : k < (t.claims).length
  · have hlt2 : (k : Int) < (((t.claims).map ClRow).length : Int) := by omega
    have e1 := all_step (p := clB) (z := z4) hlt
    generalize (z4 && ((t.claims).take k).all clB) = zz at e1 ⊢
    refine R_ (o_ r_ (bw_ r_ r_ (T_ (am_ (aq_ r_ u_ (as_ (al_ (B_ (R_ (o_ r_ (cc_ r_ r_ g_ r_ r_ b_ (o_ r_ (cr_ r_ r_ r_ (o_ r_ (bl_ r_ r_ (fun bl => S_ 0 r_ (T_ (an_ (M_ r_ ?_)))))))))))))))))))
    refine M_ r_ (jl_and 6 1 rfl rfl rfl rfl (nb rfl) ?_)
    apply Exists.intro
    refine ⟨fun hb1 => ?_, ?_⟩
    exact ah_ r_ h_ b_ (bf_ r_ r_ r_ b_ (ah_ r_ h_ b_ (bg_ 0 r_ r_ r_ r_ (ah_ r_ h_ b_ (bf_ r_ r_ r_ b_ (ah_ r_ h_ b_ (bg_ 0 r_ r_ r_ r_ (ah_ r_ h_ b_ (bq_ r_ r_ b_ r_ r_ b_ (ah_ r_ h_ b_ (bm_ r_ (plainL_c [(t.claims[k]).1, (t.claims[k]).2]) (ak_ (jq_seg 6 rfl rfl rfl (List.Perm.refl _))))))))))))))
    refine E_ r_ (ak_ (ay_ (al_ (an_ (o_ r_ (bj_ r_ r_ g_ (M_ r_ (ak_ (jq_bl 3 rfl (b' := zz && clB (t.claims)[k]) (by simp [clB, Bool.and_assoc]) (jq_againS (k + 1) hlt g_ ?_ ?_))))))))))
    · exact bc_ 1 r_ sub_end
    · rw [e1]
      (repeat (first | exact True.intro | refine ⟨rfl, ?_⟩))
  have hlt2 : ¬ (k : Int) < (((t.claims).map ClRow).length : Int) := by omega
  rw [List.take_of_length_le (show (t.claims).length ≤ k by omega)]
  clear hlt hk
  refine R_ (o_ r_ (bw_ r_ r_ (T_ (am_ (ap_ r_ w_ (av_ (ax_ (ax_ (ba_ (al_ (R_ (M_ r_ (E_ r_ (T_ (ar_ (jq_ret1 rfl rfl [] rfl (fun K h => h)))))))))))))))))
theorem printable_c (p : Pg) (hls : ∀ t ∈ p.tasks, lsS 20 t.body) : Con Tryz.prog 19 [.row p.row] [] (fun K => K (Bl (okPg p)) []) := by
  refine con_intro Tryz.func19 rfl rfl (Nat.le_of_ble_eq_true rfl) (fun c hc => ?_)
  skip
  refine R_ (o_ r_ (ci_ r_ (fun bx => E_ r_ (T_ (am_ (jc_cut (ι := Unit) [] (fun _ => (p.res).all nameB = true) (fun _ => [(1, .cell (.val (.pointer (some ⟨bx, 0, none⟩))))]) (fun _ => [.blk bx 31 p.row]) ?_ ?_))))))
  · refine R_ (F_ r_ (L_ 0 r_ (o_ r_ (br_ r_ (fun hlen => M_ r_ (T_ (au_ ?_)))))))
    have eL : ((p.res).map Wrow).length = (p.res).length := List.length_map _
    refine jc_loopS (ι := Nat) [] (fun k => k ≤ (p.res).length ∧ ((p.res).take k).all nameB = true) (fun k => [(1, .cell (.val (.pointer (some ⟨bx, 0, none⟩)))), (10, .cell (.list ((p.res).map Wrow))), (11, In .i64 (((p.res).map Wrow).length : Int)), (12, In .i64 (k : Int))]) (fun _ => [.blk bx 31 p.row]) (fun k => (p.res).length - k) 0 ⟨Nat.zero_le _, rfl⟩ ?_ ?_ ?_
    · exact bc_ 0 r_ sub_end
    · (repeat (first | exact True.intro | refine ⟨rfl, ?_⟩))
    rintro k ⟨hk, hall⟩
    by_cases hlt : k < (p.res).length
    · have hlt2 : (k : Int) < (((p.res).map Wrow).length : Int) := by omega
      refine R_ (o_ r_ (bw_ r_ r_ (T_ (am_ (aq_ r_ u_ (as_ (al_ (B_ (R_ (o_ r_ (cc_ r_ r_ g_ r_ r_ b_ (o_ r_ (cb_ r_ r_ (E_ r_ (T_ (R_ (M_ r_ (o_ r_ (bm_ r_ (namedB_c _) ?_)))))))))))))))))))
      refine o_ r_ (cd_ r_ (T_ (jc_cond rfl (fun hn => ?_) (fun hy => ?_))))
      · have hp : nameB (p.res)[k] = false := by
          simpa using hn
        have hno : (p.res).all nameB = false := all_no hlt hp
        have hres : okPg p = false := by unfold okPg; simp [hno]
        refine R_ (E_ r_ (T_ (ar_ (az_ (aw_ (aw_ (az_ (aw_ (jq_ret1 rfl rfl [] rfl (fun K h => by rw [hres] at h; exact h))))))))))
      · have hp : nameB (p.res)[k] = true := by
          simpa using hy
        refine as_ (ay_ (al_ (an_ (o_ r_ (bj_ r_ r_ g_ (M_ r_ (ak_ (jq_againS (k + 1) ⟨hlt, all_snoc hlt hall hp⟩ g_ ?_ ?_))))))))
        · exact bc_ 0 r_ sub_end
        · (repeat (first | exact True.intro | refine ⟨rfl, ?_⟩))
    · have hlt2 : ¬ (k : Int) < (((p.res).map Wrow).length : Int) := by omega
      refine R_ (o_ r_ (bw_ r_ r_ (T_ (am_ (ap_ r_ w_ (av_ (ax_ (ax_ (ba_ (jq_cutS () (by rw [List.take_of_length_le g_] at hall; exact hall) ?_ ?_))))))))))
      · exact bc_ 0 r_ sub_end
      · (repeat (first | exact True.intro | refine ⟨rfl, ?_⟩))
  intro _ h1
  refine am_ (jc_cut (ι := Unit) [] (fun _ => (p.shared).all shB = true) (fun _ => [(1, .cell (.val (.pointer (some ⟨bx, 0, none⟩))))]) (fun _ => [.blk bx 31 p.row]) ?_ ?_)
  · refine R_ (F_ r_ (L_ 0 r_ (o_ r_ (br_ r_ (fun hlen => M_ r_ (T_ (au_ ?_)))))))
    have eL : ((p.shared).map ShRow).length = (p.shared).length := List.length_map _
    refine jc_loopS (ι := Nat) [] (fun k => k ≤ (p.shared).length ∧ ((p.shared).take k).all shB = true) (fun k => [(1, .cell (.val (.pointer (some ⟨bx, 0, none⟩)))), (21, .cell (.list ((p.shared).map ShRow))), (22, In .i64 (((p.shared).map ShRow).length : Int)), (23, In .i64 (k : Int))]) (fun _ => [.blk bx 31 p.row]) (fun k => (p.shared).length - k) 0 ⟨Nat.zero_le _, rfl⟩ ?_ ?_ ?_
    · exact bc_ 0 r_ sub_end
    · (repeat (first | exact True.intro | refine ⟨rfl, ?_⟩))
    rintro k ⟨hk, hall⟩
    by_cases hlt : k < (p.shared).length
    · have hlt2 : (k : Int) < (((p.shared).map ShRow).length : Int) := by omega
      refine R_ (o_ r_ (bw_ r_ r_ (T_ (am_ (aq_ r_ u_ (as_ (al_ (B_ (R_ (o_ r_ (cc_ r_ r_ g_ r_ r_ b_ (o_ r_ (cr_ r_ r_ r_ (o_ r_ (bl_ r_ r_ (fun bl => S_ 0 r_ (T_ (R_ (F_ r_ ?_)))))))))))))))))))
      refine F_ r_ (L_ 0 r_ (o_ r_ (bm_ r_ (namedB_c _) (o_ r_ (cd_ r_ (M_ r_ (jl_or 6 5 rfl rfl rfl rfl (nb rfl) ?_)))))))
      apply Exists.intro
      refine ⟨fun hb1 => ?_, ?_⟩
      exact ah_ r_ h_ b_ (bf_ r_ r_ r_ b_ (ah_ r_ h_ b_ (bf_ r_ r_ r_ b_ (ah_ r_ h_ b_ (bg_ 0 r_ r_ r_ r_ (ah_ r_ h_ b_ (bq_ r_ r_ b_ r_ r_ b_ (ah_ r_ h_ b_ (bm_ r_ (plainL_c [(p.shared[k]).2.1]) (ah_ r_ h_ b_ (cd_ r_ (ak_ (jq_seg 6 rfl rfl rfl (List.Perm.refl _))))))))))))))
      refine M_ r_ (jl_or 4 13 rfl rfl rfl rfl (nb rfl) ?_)
      apply Exists.intro
      refine ⟨fun hb1 => ?_, ?_⟩
      exact ah_ r_ h_ b_ (bf_ r_ r_ r_ b_ (ah_ r_ h_ b_ (bg_ 0 r_ r_ r_ r_ (ah_ r_ h_ b_ (bm_ r_ (namedB_c _) (ah_ r_ h_ b_ (cd_ r_ (ak_ (jq_seg 4 rfl rfl rfl (List.Perm.refl _))))))))))
      refine T_ (jc_cond rfl (fun hn => ?_) (fun hy => ?_))
      · have hp : shB (p.shared)[k] = false := by
          unfold shB; cases q1 : nameB (p.shared[k]).1 <;> cases q2 : plainB (p.shared[k]).2.1 <;> cases q3 : nameB (p.shared[k]).2.2 <;> simp_all
        have hno : (p.shared).all shB = false := all_no hlt hp
        have hres : okPg p = false := by unfold okPg; simp [hno]
        refine R_ (E_ r_ (T_ (ar_ (az_ (aw_ (aw_ (az_ (aw_ (jq_ret1 rfl rfl [] rfl (fun K h => by rw [hres] at h; exact h))))))))))
      · have hp : shB (p.shared)[k] = true := by
          unfold shB; cases q1 : nameB (p.shared[k]).1 <;> cases q2 : plainB (p.shared[k]).2.1 <;> cases q3 : nameB (p.shared[k]).2.2 <;> simp_all
        refine as_ (ay_ (al_ (an_ (o_ r_ (bj_ r_ r_ g_ (M_ r_ (ak_ (jq_againS (k + 1) ⟨hlt, all_snoc hlt hall hp⟩ g_ ?_ ?_))))))))
        · exact bc_ 1 r_ sub_end
        · (repeat (first | exact True.intro | refine ⟨rfl, ?_⟩))
    · have hlt2 : ¬ (k : Int) < (((p.shared).map ShRow).length : Int) := by omega
      refine R_ (o_ r_ (bw_ r_ r_ (T_ (am_ (ap_ r_ w_ (av_ (ax_ (ax_ (ba_ (jq_cutS () (by rw [List.take_of_length_le g_] at hall; exact hall) ?_ ?_))))))))))
      · exact bc_ 0 r_ sub_end
      · (repeat (first | exact True.intro | refine ⟨rfl, ?_⟩))
  intro _ h2
  refine am_ (jc_cut (ι := Unit) [] (fun _ => (p.tasks).all okTk = true) (fun _ => [(1, .cell (.val (.pointer (some ⟨bx, 0, none⟩))))]) (fun _ => [.blk bx 31 p.row]) ?_ ?_)
  · refine R_ (F_ r_ (L_ 0 r_ (o_ r_ (br_ r_ (fun hlen => M_ r_ (T_ (au_ ?_)))))))
    have eL : ((p.tasks).map Tk.row).length = (p.tasks).length := List.length_map _
    refine jc_loopS (ι := Nat) [] (fun k => k ≤ (p.tasks).length ∧ ((p.tasks).take k).all okTk = true) (fun k => [(1, .cell (.val (.pointer (some ⟨bx, 0, none⟩)))), (48, .cell (.list ((p.tasks).map Tk.row))), (49, In .i64 (((p.tasks).map Tk.row).length : Int)), (50, In .i64 (k : Int))]) (fun _ => [.blk bx 31 p.row]) (fun k => (p.tasks).length - k) 0 ⟨Nat.zero_le _, rfl⟩ ?_ ?_ ?_
    · exact bc_ 0 r_ sub_end
    · (repeat (first | exact True.intro | refine ⟨rfl, ?_⟩))
    rintro k ⟨hk, hall⟩
    by_cases hlt : k < (p.tasks).length
    · have hlt2 : (k : Int) < (((p.tasks).map Tk.row).length : Int) := by omega
      have hF := formed_c 20 (p.tasks[k]).body (by omega) (hls _ (List.getElem_mem hlt))
      refine R_ (o_ r_ (bw_ r_ r_ (T_ (am_ (aq_ r_ u_ (as_ (al_ (B_ (R_ (o_ r_ (cc_ r_ r_ g_ r_ r_ b_ (o_ r_ (cr_ r_ r_ r_ (o_ r_ (bl_ r_ r_ (fun bl => S_ 0 r_ (T_ (R_ (A_ 0 r_ ?_)))))))))))))))))))
      refine o_ r_ (bm_ r_ (declared_c _) (o_ r_ (cd_ r_ (M_ r_ (jl_or 4 3 rfl rfl rfl rfl (nb rfl) ?_)))))
      apply Exists.intro
      refine ⟨fun hb1 => ?_, ?_⟩
      exact ah_ r_ h_ b_ (bf_ r_ r_ r_ b_ (ah_ r_ h_ b_ (bg_ 0 r_ r_ r_ r_ (ah_ r_ h_ b_ (bm_ r_ (hF) (ah_ r_ h_ b_ (cd_ r_ (ak_ (jq_seg 4 rfl rfl rfl (List.Perm.refl _))))))))))
      refine T_ (jc_cond rfl (fun hn => ?_) (fun hy => ?_))
      · have hp : okTk (p.tasks)[k] = false := by
          rw [okTk_decl]; cases q1 : declB (p.tasks[k]) <;> cases q2 : okSs 20 (p.tasks[k]).body <;> simp_all
        have hno : (p.tasks).all okTk = false := all_no hlt hp
        have hres : okPg p = false := by unfold okPg; simp [hno]
        refine R_ (E_ r_ (T_ (ar_ (az_ (aw_ (aw_ (az_ (aw_ (jq_ret1 rfl rfl [] rfl (fun K h => by rw [hres] at h; exact h))))))))))
      · have hp : okTk (p.tasks)[k] = true := by
          rw [okTk_decl]; cases q1 : declB (p.tasks[k]) <;> cases q2 : okSs 20 (p.tasks[k]).body <;> simp_all
        refine as_ (ay_ (al_ (an_ (o_ r_ (bj_ r_ r_ g_ (M_ r_ (ak_ (jq_againS (k + 1) ⟨hlt, all_snoc hlt hall hp⟩ g_ ?_ ?_))))))))
        · exact bc_ 1 r_ sub_end
        · (repeat (first | exact True.intro | refine ⟨rfl, ?_⟩))
    · have hlt2 : ¬ (k : Int) < (((p.tasks).map Tk.row).length : Int) := by omega
      refine R_ (o_ r_ (bw_ r_ r_ (T_ (am_ (ap_ r_ w_ (av_ (ax_ (ax_ (ba_ (jq_cutS () (by rw [List.take_of_length_le g_] at hall; exact hall) ?_ ?_))))))))))
      · exact bc_ 0 r_ sub_end
      · (repeat (first | exact True.intro | refine ⟨rfl, ?_⟩))
  intro _ h3
  have hres : okPg p = true := by unfold okPg; rw [h1, h2, h3]; rfl
  refine R_ (E_ r_ (T_ (ar_ (jq_ret1 rfl rfl [] rfl (fun K h => by rw [hres] at h; exact h)))))
end Go.Proofs.YtlniadfidfmckaaGreatDoor
end

section
namespace Go.Proofs.YtlniadfidfmckaaGreatDoor
open Go.Vc
attribute [local irreducible] JL JC JQ OpWp Con ConN HOk
attribute [local irreducible] nameB plainB smallB shpF okSs rightB
set_option maxHeartbeats 4000000

def mxS (f : Sm → Nat) (l : List Sm) : Nat := l.foldl (fun m s => max m (f s)) 0
theorem mxS_snoc (f : Sm → Nat) (l : List Sm) (s : Sm) : mxS f (l ++ [s]) = max (mxS f l) (f s) := by simp [mxS]
theorem mxS_take {f : Sm → Nat} {l : List Sm} {k : Nat} (h : k < l.length) : mxS f (l.take (k + 1)) = max (mxS f (l.take k)) (f l[k]) := by
  rw [List.take_succ_eq_append_getElem h, mxS_snoc]
theorem mxS_lt {f : Sm → Nat} {n : Nat} : ∀ {l : List Sm}, n < mxS f l ↔ ∃ s ∈ l, n < f s := by
  intro l
  unfold mxS
  have : ∀ (l : List Sm) (m : Nat), n < l.foldl (fun m s => max m (f s)) m ↔ n < m ∨ ∃ s ∈ l, n < f s := by
    intro l
    induction l with
    | nil => intro m; simp
    | cons a l ih =>
      intro m
      rw [List.foldl_cons, ih]
      constructor
      · rintro (h | ⟨s, hs, h⟩)
        · by_cases h1 : n < m
          · exact .inl h1
          · exact .inr ⟨a, by simp, by omega⟩
        · exact .inr ⟨s, by simp [hs], h⟩
      · rintro (h | ⟨s, hs, h⟩)
        · exact .inl g_
        · rcases List.mem_cons.1 hs with rfl | hs
          · exact .inl g_
          · exact .inr ⟨s, hs, h⟩
  rw [this]
  simp
def tdOne (rec : List Sm → Nat) (s : Sm) : Nat := 1 + max (rec s.thn) (rec s.els)
def tdS : Nat → List Sm → Nat
  | 0, l => mxS (fun _ => 1) l
  | L + 1, l => mxS (tdOne (tdS L)) l
theorem tdS_le : ∀ (L : Nat) (l : List Sm), tdS L l ≤ L + 1
  | 0, l => by
    have h : ¬ 1 < tdS 0 l := by unfold tdS; rw [mxS_lt]; simp
    omega
  | L + 1, l => by
    have h : ¬ L + 2 < tdS (L + 1) l := by
      unfold tdS
      rw [mxS_lt]
      rintro ⟨s, _, h⟩
      unfold tdOne at h
      have := tdS_le L s.thn
      have := tdS_le L s.els
      omega
    omega
def DeepP (L : Nat) : Prop := ∀ l : List Sm, Con Tryz.prog 44 [.cell (.list (l.map Sm.row)), In .i64 (L : Int)] [] (fun K => K (In .i64 (tdS L l : Int)) [])
theorem deep_zero : DeepP 0 := by
  intro l
  have eL : (l.map Sm.row).length = l.length := List.length_map _
  refine con_intro Tryz.func44 rfl rfl (Nat.le_of_ble_eq_true rfl) (fun c hc => R_ (E_ r_ (T_ (R_ (E_ r_ (T_ (am_ (R_ (M_ r_ (o_ r_ (br_ r_ (fun hlen => M_ r_ (T_ (au_ ?_))))))))))))))
  refine jc_loopS (ι := Nat) [] (fun k => k ≤ l.length) (fun k => [(1, In .i64 ((0 : Nat) : Int)), (5, In .i64 (mxS (fun _ => 1) (l.take k) : Int)), (9, .cell (.list (l.map Sm.row))), (10, In .i64 ((l.map Sm.row).length : Int)), (11, In .i64 (k : Int))]) (fun _ => []) (fun k => l.length - k) 0 (Nat.zero_le _) ?_ ?_ ?_
  · exact sub_end
  · (repeat (first | exact True.intro | refine ⟨rfl, ?_⟩))
  intro k hk
  by_cases hlt : k < l.length
  · have hlt2 : (k : Int) < ((l.map Sm.row).length : Int) := by omega
    refine R_ (o_ r_ (bw_ r_ r_ (T_ (am_ (aq_ r_ u_ (as_ (al_ (B_ (R_ (o_ r_ (cc_ r_ r_ g_ (Sm.row_eq _) r_ b_ (o_ r_ (cr_ r_ r_ r_ (o_ r_ (bl_ r_ r_ (fun bl => S_ 0 r_ (T_ (R_ (E_ r_ ?_)))))))))))))))))))
    refine T_ (am_ (R_ (M_ r_ (o_ r_ (bz_ r_ r_ (T_ (ap_ r_ r_ (as_ (al_ (an_ (M_ r_ (M_ r_ (o_ r_ (ck_ r_ r_ (E_ r_ (ak_ (ay_ ?_)))))))))))))))))
    refine al_ (an_ (o_ r_ (bj_ r_ r_ g_ (M_ r_ (ak_ (jq_againS (k + 1) hlt g_ ?_ ?_))))))
    · exact sub_end
    · rw [mxS_take hlt, show ((max (mxS (fun _ => 1) (l.take k)) 1 : Nat) : Int) = max (mxS (fun _ => 1) (l.take k) : Int) 1 by omega]
      (repeat (first | exact True.intro | refine ⟨rfl, ?_⟩))
  · have hlt2 : ¬ (k : Int) < ((l.map Sm.row).length : Int) := by omega
    rw [List.take_of_length_le (show l.length ≤ k by omega)]
    refine R_ (o_ r_ (bw_ r_ r_ (T_ (am_ (ap_ r_ w_ (av_ (ax_ (ax_ (ba_ (al_ (R_ (M_ r_ (E_ r_ (T_ (ar_ (jq_ret1 rfl rfl [] rfl (fun K h => h)))))))))))))))))
theorem deep_succ (L : Nat) (hL : L ≤ 1000) (ih : DeepP L) : DeepP (L + 1) := by
  intro l
  have eL : (l.map Sm.row).length = l.length := List.length_map _
  have hp : (0 : Int) < ((L + 1 : Nat) : Int) := by omega
  have hI : ∀ m : List Sm, Con Tryz.prog 44 [.cell (.list (m.map Sm.row)), In .i64 (((L + 1 : Nat) : Int) - 1)] [] (fun K => K (In .i64 (tdS L m : Int)) []) := by
    rw [show (((L + 1 : Nat) : Int) - 1) = (L : Int) by omega]
    exact ih
  have hd : ((L + 1 : Nat) : Int) ≤ 1001 := by omega
  have e0 : tdS (L + 1) l = mxS (tdOne (tdS L)) l := rfl
  rw [e0]
  generalize ((L + 1 : Nat) : Int) = d at hp hI hd ⊢
  refine con_intro Tryz.func44 rfl rfl (Nat.le_of_ble_eq_true rfl) (fun c hc => R_ (E_ r_ (T_ (R_ (E_ r_ (T_ (am_ (R_ (M_ r_ (o_ r_ (br_ r_ (fun hlen => M_ r_ (T_ (au_ ?_))))))))))))))
  refine jc_loopS (ι := Nat) [] (fun k => k ≤ l.length) (fun k => [(1, In .i64 d), (5, In .i64 (mxS (tdOne (tdS L)) (l.take k) : Int)), (9, .cell (.list (l.map Sm.row))), (10, In .i64 ((l.map Sm.row).length : Int)), (11, In .i64 (k : Int))]) (fun _ => []) (fun k => l.length - k) 0 (Nat.zero_le _) ?_ ?_ ?_
  · exact sub_end
  · (repeat (first | exact True.intro | refine ⟨rfl, ?_⟩))
  intro k hk
  by_cases hlt : k < l.length
  · have hlt2 : (k : Int) < ((l.map Sm.row).length : Int) := by omega
    have t1 := tdS_le L l[k].thn
    have t2 := tdS_le L l[k].els
    refine R_ (o_ r_ (bw_ r_ r_ (T_ (am_ (aq_ r_ u_ (as_ (al_ (B_ (R_ (o_ r_ (cc_ r_ r_ g_ (Sm.row_eq _) r_ b_ (o_ r_ (cr_ r_ r_ r_ (o_ r_ (bl_ r_ r_ (fun bl => S_ 0 r_ (T_ (R_ (E_ r_ ?_)))))))))))))))))))
    refine T_ (am_ (R_ (M_ r_ (o_ r_ (bz_ r_ r_ (T_ (aq_ r_ u_ (ao_ r_ r_ k_ k_ (yM_ r_ (yF_ r_ (yL_ 0 r_ (yM_ r_ (aa_ (fun c => cg_ r_ r_ g_ p_) (aa_ (fun c => bm_ r_ (hI _) p_) (yF_ r_ (yL_ 0 r_ ?_))))))))))))))))
    refine yM_ r_ (aa_ (fun c => cg_ r_ r_ g_ p_) (aa_ (fun c => bm_ r_ (hI _) p_) (aa_ (fun c => ck_ r_ r_ p_) (aa_ (fun c => bj_ r_ r_ g_ p_) (yE_ r_ (ae_ (al_ (an_ (M_ r_ (M_ r_ (o_ r_ (ck_ r_ r_ (E_ r_ (ak_ (ay_ (al_ ?_))))))))))))))))
    refine an_ (o_ r_ (bj_ r_ r_ g_ (M_ r_ (ak_ (jq_againS (k + 1) hlt g_ ?_ ?_)))))
    · exact sub_end
    · rw [mxS_take hlt, show ((max (mxS (tdOne (tdS L)) (l.take k)) (tdOne (tdS L) l[k]) : Nat) : Int) = max (mxS (tdOne (tdS L)) (l.take k) : Int) (1 + max (tdS L l[k].thn : Int) (tdS L l[k].els : Int)) by unfold tdOne; omega]
      (repeat (first | exact True.intro | refine ⟨rfl, ?_⟩))
  · have hlt2 : ¬ (k : Int) < ((l.map Sm.row).length : Int) := by omega
    rw [List.take_of_length_le (show l.length ≤ k by omega)]
    refine R_ (o_ r_ (bw_ r_ r_ (T_ (am_ (ap_ r_ w_ (av_ (ax_ (ax_ (ba_ (al_ (R_ (M_ r_ (E_ r_ (T_ (ar_ (jq_ret1 rfl rfl [] rfl (fun K h => h)))))))))))))))))
theorem deepS_c : ∀ L : Nat, L ≤ 1000 → DeepP L
  | 0, _ => deep_zero
  | L + 1, h => deep_succ L (by omega) (deepS_c L (by omega))

def dd : Nat → List Sm → Bool
  | 0, l => !l.isEmpty
  | n + 1, l => l.any (fun s => dd n s.thn || dd n s.els)
theorem tdS_dd : ∀ (n : Nat) (l : List Sm), n < tdS n l ↔ dd n l = true
  | 0, l => by
    unfold tdS dd
    rw [mxS_lt]
    cases l <;> simp
  | n + 1, l => by
    unfold tdS dd
    rw [mxS_lt, List.any_eq_true]
    constructor
    · rintro ⟨s, hs, h⟩
      refine ⟨s, hs, ?_⟩
      unfold tdOne at h
      rw [Bool.or_eq_true, ← tdS_dd n, ← tdS_dd n]
      omega
    · rintro ⟨s, hs, h⟩
      refine ⟨s, hs, ?_⟩
      rw [Bool.or_eq_true, ← tdS_dd n, ← tdS_dd n] at h
      unfold tdOne
      omega
def exOne (rec : List Sm → Bool) (s : Sm) : Bool := (s.index.any dpx || s.value.any dpx) || rec s.thn || rec s.els
def exS : Nat → List Sm → Bool
  | 0, _ => false
  | n + 1, l => l.any (exOne (exS n))
theorem dpF_split : ∀ (n : Nat) (l : List Sm), dpF n l = (dd n l || exS n l)
  | 0, l => by simp [dpF, dd, exS]
  | n + 1, l => by
    have h1 : ∀ s : Sm, dpS (dpF n) s = ((dd n s.thn || dd n s.els) || exOne (exS n) s) := by
      intro s
      unfold dpS exOne
      rw [dpF_split n, dpF_split n]
      cases dd n s.thn <;> cases dd n s.els <;> cases exS n s.thn <;> cases exS n s.els <;> simp
    rw [Bool.eq_iff_iff]
    unfold dpF dd exS
    simp only [Bool.or_eq_true, List.any_eq_true, h1]
    constructor
    · rintro ⟨s, hs, h | h⟩
      · exact .inl ⟨s, hs, h⟩
      · exact .inr ⟨s, hs, h⟩
    · rintro (⟨s, hs, h⟩ | ⟨s, hs, h⟩)
      · exact ⟨s, hs, .inl h⟩
      · exact ⟨s, hs, .inr h⟩
theorem lsS_mono : ∀ {n m : Nat} {l : List Sm}, n ≤ m → lsS m l → lsS n l
  | 0, _, _, _, _ => trivial
  | n + 1, 0, _, h, _ => by omega
  | n + 1, m + 1, l, h, hl => fun s hs => by
    obtain ⟨h1, h2, h3, h4⟩ := hl s hs
    exact ⟨h1, h2, lsS_mono g_ h3, lsS_mono g_ h4⟩
theorem any_app {α : Type} (p : α → Bool) (l m : List α) : (l ++ m).any p = (l.any p || m.any p) := List.any_append
theorem deep1_c (s : Sm) (hI : s.index.length ≤ 1000) (hV : s.value.length ≤ 1000) : Con Tryz.prog 46 [.row s.row'] [] (fun K => K (Bl (!(s.index.any dpx || s.value.any dpx))) []) := by
  have hE := exprs_c s hI hV
  rw [← any_app]
  generalize s.index ++ s.value = E at hE ⊢
  have eE : (E.map T.row).length = E.length := List.length_map _
  refine con_intro Tryz.func46 rfl rfl (Nat.le_of_ble_eq_true rfl) (fun c hc => R_ (o_ r_ (ci_ r_ (fun bx => E_ r_ (T_ (am_ (R_ (A_ 0 r_ (o_ r_ (bm_ r_ (hE) (o_ r_ (br_ r_ (fun hlen => M_ r_ (T_ (au_ ?_)))))))))))))))
  refine jc_loopS (ι := Nat) [] (fun k => k ≤ E.length ∧ (E.take k).any dpx = false) (fun k => [(6, .cell (.list (E.map T.row))), (7, In .i64 ((E.map T.row).length : Int)), (8, In .i64 (k : Int))]) (fun _ => []) (fun k => E.length - k) 0 ⟨Nat.zero_le _, rfl⟩ ?_ ?_ ?_
  · exact sub_end
  · (repeat (first | exact True.intro | refine ⟨rfl, ?_⟩))
  rintro k ⟨hk, hall⟩
  by_cases hlt : k < E.length
  · have hlt2 : (k : Int) < ((E.map T.row).length : Int) := by omega
    have hD := Depth_c 8 E[k] (by omega)
    have hdl := dl_eq 8 E[k]
    by_cases hd : 8 < E[k].dep
    · have hd2 : (8 : Int) < (dl 8 E[k] : Int) := by omega
      have hres : E.any dpx = true := any_yes hlt (by unfold dpx; exact decide_eq_true hd)
      refine R_ (o_ r_ (bw_ r_ r_ (T_ (am_ (aq_ r_ u_ (as_ (al_ (B_ (R_ (o_ r_ (cc_ r_ r_ g_ (T.row_eq _) r_ b_ (o_ r_ (cr_ r_ r_ r_ (o_ r_ (bl_ r_ r_ (fun bl => S_ 0 r_ (T_ (R_ (A_ 0 r_ ?_)))))))))))))))))))
      refine o_ r_ (bm_ r_ (hD) (o_ r_ (bz_ r_ r_ (T_ (aq_ r_ u_ (R_ (E_ r_ (T_ (ar_ (az_ (aw_ (aw_ (az_ (aw_ (jq_ret1 rfl rfl [] rfl (fun K h => by rw [hres] at h; exact h))))))))))))))))
    · have hd2 : ¬ (8 : Int) < (dl 8 E[k] : Int) := by omega
      refine R_ (o_ r_ (bw_ r_ r_ (T_ (am_ (aq_ r_ u_ (as_ (al_ (B_ (R_ (o_ r_ (cc_ r_ r_ g_ (T.row_eq _) r_ b_ (o_ r_ (cr_ r_ r_ r_ (o_ r_ (bl_ r_ r_ (fun bl => S_ 0 r_ (T_ (R_ (A_ 0 r_ ?_)))))))))))))))))))
      refine o_ r_ (bm_ r_ (hD) (o_ r_ (bz_ r_ r_ (T_ (ap_ r_ w_ (as_ (ay_ (al_ (an_ (o_ r_ (bj_ r_ r_ g_ (M_ r_ (ak_ (jq_againS (k + 1) ⟨hlt, any_snoc hlt hall (by unfold dpx; exact decide_eq_false hd)⟩ g_ ?_ ?_))))))))))))))
      · exact sub_end
      · (repeat (first | exact True.intro | refine ⟨rfl, ?_⟩))
  · have hlt2 : ¬ (k : Int) < ((E.map T.row).length : Int) := by omega
    rw [List.take_of_length_le (by omega)] at hall
    refine R_ (o_ r_ (bw_ r_ r_ (T_ (am_ (ap_ r_ w_ (av_ (ax_ (ax_ (ba_ (al_ (R_ (E_ r_ (T_ (ar_ (jq_ret1 rfl rfl [] rfl (fun K h => by rw [hall] at h; exact h))))))))))))))))
abbrev Fn1 : S := .cell (.val (.func (.func 46) #[] #[]))
def EachP (n : Nat) : Prop := ∀ l : List Sm, dd n l = false → lsS n l → Con Tryz.prog 45 [.cell (.list (l.map Sm.row)), Fn1] [] (fun K => K (Bl (!exS n l)) [])
theorem each_step (n : Nat) (hrec : ∀ n', n = n' + 1 → EachP n') : EachP n := by
  intro l hdd hls
  have eL : (l.map Sm.row).length = l.length := List.length_map _
  refine con_intro Tryz.func45 rfl rfl (Nat.le_of_ble_eq_true rfl) (fun c hc => R_ (E_ r_ (T_ (am_ (R_ (M_ r_ (o_ r_ (br_ r_ (fun hlen => M_ r_ (T_ (au_ ?_)))))))))))
  refine jc_loopS (ι := Nat) [] (fun k => k ≤ l.length ∧ ∀ n', n = n' + 1 → (l.take k).any (exOne (exS n')) = false) (fun k => [(1, Fn1), (7, .cell (.list (l.map Sm.row))), (8, In .i64 ((l.map Sm.row).length : Int)), (9, In .i64 (k : Int))]) (fun _ => []) (fun k => l.length - k) 0 ⟨Nat.zero_le _, fun _ _ => rfl⟩ ?_ ?_ ?_
  · exact sub_end
  · (repeat (first | exact True.intro | refine ⟨rfl, ?_⟩))
  rintro k ⟨hk, hall⟩
  by_cases hlt : k < l.length
  · have hlt2 : (k : Int) < ((l.map Sm.row).length : Int) := by omega
    obtain ⟨n', rfl⟩ : ∃ n', n = n' + 1 := by
      cases n with
      | zero =>
        cases l with
        | nil => simp at hlt
        | cons a l => cases hdd
      | succ n => exact ⟨n, rfl⟩
    have hall := hall n' rfl
    obtain ⟨q1, q2, q3, q4⟩ := hls _ (List.getElem_mem hlt)
    have hds : dd n' l[k].thn = false ∧ dd n' l[k].els = false := by
      have h1 := List.any_eq_false.1 hdd l[k] (List.getElem_mem hlt)
      simpa using h1
    have i1 := hrec n' rfl _ hds.1 q3
    have i2 := hrec n' rfl _ hds.2 q4
    have hF := deep1_c _ q1 q2
    have eo : exOne (exS n') l[k] = ((l[k].index.any dpx || l[k].value.any dpx) || exS n' l[k].thn || exS n' l[k].els) := rfl
    refine R_ (o_ r_ (bw_ r_ r_ (T_ (am_ (aq_ r_ u_ (as_ (al_ (B_ (R_ (o_ r_ (cc_ r_ r_ g_ (Sm.row_eq _) r_ b_ (o_ r_ (cr_ r_ r_ r_ (o_ r_ (bl_ r_ r_ (fun bl => S_ 0 r_ (T_ (R_ (M_ r_ ?_)))))))))))))))))))
    refine A_ 0 r_ (o_ r_ (ow_callv0 r_ r_ (hF) (o_ r_ (cd_ r_ (M_ r_ (jl_or 5 4 rfl rfl rfl rfl (nb rfl) ?_))))))
    apply Exists.intro
    refine ⟨fun hb1 => ?_, ?_⟩
    exact ah_ r_ h_ b_ (bf_ r_ r_ r_ b_ (ah_ r_ h_ b_ (bg_ 0 r_ r_ r_ r_ (ah_ r_ h_ b_ (bd_ r_ (ah_ r_ h_ b_ (bm_ r_ (i1) (ah_ r_ h_ b_ (cd_ r_ (ak_ (jq_seg 5 rfl rfl rfl (List.Perm.refl _))))))))))))
    refine M_ r_ (jl_or 5 11 rfl rfl rfl rfl (nb rfl) ?_)
    apply Exists.intro
    refine ⟨fun hb1 => ?_, ?_⟩
    exact ah_ r_ h_ b_ (bf_ r_ r_ r_ b_ (ah_ r_ h_ b_ (bg_ 0 r_ r_ r_ r_ (ah_ r_ h_ b_ (bd_ r_ (ah_ r_ h_ b_ (bm_ r_ (i2) (ah_ r_ h_ b_ (cd_ r_ (ak_ (jq_seg 5 rfl rfl rfl (List.Perm.refl _))))))))))))
    refine T_ (jc_cond rfl (fun hn => ?_) (fun hy => ?_))
    · have hp : exOne (exS n') l[k] = true := by
        rw [eo]
        cases h1 : (l[k].index.any dpx || l[k].value.any dpx) <;> cases h2 : exS n' l[k].thn <;> cases h3 : exS n' l[k].els <;> simp_all
      have hres : exS (n' + 1) l = true := any_yes hlt hp
      refine R_ (E_ r_ (T_ (ar_ (az_ (aw_ (aw_ (az_ (aw_ (jq_ret1 rfl rfl [] rfl (fun K h => by rw [hres] at h; exact h))))))))))
    · have hp : exOne (exS n') l[k] = false := by
        rw [eo]
        cases h1 : (l[k].index.any dpx || l[k].value.any dpx) <;> cases h2 : exS n' l[k].thn <;> cases h3 : exS n' l[k].els <;> simp_all
      refine as_ (ay_ (al_ (an_ (o_ r_ (bj_ r_ r_ g_ (M_ r_ (ak_ ?_)))))))
      refine jq_againS (k + 1) ⟨hlt, fun n2 e2 => by obtain rfl : n' = n2 := by omega
                                                     exact any_snoc hlt hall hp⟩ (by omega) ?_ ?_
      · exact sub_end
      · (repeat (first | exact True.intro | refine ⟨rfl, ?_⟩))
  · have hlt2 : ¬ (k : Int) < ((l.map Sm.row).length : Int) := by omega
    have hres : exS n l = false := by
      cases n with
      | zero => rfl
      | succ n =>
        have := hall n rfl
        rw [List.take_of_length_le (by omega)] at this
        exact this
    refine R_ (o_ r_ (bw_ r_ r_ (T_ (am_ (ap_ r_ w_ (av_ (ax_ (ax_ (ba_ (al_ (R_ (E_ r_ (T_ (ar_ (jq_ret1 rfl rfl [] rfl (fun K h => by rw [hres] at h; exact h))))))))))))))))
theorem each_c : ∀ n : Nat, EachP n
  | 0 => each_step 0 (fun n' h => by omega)
  | n + 1 => each_step (n + 1) (fun n' h => by obtain rfl : n = n' := by omega
                                               exact each_c n)
theorem pdeep_c (l : List Sm) (hl : lsS 20 l) : Con Tryz.prog 20 [.cell (.list (l.map Sm.row))] [] (fun K => K (Bl (dpF 8 l)) []) := by
  have hD := deepS_c 8 (by omega) l
  have hs := tdS_dd 8 l
  have e := dpF_split 8 l
  refine con_intro Tryz.func20 rfl rfl (Nat.le_of_ble_eq_true rfl) (fun c hc => ?_)
  cases hdd : dd 8 l with
  | true =>
    have h8 : (8 : Int) < (tdS 8 l : Int) := by have := hs.2 hdd; omega
    have hres : dpF 8 l = true := by rw [e, hdd]; rfl
    refine R_ (E_ r_ (T_ (am_ (R_ (M_ r_ (o_ r_ (bm_ r_ (hD) (o_ r_ (bz_ r_ r_ (T_ (aq_ r_ u_ (R_ (E_ r_ (T_ (ar_ (aw_ (jq_ret1 rfl rfl [] rfl (fun K h => by rw [hres] at h; exact h))))))))))))))))))
  | false =>
    have h8 : ¬ (8 : Int) < (tdS 8 l : Int) := by
      intro h
      have := hs.1 (by omega)
      rw [hdd] at this
      cases this
    have hres : dpF 8 l = exS 8 l := by rw [e, hdd]; rfl
    have hE := each_c 8 l hdd (lsS_mono (by omega) hl)
    refine R_ (E_ r_ (T_ (am_ (R_ (M_ r_ (o_ r_ (bm_ r_ (hD) (o_ r_ (bz_ r_ r_ (T_ (ap_ r_ w_ (as_ (al_ (R_ (M_ r_ (o_ r_ (bm_ r_ (hE) (o_ r_ (cd_ r_ ?_)))))))))))))))))))
    refine E_ r_ (T_ (ar_ (jq_ret1 rfl rfl [] rfl (fun K h => by rw [hres, ← Bool.not_not (exS 8 l)] at h; exact h))))
end Go.Proofs.YtlniadfidfmckaaGreatDoor
end

section
namespace Go.Proofs.YtlniadfidfmckaaGreatDoor
open Go.Vc
attribute [local irreducible] JL JC JQ OpWp Con ConN HOk
attribute [local irreducible] byteAt runLen isL isD isName hasW rd fineS numS textT hdT stsT stT
set_option maxHeartbeats 4000000

abbrev Wb (b : Nat) (v : Value) : Ch := Wblk b (some ⟨b, 0, none⟩) v
abbrev KeqP : ByteArray := ⟨#[61]⟩
theorem num_c (n : Int) (h : -2147483647 ≤ n ∧ n ≤ 2147483647) : Con Tryz.prog 22 [In .i64 n] [] (fun K => K (Str (numS n)) []) := by
  have hI := itoa_c n h.1 h.2
  refine con_intro Tryz.func22 rfl rfl (Nat.le_of_ble_eq_true rfl) (fun c hc => R_ (E_ r_ (T_ (R_ (M_ r_ (o_ r_ (bm_ r_ (hI) (E_ r_ (T_ (ar_ (jq_ret1 rfl rfl [] rfl (fun K h => h))))))))))))
theorem numF_c {n : Int} (h : Pl n) : Con Tryz.prog 22 [In .i64 n] [] (fun K => K (Str (numS n)) []) := num_c n ⟨by have := h.1; omega, h.2⟩
theorem ptextF_c {t : T} (h : Fx t) : Con Tryz.prog 37 [.row t.row'] [] (fun K => K (Str (textT t)) []) := expr_c t h.1 (text_small h.1 h.2)
theorem ln1 {s : Sm} {x : T} (q : Nat) (hk : s.kind = 1) (hv : s.value = [x]) : lnT q [s.name, KeqP, textT x] = spN q ++ hdT s := by
  rw [hdT1 hk hv]
  simp only [lnT, joinB]
  apply ByteArray.ext
  apply Array.ext'
  simp
theorem ln2 {s : Sm} {x y : T} (q : Nat) (hk : s.kind = 2) (hi : s.index = [y]) (hv : s.value = [x]) : lnT q [((s.name ++ Kx1) ++ textT y) ++ (⟨#[93]⟩ : ByteArray), KeqP, textT x] = spN q ++ hdT s := by
  rw [hdT2 hk hi hv]
  simp only [lnT, joinB]
  apply ByteArray.ext
  apply Array.ext'
  simp
theorem ln3 {s : Sm} {x : T} (q : Nat) (hk : s.kind = 3) (hv : s.value = [x]) : lnT q [⟨#[105, 102]⟩, textT x, ⟨#[108, 97, 98, 101, 108]⟩, numS s.label, ⟨#[123]⟩] = spN q ++ hdT s := by
  rw [hdT3 hk hv]
  simp only [lnT, joinB]
  apply ByteArray.ext
  apply Array.ext'
  simp
theorem ln4 {s : Sm} {x : T} (q : Nat) (hk : s.kind = 4) (hv : s.value = [x]) : lnT q [⟨#[119, 104, 105, 108, 101]⟩, textT x, ⟨#[109, 97, 120]⟩, numS s.max, ⟨#[108, 97, 98, 101, 108]⟩, numS s.label, ⟨#[123]⟩] = spN q ++ hdT s := by
  rw [hdT4 hk hv]
  simp only [lnT, joinB]
  apply ByteArray.ext
  apply Array.ext'
  simp
theorem ln5 {s : Sm} (q : Nat) (hk : s.kind = 5) : lnT q [⟨#[108, 111, 99, 107]⟩, s.name, ⟨#[123]⟩] = spN q ++ hdT s := by
  rw [hdT5 hk]
  simp only [lnT, joinB]
  apply ByteArray.ext
  apply Array.ext'
  simp
theorem lnElse (q : Nat) : lnT q [⟨#[125]⟩, ⟨#[101, 108, 115, 101]⟩, ⟨#[123]⟩] = spN q ++ Kelse2 := by
  simp only [lnT, joinB]
  apply ByteArray.ext
  apply Array.ext'
  simp
theorem lnClose (q : Nat) : lnT q [⟨#[125]⟩] = spN q ++ Kclose := by
  simp only [lnT, joinB]
  apply ByteArray.ext
  apply Array.ext'
  simp
/-- A line whose text is known. -/
theorem lineT_c {b : Nat} {v : Value} {X : ByteArray} {q : Nat} {L : List ByteArray} {Y : ByteArray} (hY : lnT q L = spN q ++ Y) (hq : q ≤ 1000) (hL : L ≠ []) (hl : L.length ≤ 1000) (hs : Y.size ≤ 1000000) (hX : X.size ≤ 140000000000000) :
    Con Tryz.prog 21 [Wptr b, In .i64 (q : Int), .cell (.list (L.map Wrow))] [Wb b v, Bw v X]
      (fun K => ∀ v' : Value, True → K (.tup []) [Wb b v', Bw v' ((X ++ spN q) ++ Y)]) := by
  have h1 : (lnT q L).size = (spN q).size + (joinB L).size + 1 := by unfold lnT; rw [ByteArray.size_append, ByteArray.size_append]; rfl
  rw [hY, ByteArray.size_append] at h1
  have := line_c b v (some ⟨b, 0, none⟩) X q L (.inr rfl) hq hL hl (by omega) hX
  rw [hY, ← ByteArray.append_assoc] at this
  exact this
def WBody (b : Nat) (n : Nat) : Prop := ∀ (l : List Sm) (q : Nat) (X : ByteArray) (v : Value), (∀ s ∈ l, fineS n s) → q + n ≤ 50 → X.size + 60000 * Sm.szs l ≤ 100000000000000 →
  Con Tryz.prog 52 [Wptr b, .cell (.list (l.map Sm.row)), In .i64 (q : Int)] [Wb b v, Bw v X] (fun K => ∀ v' : Value, True → K (.tup []) [Wb b v', Bw v' (X ++ stsT (spN q) l)])
theorem wbody_step (b : Nat) (n : Nat) (hrec : ∀ n', n = n' + 1 → WBody b n') : WBody b n := by
  intro l q X v0 hfine hsp hX
  have eL : (l.map Sm.row).length = l.length := List.length_map _
  have hq2 := spN_size q
  refine con_intro Tryz.func52 rfl rfl (Nat.le_of_ble_eq_true rfl) (fun c hc => R_ (M_ r_ (o_ r_ (br_ r_ (fun hlen => M_ r_ (T_ (au_ ?_)))))))
  refine jc_loopS (ι := Nat × Value) [] (fun i => i.1 ≤ l.length) (fun i => [(0, Wptr b), (2, In .i64 (q : Int)), (8, .cell (.list (l.map Sm.row))), (9, In .i64 ((l.map Sm.row).length : Int)), (10, In .i64 (i.1 : Int))]) (fun i => [Wb b i.2, Bw i.2 (X ++ stsT (spN q) (l.take i.1))]) (fun i => l.length - i.1) (0, v0) (Nat.zero_le _) ?_ ?_ ?_
  · rw [show X ++ stsT (spN q) (l.take 0) = X by rw [List.take_zero, stsT, ba_nil]]
    exact bc_ 0 r_ (bc_ 0 r_ sub_end)
  · (repeat (first | exact True.intro | refine ⟨rfl, ?_⟩))
  rintro ⟨k, v⟩ hk
  dsimp only at hk ⊢
  by_cases hlt : k < l.length
  · have hlt2 : (k : Int) < ((l.map Sm.row).length : Int) := by omega
    have hfk := hfine l[k] (List.getElem_mem hlt)
    have hszk := szs_take_succ hlt
    have hs0 := sts_size (sp := spN q) (l := l.take k) (fun s hs => hfine s (List.mem_of_mem_take hs)) (by omega)
    have hsk := st_size n (spN q) l[k] hfk (by omega)
    have hYs : (X ++ stsT (spN q) (l.take k)).size + 60000 * l[k].sz ≤ 100000000000000 := by rw [ByteArray.size_append]; omega
    have hnext : X ++ stsT (spN q) (l.take (k + 1)) = (X ++ stsT (spN q) (l.take k)) ++ stT (spN q) l[k] := by rw [stsT_take (spN q) hlt, ByteArray.append_assoc]
    generalize X ++ stsT (spN q) (l.take k) = Y at hYs hnext ⊢
    have hz1 : 1 ≤ l[k].sz := by rw [Sm.sz_eq]; omega
    refine R_ (o_ r_ (bw_ r_ r_ (T_ (am_ (aq_ r_ u_ (as_ (al_ (B_ (R_ (o_ r_ (cc_ r_ r_ g_ (Sm.row_eq _) r_ b_ (o_ r_ (cr_ r_ r_ r_ (o_ r_ (bl_ r_ r_ (fun bl => S_ 0 r_ (T_ (am_ ?_))))))))))))))))))
    obtain ⟨s, hs⟩ : ∃ s, s = l[k] := ⟨_, rfl⟩
    rw [← hs] at hfk hsk hYs hnext hz1 ⊢
    have hhd := hd_size hfk
    have hY2 : (Y ++ spN q).size = Y.size + (spN q).size := ByteArray.size_append ..
    obtain ⟨n', rfl⟩ : ∃ n', n = n' + 1 := by
      cases n with
      | zero => exact absurd hfk (by unfold fineS; exact id)
      | succ n => exact ⟨n, rfl⟩
    have hrec := hrec n' rfl
    unfold fineS at hfk
    refine jc_cut (ι := Value) [] (fun _ => 3 ≤ s.kind) (fun v => [(0, Wptr b), (2, In .i64 (q : Int)), (8, .cell (.list (l.map Sm.row))), (9, In .i64 ((l.map Sm.row).length : Int)), (10, In .i64 (k : Int)), (7, .cell (.val (.pointer (some ⟨bl, 0, none⟩))))]) (fun v => [Wb b v, Bw v ((Y ++ spN q) ++ hdT s), .blk bl 51 s.row']) ?_ ?_
    · rcases hfk with ⟨hk1, hn, x, hv, fx⟩ | ⟨hk1, hn, y, x, hi, hv, fy, fx⟩ | ⟨hk1, ⟨x, hv, fx⟩, hl, _⟩ | ⟨hk1, ⟨x, hv, fx⟩, hm, hl, _⟩ | ⟨hk1, hn, _⟩
      · have hln := lineT_c (b := b) (v := v) (X := Y) (ln1 q hk1 hv) (by omega) (by simp) (by simp) (by omega) (by omega)
        rw [row1 hv]
        have e1 : [x].length = 1 := rfl
        have ht := ptextF_c fx
        refine R_ (F_ r_ (L_ 0 r_ (T_ (au_ (R_ (o_ r_ (bn_ r_ r_ (E_ r_ (T_ (aq_ r_ u_ (am_ (jc_anyB 10 none rfl k_ k_ (yM_ r_ (yM_ r_ (yF_ r_ (yL_ 0 r_ ?_))))))))))))))))
        refine yF_ r_ (yL_ 0 r_ (aa_ (fun c => cv_ r_ r_ g_ g_ (T.row_eq _) r_ b_ p_) (aa_ (fun c => cr_ r_ r_ r_ p_) (aa_ (fun c => bm_ r_ (ht) p_) (aa_ (fun c => bq_ r_ r_ b_ r_ r_ b_ p_) (ae_ (afin_none (o_ r_ (bt_ [1, 1] rfl rfl (hln) (fun pp hpp => T_ (av_ (bb_ r_ (ax_ (ba_ (al_ (an_ ?_))))))))))))))))
        refine o_ r_ (bj_ r_ r_ g_ (M_ r_ (ak_ (jq_againS (i := (k, v)) (k + 1, pp) hlt (by dsimp only; omega) ?_ ?_))))
        · dsimp only
          rw [hnext, stT_leaf (spN q) (.inl hk1), ← ByteArray.append_assoc]
          exact bc_ 0 r_ (bc_ 0 r_ sub_end)
        · (repeat (first | exact True.intro | refine ⟨rfl, ?_⟩))
      · have hln := lineT_c (b := b) (v := v) (X := Y) (ln2 q hk1 hi hv) (by omega) (by simp) (by simp) (by omega) (by omega)
        have hxs := fx.size
        have hys := fy.size
        have hns := name_size hn
        rw [row2 hi hv]
        have e1 : [x].length = 1 := rfl
        have e2 : [y].length = 1 := rfl
        have ht := ptextF_c fx
        have ht2 := ptextF_c fy
        refine R_ (F_ r_ (L_ 0 r_ (T_ (au_ (R_ (o_ r_ (bn_ r_ r_ (E_ r_ (T_ (ap_ r_ v_ (R_ (o_ r_ (bn_ r_ r_ (E_ r_ (T_ (aq_ r_ u_ (am_ ?_)))))))))))))))))
        refine jc_anyB 18 none rfl k_ k_ (yM_ r_ (yM_ r_ (yF_ r_ (yL_ 0 r_ (aa_ (fun c => ow_strcat rfl rfl (by simp only [ByteArray.size_append, ba_lit, List.length_cons, List.length_nil] ; omega) p_) (yF_ r_ (yL_ 0 r_ (aa_ (fun c => cv_ r_ r_ g_ g_ (T.row_eq _) r_ b_ p_) (aa_ (fun c => cr_ r_ r_ r_ p_) (aa_ (fun c => bm_ r_ (ht2) p_) ?_))))))))))
        refine aa_ (fun c => ow_strcat rfl rfl (by simp only [ByteArray.size_append, ba_lit, List.length_cons, List.length_nil] ; omega) p_) (aa_ (fun c => ow_strcat rfl rfl (by simp only [ByteArray.size_append, ba_lit, List.length_cons, List.length_nil] ; omega) p_) (yF_ r_ (yL_ 0 r_ (aa_ (fun c => cv_ r_ r_ g_ g_ (T.row_eq _) r_ b_ p_) (aa_ (fun c => cr_ r_ r_ r_ p_) (aa_ (fun c => bm_ r_ (ht) p_) ?_))))))
        refine aa_ (fun c => bq_ r_ r_ b_ r_ r_ b_ p_) (ae_ (afin_none (o_ r_ (bt_ [1, 1] rfl rfl (hln) (fun pp hpp => T_ (av_ (bb_ r_ (ax_ (ba_ (al_ (an_ (o_ r_ (bj_ r_ r_ g_ (M_ r_ (ak_ (jq_againS (i := (k, v)) (k + 1, pp) hlt (by dsimp only; omega) ?_ ?_))))))))))))))))
        · dsimp only
          rw [hnext, stT_leaf (spN q) (.inr hk1), ← ByteArray.append_assoc]
          exact bc_ 0 r_ (bc_ 0 r_ sub_end)
        · (repeat (first | exact True.intro | refine ⟨rfl, ?_⟩))
      · have hln := lineT_c (b := b) (v := v) (X := Y) (ln3 q hk1 hv) (by omega) (by simp) (by simp) (by omega) (by omega)
        rw [row1 hv]
        have e1 : [x].length = 1 := rfl
        have ht := ptextF_c fx
        have hN := numF_c hl
        refine R_ (F_ r_ (L_ 0 r_ (T_ (au_ (R_ (o_ r_ (bn_ r_ r_ (E_ r_ (T_ (ap_ r_ v_ (R_ (o_ r_ (bn_ r_ r_ (E_ r_ (T_ (ap_ r_ v_ (R_ ?_)))))))))))))))))
        refine o_ r_ (bn_ r_ r_ (E_ r_ (T_ (aq_ r_ u_ (jc_anyB 11 none rfl k_ k_ (yM_ r_ (yM_ r_ (yF_ r_ (yL_ 0 r_ (aa_ (fun c => cv_ r_ r_ g_ g_ (T.row_eq _) r_ b_ p_) (aa_ (fun c => cr_ r_ r_ r_ p_) (aa_ (fun c => bm_ r_ (ht) p_) (yF_ r_ (yL_ 0 r_ (aa_ (fun c => bm_ r_ (hN) p_) (aa_ (fun c => bq_ r_ r_ b_ r_ r_ b_ p_) ?_))))))))))))))))
        refine ae_ (afin_none (o_ r_ (bt_ [1, 1] rfl rfl (hln) (fun pp hpp => ak_ (ay_ ?_)))))
        rw [← row1 hv]
        refine jq_cutS pp g_ ?_ ?_
        · exact bc_ 0 r_ (bc_ 0 r_ (bc_ 0 r_ sub_end))
        · (repeat (first | exact True.intro | refine ⟨rfl, ?_⟩))
      · have hln := lineT_c (b := b) (v := v) (X := Y) (ln4 q hk1 hv) (by omega) (by simp) (by simp) (by omega) (by omega)
        rw [row1 hv]
        have e1 : [x].length = 1 := rfl
        have ht := ptextF_c fx
        have hN := numF_c hl
        have hM := numF_c hm
        refine R_ (F_ r_ (L_ 0 r_ (T_ (au_ (R_ (o_ r_ (bn_ r_ r_ (E_ r_ (T_ (ap_ r_ v_ (R_ (o_ r_ (bn_ r_ r_ (E_ r_ (T_ (ap_ r_ v_ (R_ ?_)))))))))))))))))
        refine o_ r_ (bn_ r_ r_ (E_ r_ (T_ (ap_ r_ v_ (R_ (o_ r_ (bn_ r_ r_ (E_ r_ (T_ (aq_ r_ u_ (jc_anyB 14 none rfl k_ k_ (yM_ r_ (yM_ r_ (yF_ r_ (yL_ 0 r_ (aa_ (fun c => cv_ r_ r_ g_ g_ (T.row_eq _) r_ b_ p_) (aa_ (fun c => cr_ r_ r_ r_ p_) ?_)))))))))))))))))
        refine aa_ (fun c => bm_ r_ (ht) p_) (yF_ r_ (yL_ 0 r_ (aa_ (fun c => bm_ r_ (hM) p_) (yF_ r_ (yL_ 0 r_ (aa_ (fun c => bm_ r_ (hN) p_) (aa_ (fun c => bq_ r_ r_ b_ r_ r_ b_ p_) (ae_ (afin_none (o_ r_ (bt_ [1, 1] rfl rfl (hln) (fun pp hpp => ak_ (ay_ ?_)))))))))))))
        rw [← row1 hv]
        refine jq_cutS pp g_ ?_ ?_
        · exact bc_ 0 r_ (bc_ 0 r_ (bc_ 0 r_ sub_end))
        · (repeat (first | exact True.intro | refine ⟨rfl, ?_⟩))
      · have hln := lineT_c (b := b) (v := v) (X := Y) (ln5 q hk1) (by omega) (by simp) (by simp) (by omega) (by omega)
        refine R_ (F_ r_ (L_ 0 r_ (T_ (au_ (R_ (o_ r_ (bn_ r_ r_ (E_ r_ (T_ (ap_ r_ v_ (R_ (o_ r_ (bn_ r_ r_ (E_ r_ (T_ (ap_ r_ v_ (R_ ?_)))))))))))))))))
        refine o_ r_ (bn_ r_ r_ (E_ r_ (T_ (ap_ r_ v_ (R_ (o_ r_ (bn_ r_ r_ (E_ r_ (T_ (ap_ r_ v_ (R_ (o_ r_ (bn_ r_ r_ (E_ r_ (T_ (aq_ r_ u_ (an_ (M_ r_ ?_))))))))))))))))))
        refine M_ r_ (F_ r_ (L_ 0 r_ (o_ r_ (bq_ r_ r_ b_ r_ r_ b_ (o_ r_ (bt_ [1, 1] rfl rfl (hln) (fun pp hpp => ak_ (ay_ (jq_cutS pp g_ ?_ ?_)))))))))
        · exact bc_ 0 r_ (bc_ 0 r_ (bc_ 0 r_ sub_end))
        · (repeat (first | exact True.intro | refine ⟨rfl, ?_⟩))
    intro v3 hk3
    have hk12 : ¬ (s.kind = 1 ∨ s.kind = 2) := by omega
    have hthn : ∀ t ∈ s.thn, fineS n' t := by
      rcases hfk with h | h | h | h | h
      · exact absurd (.inl h.1) hk12
      · exact absurd (.inr h.1) hk12
      · exact h.2.2.2.1
      · exact h.2.2.2.2.1
      · exact h.2.2.1
    have hels : ∀ t ∈ s.els, fineS n' t := by
      rcases hfk with h | h | h | h | h
      · exact absurd (.inl h.1) hk12
      · exact absurd (.inr h.1) hk12
      · exact h.2.2.2.2
      · rw [h.2.2.2.2.2]; simp
      · rw [h.2.2.2]; simp
    have ez := Sm.sz_eq s
    have hZ : ((Y ++ spN q) ++ hdT s).size = (Y ++ spN q).size + (hdT s).size := ByteArray.size_append ..
    have e1 : stT (spN q) s = (spN q ++ hdT s) ++ stsT (spN (q + 1)) s.thn ++ (if s.els = [] then ⟨#[]⟩ else (spN q ++ Kelse2) ++ stsT (spN (q + 1)) s.els) ++ (spN q ++ Kclose) := stT_node (spN q) hk12
    have hq3 := spN_size (q + 1)
    have hT := sts_size hthn (sp := spN (q + 1)) (by omega)
    have hE := sts_size hels (sp := spN (q + 1)) (by omega)
    clear hfk
    generalize hZe : (Y ++ spN q) ++ hdT s = Zt at hZ ⊢
    have con1 := hrec s.thn (q + 1) Zt v3 hthn (by omega) (by omega)
    rw [show ((q + 1 : Nat) : Int) = (q : Int) + 1 by omega] at con1
    have hZ2 : (Zt ++ stsT (spN (q + 1)) s.thn).size = Zt.size + (stsT (spN (q + 1)) s.thn).size := ByteArray.size_append ..
    have eE : (s.els.map Sm.row).length = s.els.length := List.length_map _
    refine R_ (M_ r_ (F_ r_ (L_ 2 r_ (M_ r_ (o_ r_ (bj_ r_ r_ g_ (o_ r_ (bt_ [0, 0] rfl rfl (con1) (fun pp hpp => T_ (am_ ?_))))))))))
    generalize hZ2e : Zt ++ stsT (spN (q + 1)) s.thn = Z2 at hZ2 ⊢
    by_cases hnil : s.els = []
    · have hz : ¬ (0 : Int) < ((s.els.map Sm.row).length : Int) := by rw [hnil]; simp
      have hcl := fun v => lineT_c (b := b) (v := v) (X := Z2) (lnClose q) (by omega) (by simp) (by simp) (by show 2 ≤ _; omega) (by omega)
      refine R_ (F_ r_ (L_ 2 r_ (o_ r_ (br_ r_ (fun hlen => o_ r_ (bz_ r_ r_ (T_ (ap_ r_ w_ (as_ (al_ (an_ (M_ r_ (M_ r_ (o_ r_ (bq_ r_ r_ b_ r_ r_ b_ (o_ r_ (bt_ [0, 0] rfl rfl (hcl _) (fun pp hpp => ak_ (ay_ ?_)))))))))))))))))))
      refine al_ (an_ (o_ r_ (bj_ r_ r_ g_ (M_ r_ (ak_ (jq_againS (i := (k, v)) (k + 1, pp) hlt (by dsimp only; omega) ?_ ?_))))))
      · dsimp only
        rw [hnext, e1, if_pos hnil, ba_nil, ← hZ2e, ← hZe]
        simp only [ByteArray.append_assoc]
        exact bc_ 0 r_ (bc_ 0 r_ sub_end)
      · (repeat (first | exact True.intro | refine ⟨rfl, ?_⟩))
    · have hz : (0 : Int) < ((s.els.map Sm.row).length : Int) := by
        have := List.length_pos_iff.2 hnil
        omega
      have hel := fun v => lineT_c (b := b) (v := v) (X := Z2) (lnElse q) (by omega) (by simp) (by simp) (by show 9 ≤ _; omega) (by omega)
      have hZ3 : ((Z2 ++ spN q) ++ Kelse2).size = Z2.size + (spN q).size + 9 := by rw [ByteArray.size_append, ByteArray.size_append]; rfl
      have con2 := fun v => hrec s.els (q + 1) ((Z2 ++ spN q) ++ Kelse2) v hels (by omega) (by omega)
      rw [show ((q + 1 : Nat) : Int) = (q : Int) + 1 by omega] at con2
      have hZ4 : (((Z2 ++ spN q) ++ Kelse2) ++ stsT (spN (q + 1)) s.els).size = ((Z2 ++ spN q) ++ Kelse2).size + (stsT (spN (q + 1)) s.els).size := ByteArray.size_append ..
      have hcl := fun v => lineT_c (b := b) (v := v) (X := ((Z2 ++ spN q) ++ Kelse2) ++ stsT (spN (q + 1)) s.els) (lnClose q) (by omega) (by simp) (by simp) (by show 2 ≤ _; omega) (by omega)
      refine R_ (F_ r_ (L_ 2 r_ (o_ r_ (br_ r_ (fun hlen => o_ r_ (bz_ r_ r_ (T_ (aq_ r_ u_ (R_ (M_ r_ (M_ r_ (o_ r_ (bq_ r_ r_ b_ r_ r_ b_ (o_ r_ (bt_ [0, 0] rfl rfl (hel _) (fun pp hpp => T_ (an_ (M_ r_ (F_ r_ ?_)))))))))))))))))))
      refine L_ 2 r_ (M_ r_ (o_ r_ (bj_ r_ r_ g_ (o_ r_ (bt_ [0, 0] rfl rfl (con2 _) (fun pp hpp => T_ (an_ (M_ r_ (M_ r_ (o_ r_ (bq_ r_ r_ b_ r_ r_ b_ (o_ r_ (bt_ [0, 0] rfl rfl (hcl _) (fun pp hpp => ak_ (ay_ (al_ (an_ (o_ r_ (bj_ r_ r_ g_ (M_ r_ ?_))))))))))))))))))))
      refine ak_ (jq_againS (i := (k, v)) (k + 1, pp) hlt (by dsimp only; omega) ?_ ?_)
      · dsimp only
        rw [hnext, e1, if_neg hnil, ← hZ2e, ← hZe]
        simp only [ByteArray.append_assoc]
        exact bc_ 0 r_ (bc_ 0 r_ sub_end)
      · (repeat (first | exact True.intro | refine ⟨rfl, ?_⟩))
  · have hlt2 : ¬ (k : Int) < ((l.map Sm.row).length : Int) := by omega
    rw [List.take_of_length_le (by omega)]
    refine R_ (o_ r_ (bw_ r_ r_ (T_ (am_ (ap_ r_ w_ (av_ (ax_ (ax_ (ba_ (jq_ret0 (.inr rfl) rfl [0, 0] rfl (fun K h => h v trivial)))))))))))
theorem wbody_c (b : Nat) : ∀ n : Nat, WBody b n
  | 0 => wbody_step b 0 (fun n' h => by omega)
  | n + 1 => wbody_step b (n + 1) (fun n' h => by obtain rfl : n' = n := by omega
                                                  exact wbody_c b n')
end Go.Proofs.YtlniadfidfmckaaGreatDoor
end

section
namespace Go.Proofs.YtlniadfidfmckaaGreatDoor
open Go.Vc
attribute [local irreducible] JL JC JQ OpWp Con ConN HOk
attribute [local irreducible] byteAt runLen isL isD isName hasW rd fineS numS textT hdT stsT stT
set_option maxHeartbeats 4000000

theorem lw_resT (x : ByteArray) : lnT 0 [(⟨#[114, 101, 115, 111, 117, 114, 99, 101]⟩ : ByteArray), x] = resT x := by
  unfold resT
  simp only [lnT, joinB, spN]
  apply ByteArray.ext
  apply Array.ext'
  simp
theorem lw_shT (x : Shd) : lnT 0 [(⟨#[115, 104, 97, 114, 101, 100]⟩ : ByteArray), x.1, numS x.2.1, x.2.2] = shT x := by
  unfold shT
  simp only [lnT, joinB, spN]
  apply ByteArray.ext
  apply Array.ext'
  simp
theorem lw_inT (x : Inp) : lnT 0 [(⟨#[105, 110, 112, 117, 116]⟩ : ByteArray), x.1, numS x.2.1, numS x.2.2] = inT x := by
  unfold inT
  simp only [lnT, joinB, spN]
  apply ByteArray.ext
  apply Array.ext'
  simp
theorem lw_vaT (x : ByteArray) : lnT 0 [(⟨#[118, 97, 114]⟩ : ByteArray), x] = vaT x := by
  unfold vaT
  simp only [lnT, joinB, spN]
  apply ByteArray.ext
  apply Array.ext'
  simp
theorem lw_arT (x : Arr) : lnT 0 [(⟨#[97, 114, 114, 97, 121]⟩ : ByteArray), x.1, numS x.2] = arT x := by
  unfold arT
  simp only [lnT, joinB, spN]
  apply ByteArray.ext
  apply Array.ext'
  simp
theorem lw_mdT (x : Md) : lnT 0 [(⟨#[109, 111, 100, 101]⟩ : ByteArray), x.1, x.2.1, numS x.2.2.1, numS x.2.2.2] = mdT x := by
  unfold mdT
  simp only [lnT, joinB, spN]
  apply ByteArray.ext
  apply Array.ext'
  simp
theorem lw_clT (x : Clm) : lnT 0 [(⟨#[110, 101, 118, 101, 114]⟩ : ByteArray), numS x.1, numS x.2] = clT x := by
  unfold clT
  simp only [lnT, joinB, spN]
  apply ByteArray.ext
  apply Array.ext'
  simp
theorem lw_tkHd (x : Tk) : lnT 0 [(⟨#[116, 97, 115, 107]⟩ : ByteArray), x.name, (⟨#[112, 101, 114, 105, 111, 100]⟩ : ByteArray), numS x.period, (⟨#[100, 101, 97, 100, 108, 105, 110, 101]⟩ : ByteArray), numS x.deadline, (⟨#[112, 114, 105, 111, 114, 105, 116, 121]⟩ : ByteArray), numS x.priority, (⟨#[106, 105, 116, 116, 101, 114]⟩ : ByteArray), numS x.jitter] = tkHd x := by
  unfold tkHd
  simp only [lnT, joinB, spN]
  apply ByteArray.ext
  apply Array.ext'
  simp
theorem lwBody : lnT 0 [(⟨#[98, 111, 100, 121]⟩ : ByteArray)] = (⟨#[98, 111, 100, 121, 10]⟩ : ByteArray) := rfl
theorem lwEnd : lnT 0 [(⟨#[101, 110, 100]⟩ : ByteArray)] = (⟨#[101, 110, 100, 10]⟩ : ByteArray) := rfl
/-- A line at the left edge. -/
theorem line0_c {b : Nat} {v : Value} {p : Option Addr} {X : ByteArray} {L : List ByteArray} {Y : ByteArray} (hp : WP b p) (hY : lnT 0 L = Y) (hL : L ≠ []) (hl : L.length ≤ 1000) (hs : Y.size ≤ 1000000) (hX : X.size ≤ 140000000000000) :
    Con Tryz.prog 21 [Wptr b, In .i64 0, .cell (.list (L.map Wrow))] [Wblk b p v, Bw v X]
      (fun K => ∀ v' : Value, True → K (.tup []) [Wb b v', Bw v' (X ++ Y)]) := by
  have h1 : (lnT 0 L).size = (spN 0).size + (joinB L).size + 1 := by unfold lnT; rw [ByteArray.size_append, ByteArray.size_append]; rfl
  rw [hY] at h1
  have := line_c b v p X 0 L hp (by omega) hL hl (by omega) hX
  rw [hY] at this
  exact this
theorem wtask_c (b : Nat) (p : Option Addr) (v : Value) (X : ByteArray) (t : Tk) (hp : WP b p) (hok : okTk t = true) (hdt : dpF 8 t.body = false) (hts : TkSz t) (hX : X.size ≤ 90000000000000) :
    Con Tryz.prog 23 [Wptr b, .row t.row] [Wblk b p v, Bw v X] (fun K => ∀ v' : Value, True → K (.tup []) [Wb b v', Bw v' (X ++ tkT t)]) := by
  obtain ⟨h0, hb, h1, h2, h3, h4, h5⟩ := hd_of hok
  have z1 := hts.inputs
  have z2 := hts.vars
  have z3 := hts.arrays
  have z4 := hts.modes
  have z5 := hts.claims
  have z6 := hts.body
  have e0 := tk1_size h0
  have hln := line0_c (b := b) (v := v) (p := p) (X := X) hp (lw_tkHd t) (by simp) (by simp) (by omega) (by omega)
  obtain ⟨g0, g1, g2, g3, g4⟩ := tk1_ok h0
  have hY0 : (X ++ tkHd t).size = X.size + (tkHd t).size := ByteArray.size_append ..
  refine con_intro Tryz.func23 rfl rfl (Nat.le_of_ble_eq_true rfl) (fun c hc => R_ (o_ r_ (ci_ r_ (fun bx => T_ (am_ (jc_anyB 16 none rfl k_ k_ (yM_ r_ (yF_ r_ (yL_ 0 r_ (yF_ r_ (yL_ 0 r_ (aa_ (fun c => bm_ r_ (numF_c g1) p_) (yF_ r_ (yL_ 0 r_ (aa_ (fun c => bm_ r_ (numF_c g2) p_) (yF_ r_ ?_))))))))))))))))
  refine yL_ 0 r_ (aa_ (fun c => bm_ r_ (numF_c g3) p_) (yF_ r_ (yL_ 0 r_ (aa_ (fun c => bm_ r_ (numF_c g4) p_) (aa_ (fun c => bq_ r_ r_ b_ r_ r_ b_ p_) (ae_ (afin_none (o_ r_ (bt_ [1, 1] rfl rfl (hln) (fun pp hpp => T_ ?_))))))))))
  generalize hE0 : X ++ tkHd t = Y0 at hY0 ⊢
  have hY0 : Y0.size ≤ 90000000000200 := by omega
  refine am_ (jc_cut (ι := Value) [] (fun _ => True) (fun _ => [(0, Wptr b), (3, .cell (.val (.pointer (some ⟨bx, 0, none⟩))))]) (fun v => [Wb b v, Bw v (Y0 ++ catL inT (t.inputs)), .blk bx 41 t.row]) ?_ ?_)
  · refine R_ (F_ r_ (L_ 2 r_ (o_ r_ (br_ r_ (fun hlen => M_ r_ (T_ (au_ ?_)))))))
    have eL : ((t.inputs).map InRow).length = (t.inputs).length := List.length_map _
    refine jc_loopS (ι := Nat × Value) [] (fun i => i.1 ≤ (t.inputs).length) (fun i => (32, .cell (.list ((t.inputs).map InRow))) :: (33, In .i64 (((t.inputs).map InRow).length : Int)) :: (34, In .i64 (i.1 : Int)) :: [(0, Wptr b), (3, .cell (.val (.pointer (some ⟨bx, 0, none⟩))))]) (fun i => [Wb b i.2, Bw i.2 (Y0 ++ catL inT ((t.inputs).take i.1)), .blk bx 41 t.row]) (fun i => (t.inputs).length - i.1) (0, pp) (Nat.zero_le _) ?_ ?_ ?_
    · rw [show Y0 ++ catL inT ((t.inputs).take 0) = Y0 by rw [List.take_zero, catL, ba_nil]]
      exact bc_ 0 r_ (bc_ 0 r_ (bc_ 0 r_ sub_end))
    · (repeat (first | exact True.intro | refine ⟨rfl, ?_⟩))
    rintro ⟨k, v⟩ hk
    dsimp only at hk ⊢
    by_cases hlt : k < (t.inputs).length
    · have hlt2 : (k : Int) < (((t.inputs).map InRow).length : Int) := by omega
      have hsz := catL_takeS (f := inT) (l := t.inputs) (fun x hx => inT_size (h1 x hx)) k
      have hnx := catL_take inT (Y0) hlt
      have hfs := inT_size (h1 _ (List.getElem_mem hlt))
      have hYs : (Y0 ++ catL inT ((t.inputs).take k)).size ≤ 90000000000200 + 200000 := by rw [ByteArray.size_append]; omega
      generalize Y0 ++ catL inT ((t.inputs).take k) = Z at hYs hnx ⊢
      have hlk := line0_c (b := b) (v := v) (X := Z) (.inr rfl) (lw_inT (t.inputs)[k]) (by simp) (by simp) (by omega) (by omega)
      have gk := inT_ok (h1 _ (List.getElem_mem hlt))
      obtain ⟨g0, g1, g2⟩ := gk
      refine R_ (o_ r_ (bw_ r_ r_ (T_ (am_ (aq_ r_ u_ (as_ (al_ (B_ (R_ (o_ r_ (cc_ r_ r_ g_ r_ r_ b_ (o_ r_ (cr_ r_ r_ r_ (o_ r_ (bl_ r_ r_ (fun bl => S_ 0 r_ (T_ (jc_anyB 10 none rfl k_ k_ (yM_ r_ ?_)))))))))))))))))))
      refine yF_ r_ (yL_ 0 r_ (yF_ r_ (yL_ 0 r_ (aa_ (fun c => bm_ r_ (num_c _ g1) p_) (yF_ r_ (yL_ 0 r_ (aa_ (fun c => bm_ r_ (num_c _ g2) p_) (aa_ (fun c => bq_ r_ r_ b_ r_ r_ b_ p_) (ae_ (afin_none (o_ r_ (bt_ [1, 1] rfl rfl (hlk) (fun pp hpp => ak_ (ay_ (al_ (an_ ?_))))))))))))))))
      refine o_ r_ (bj_ r_ r_ g_ (M_ r_ (ak_ (jq_againS (i := (k, v)) (k + 1, pp) hlt (by dsimp only; omega) ?_ ?_))))
      · dsimp only
        rw [hnx]
        exact bc_ 0 r_ (bc_ 0 r_ (bc_ 1 r_ sub_end))
      · (repeat (first | exact True.intro | refine ⟨rfl, ?_⟩))
    · have hlt2 : ¬ (k : Int) < (((t.inputs).map InRow).length : Int) := by omega
      rw [List.take_of_length_le (show (t.inputs).length ≤ k by omega)]
      refine R_ (o_ r_ (bw_ r_ r_ (T_ (am_ (ap_ r_ w_ (av_ (ax_ (ax_ (ba_ (jq_cutS v trivial ?_ ?_))))))))))
      · exact bc_ 0 r_ (bc_ 0 r_ (bc_ 0 r_ sub_end))
      · (repeat (first | exact True.intro | refine ⟨rfl, ?_⟩))
  intro vN0 _
  have hS := catL_size (f := inT) (l := t.inputs) (fun x hx => inT_size (h1 x hx))
  generalize hE1 : Y0 ++ catL inT (t.inputs) = Y1 at *
  have hY1 : Y1.size ≤ 90000000200200 := by rw [← hE1, ByteArray.size_append]; omega
  clear hS hY0
  refine am_ (jc_cut (ι := Value) [] (fun _ => True) (fun _ => [(0, Wptr b), (3, .cell (.val (.pointer (some ⟨bx, 0, none⟩))))]) (fun v => [Wb b v, Bw v (Y1 ++ catL vaT (t.vars)), .blk bx 41 t.row]) ?_ ?_)
  · refine R_ (F_ r_ (L_ 2 r_ (o_ r_ (br_ r_ (fun hlen => M_ r_ (T_ (au_ ?_)))))))
    have eL : ((t.vars).map Wrow).length = (t.vars).length := List.length_map _
    refine jc_loopS (ι := Nat × Value) [] (fun i => i.1 ≤ (t.vars).length) (fun i => (51, .cell (.list ((t.vars).map Wrow))) :: (52, In .i64 (((t.vars).map Wrow).length : Int)) :: (53, In .i64 (i.1 : Int)) :: [(0, Wptr b), (3, .cell (.val (.pointer (some ⟨bx, 0, none⟩))))]) (fun i => [Wb b i.2, Bw i.2 (Y1 ++ catL vaT ((t.vars).take i.1)), .blk bx 41 t.row]) (fun i => (t.vars).length - i.1) (0, vN0) (Nat.zero_le _) ?_ ?_ ?_
    · rw [show Y1 ++ catL vaT ((t.vars).take 0) = Y1 by rw [List.take_zero, catL, ba_nil]]
      exact bc_ 0 r_ (bc_ 0 r_ (bc_ 0 r_ sub_end))
    · (repeat (first | exact True.intro | refine ⟨rfl, ?_⟩))
    rintro ⟨k, v⟩ hk
    dsimp only at hk ⊢
    by_cases hlt : k < (t.vars).length
    · have hlt2 : (k : Int) < (((t.vars).map Wrow).length : Int) := by omega
      have hsz := catL_takeS (f := vaT) (l := t.vars) (fun x hx => vaT_size (h2 x hx)) k
      have hnx := catL_take vaT (Y1) hlt
      have hfs := vaT_size (h2 _ (List.getElem_mem hlt))
      have hYs : (Y1 ++ catL vaT ((t.vars).take k)).size ≤ 90000000200200 + 200000 := by rw [ByteArray.size_append]; omega
      generalize Y1 ++ catL vaT ((t.vars).take k) = Z at hYs hnx ⊢
      have hlk := line0_c (b := b) (v := v) (X := Z) (.inr rfl) (lw_vaT (t.vars)[k]) (by simp) (by simp) (by omega) (by omega)
      have gk := vaT_ok (h2 _ (List.getElem_mem hlt))
      skip
      refine R_ (o_ r_ (bw_ r_ r_ (T_ (am_ (aq_ r_ u_ (as_ (al_ (B_ (R_ (o_ r_ (cc_ r_ r_ g_ r_ r_ b_ (o_ r_ (cb_ r_ r_ (E_ r_ (T_ (an_ (M_ r_ (M_ r_ ?_))))))))))))))))))
      refine o_ r_ (bq_ r_ r_ b_ r_ r_ b_ (o_ r_ (bt_ [0, 0] rfl rfl (hlk) (fun pp hpp => ak_ (ay_ (al_ (an_ (o_ r_ (bj_ r_ r_ g_ (M_ r_ (ak_ (jq_againS (i := (k, v)) (k + 1, pp) hlt (by dsimp only; omega) ?_ ?_))))))))))))
      · dsimp only
        rw [hnx]
        exact bc_ 0 r_ (bc_ 0 r_ (bc_ 0 r_ sub_end))
      · (repeat (first | exact True.intro | refine ⟨rfl, ?_⟩))
    · have hlt2 : ¬ (k : Int) < (((t.vars).map Wrow).length : Int) := by omega
      rw [List.take_of_length_le (show (t.vars).length ≤ k by omega)]
      refine R_ (o_ r_ (bw_ r_ r_ (T_ (am_ (ap_ r_ w_ (av_ (ax_ (ax_ (ba_ (jq_cutS v trivial ?_ ?_))))))))))
      · exact bc_ 0 r_ (bc_ 0 r_ (bc_ 0 r_ sub_end))
      · (repeat (first | exact True.intro | refine ⟨rfl, ?_⟩))
  intro vN1 _
  have hS := catL_size (f := vaT) (l := t.vars) (fun x hx => vaT_size (h2 x hx))
  generalize hE2 : Y1 ++ catL vaT (t.vars) = Y2 at *
  have hY2 : Y2.size ≤ 90000000400200 := by rw [← hE2, ByteArray.size_append]; omega
  clear hS hY1
  refine am_ (jc_cut (ι := Value) [] (fun _ => True) (fun _ => [(0, Wptr b), (3, .cell (.val (.pointer (some ⟨bx, 0, none⟩))))]) (fun v => [Wb b v, Bw v (Y2 ++ catL arT (t.arrays)), .blk bx 41 t.row]) ?_ ?_)
  · refine R_ (F_ r_ (L_ 2 r_ (o_ r_ (br_ r_ (fun hlen => M_ r_ (T_ (au_ ?_)))))))
    have eL : ((t.arrays).map ArRow).length = (t.arrays).length := List.length_map _
    refine jc_loopS (ι := Nat × Value) [] (fun i => i.1 ≤ (t.arrays).length) (fun i => (63, .cell (.list ((t.arrays).map ArRow))) :: (64, In .i64 (((t.arrays).map ArRow).length : Int)) :: (65, In .i64 (i.1 : Int)) :: [(0, Wptr b), (3, .cell (.val (.pointer (some ⟨bx, 0, none⟩))))]) (fun i => [Wb b i.2, Bw i.2 (Y2 ++ catL arT ((t.arrays).take i.1)), .blk bx 41 t.row]) (fun i => (t.arrays).length - i.1) (0, vN1) (Nat.zero_le _) ?_ ?_ ?_
    · rw [show Y2 ++ catL arT ((t.arrays).take 0) = Y2 by rw [List.take_zero, catL, ba_nil]]
      exact bc_ 0 r_ (bc_ 0 r_ (bc_ 0 r_ sub_end))
    · (repeat (first | exact True.intro | refine ⟨rfl, ?_⟩))
    rintro ⟨k, v⟩ hk
    dsimp only at hk ⊢
    by_cases hlt : k < (t.arrays).length
    · have hlt2 : (k : Int) < (((t.arrays).map ArRow).length : Int) := by omega
      have hsz := catL_takeS (f := arT) (l := t.arrays) (fun x hx => arT_size (h3 x hx)) k
      have hnx := catL_take arT (Y2) hlt
      have hfs := arT_size (h3 _ (List.getElem_mem hlt))
      have hYs : (Y2 ++ catL arT ((t.arrays).take k)).size ≤ 90000000400200 + 200000 := by rw [ByteArray.size_append]; omega
      generalize Y2 ++ catL arT ((t.arrays).take k) = Z at hYs hnx ⊢
      have hlk := line0_c (b := b) (v := v) (X := Z) (.inr rfl) (lw_arT (t.arrays)[k]) (by simp) (by simp) (by omega) (by omega)
      have gk := arT_ok (h3 _ (List.getElem_mem hlt))
      obtain ⟨g0, g1⟩ := gk
      refine R_ (o_ r_ (bw_ r_ r_ (T_ (am_ (aq_ r_ u_ (as_ (al_ (B_ (R_ (o_ r_ (cc_ r_ r_ g_ r_ r_ b_ (o_ r_ (cr_ r_ r_ r_ (o_ r_ (bl_ r_ r_ (fun bl => S_ 0 r_ (T_ (jc_anyB 7 none rfl k_ k_ (yM_ r_ ?_)))))))))))))))))))
      refine yF_ r_ (yL_ 0 r_ (yF_ r_ (yL_ 0 r_ (aa_ (fun c => bm_ r_ (numF_c g1) p_) (aa_ (fun c => bq_ r_ r_ b_ r_ r_ b_ p_) (ae_ (afin_none (o_ r_ (bt_ [1, 1] rfl rfl (hlk) (fun pp hpp => ak_ (ay_ (al_ (an_ (o_ r_ (bj_ r_ r_ g_ (M_ r_ (ak_ ?_)))))))))))))))))
      refine jq_againS (i := (k, v)) (k + 1, pp) hlt (by dsimp only; omega) ?_ ?_
      · dsimp only
        rw [hnx]
        exact bc_ 0 r_ (bc_ 0 r_ (bc_ 1 r_ sub_end))
      · (repeat (first | exact True.intro | refine ⟨rfl, ?_⟩))
    · have hlt2 : ¬ (k : Int) < (((t.arrays).map ArRow).length : Int) := by omega
      rw [List.take_of_length_le (show (t.arrays).length ≤ k by omega)]
      refine R_ (o_ r_ (bw_ r_ r_ (T_ (am_ (ap_ r_ w_ (av_ (ax_ (ax_ (ba_ (jq_cutS v trivial ?_ ?_))))))))))
      · exact bc_ 0 r_ (bc_ 0 r_ (bc_ 0 r_ sub_end))
      · (repeat (first | exact True.intro | refine ⟨rfl, ?_⟩))
  intro vN2 _
  have hS := catL_size (f := arT) (l := t.arrays) (fun x hx => arT_size (h3 x hx))
  generalize hE3 : Y2 ++ catL arT (t.arrays) = Y3 at *
  have hY3 : Y3.size ≤ 90000000600200 := by rw [← hE3, ByteArray.size_append]; omega
  clear hS hY2
  refine am_ (jc_cut (ι := Value) [] (fun _ => True) (fun _ => [(0, Wptr b), (3, .cell (.val (.pointer (some ⟨bx, 0, none⟩))))]) (fun v => [Wb b v, Bw v (Y3 ++ catL mdT (t.modes)), .blk bx 41 t.row]) ?_ ?_)
  · refine R_ (F_ r_ (L_ 2 r_ (o_ r_ (br_ r_ (fun hlen => M_ r_ (T_ (au_ ?_)))))))
    have eL : ((t.modes).map MdRow).length = (t.modes).length := List.length_map _
    refine jc_loopS (ι := Nat × Value) [] (fun i => i.1 ≤ (t.modes).length) (fun i => (79, .cell (.list ((t.modes).map MdRow))) :: (80, In .i64 (((t.modes).map MdRow).length : Int)) :: (81, In .i64 (i.1 : Int)) :: [(0, Wptr b), (3, .cell (.val (.pointer (some ⟨bx, 0, none⟩))))]) (fun i => [Wb b i.2, Bw i.2 (Y3 ++ catL mdT ((t.modes).take i.1)), .blk bx 41 t.row]) (fun i => (t.modes).length - i.1) (0, vN2) (Nat.zero_le _) ?_ ?_ ?_
    · rw [show Y3 ++ catL mdT ((t.modes).take 0) = Y3 by rw [List.take_zero, catL, ba_nil]]
      exact bc_ 0 r_ (bc_ 0 r_ (bc_ 0 r_ sub_end))
    · (repeat (first | exact True.intro | refine ⟨rfl, ?_⟩))
    rintro ⟨k, v⟩ hk
    dsimp only at hk ⊢
    by_cases hlt : k < (t.modes).length
    · have hlt2 : (k : Int) < (((t.modes).map MdRow).length : Int) := by omega
      have hsz := catL_takeS (f := mdT) (l := t.modes) (fun x hx => mdT_size (h4 x hx)) k
      have hnx := catL_take mdT (Y3) hlt
      have hfs := mdT_size (h4 _ (List.getElem_mem hlt))
      have hYs : (Y3 ++ catL mdT ((t.modes).take k)).size ≤ 90000000600200 + 200000 := by rw [ByteArray.size_append]; omega
      generalize Y3 ++ catL mdT ((t.modes).take k) = Z at hYs hnx ⊢
      have hlk := line0_c (b := b) (v := v) (X := Z) (.inr rfl) (lw_mdT (t.modes)[k]) (by simp) (by simp) (by omega) (by omega)
      have gk := mdT_ok (h4 _ (List.getElem_mem hlt))
      obtain ⟨g0, g1, g2, g3⟩ := gk
      refine R_ (o_ r_ (bw_ r_ r_ (T_ (am_ (aq_ r_ u_ (as_ (al_ (B_ (R_ (o_ r_ (cc_ r_ r_ g_ r_ r_ b_ (o_ r_ (cr_ r_ r_ r_ (o_ r_ (bl_ r_ r_ (fun bl => S_ 0 r_ (T_ (jc_anyB 12 none rfl k_ k_ (yM_ r_ ?_)))))))))))))))))))
      refine yF_ r_ (yL_ 0 r_ (yF_ r_ (yL_ 0 r_ (yF_ r_ (yL_ 0 r_ (aa_ (fun c => bm_ r_ (num_c _ g2) p_) (yF_ r_ (yL_ 0 r_ (aa_ (fun c => bm_ r_ (num_c _ g3) p_) (aa_ (fun c => bq_ r_ r_ b_ r_ r_ b_ p_) (ae_ (afin_none (o_ r_ (bt_ [1, 1] rfl rfl (hlk) (fun pp hpp => ak_ (ay_ ?_))))))))))))))))
      refine al_ (an_ (o_ r_ (bj_ r_ r_ g_ (M_ r_ (ak_ (jq_againS (i := (k, v)) (k + 1, pp) hlt (by dsimp only; omega) ?_ ?_))))))
      · dsimp only
        rw [hnx]
        exact bc_ 0 r_ (bc_ 0 r_ (bc_ 1 r_ sub_end))
      · (repeat (first | exact True.intro | refine ⟨rfl, ?_⟩))
    · have hlt2 : ¬ (k : Int) < (((t.modes).map MdRow).length : Int) := by omega
      rw [List.take_of_length_le (show (t.modes).length ≤ k by omega)]
      refine R_ (o_ r_ (bw_ r_ r_ (T_ (am_ (ap_ r_ w_ (av_ (ax_ (ax_ (ba_ (jq_cutS v trivial ?_ ?_))))))))))
      · exact bc_ 0 r_ (bc_ 0 r_ (bc_ 0 r_ sub_end))
      · (repeat (first | exact True.intro | refine ⟨rfl, ?_⟩))
  intro vN3 _
  have hS := catL_size (f := mdT) (l := t.modes) (fun x hx => mdT_size (h4 x hx))
  generalize hE4 : Y3 ++ catL mdT (t.modes) = Y4 at *
  have hY4 : Y4.size ≤ 90000000800200 := by rw [← hE4, ByteArray.size_append]; omega
  clear hS hY3
  refine am_ (jc_cut (ι := Value) [] (fun _ => True) (fun _ => [(0, Wptr b), (3, .cell (.val (.pointer (some ⟨bx, 0, none⟩))))]) (fun v => [Wb b v, Bw v (Y4 ++ catL clT (t.claims)), .blk bx 41 t.row]) ?_ ?_)
  · refine R_ (F_ r_ (L_ 2 r_ (o_ r_ (br_ r_ (fun hlen => M_ r_ (T_ (au_ ?_)))))))
    have eL : ((t.claims).map ClRow).length = (t.claims).length := List.length_map _
    refine jc_loopS (ι := Nat × Value) [] (fun i => i.1 ≤ (t.claims).length) (fun i => (100, .cell (.list ((t.claims).map ClRow))) :: (101, In .i64 (((t.claims).map ClRow).length : Int)) :: (102, In .i64 (i.1 : Int)) :: [(0, Wptr b), (3, .cell (.val (.pointer (some ⟨bx, 0, none⟩))))]) (fun i => [Wb b i.2, Bw i.2 (Y4 ++ catL clT ((t.claims).take i.1)), .blk bx 41 t.row]) (fun i => (t.claims).length - i.1) (0, vN3) (Nat.zero_le _) ?_ ?_ ?_
    · rw [show Y4 ++ catL clT ((t.claims).take 0) = Y4 by rw [List.take_zero, catL, ba_nil]]
      exact bc_ 0 r_ (bc_ 0 r_ (bc_ 0 r_ sub_end))
    · (repeat (first | exact True.intro | refine ⟨rfl, ?_⟩))
    rintro ⟨k, v⟩ hk
    dsimp only at hk ⊢
    by_cases hlt : k < (t.claims).length
    · have hlt2 : (k : Int) < (((t.claims).map ClRow).length : Int) := by omega
      have hsz := catL_takeS (f := clT) (l := t.claims) (fun x hx => clT_size (h5 x hx)) k
      have hnx := catL_take clT (Y4) hlt
      have hfs := clT_size (h5 _ (List.getElem_mem hlt))
      have hYs : (Y4 ++ catL clT ((t.claims).take k)).size ≤ 90000000800200 + 200000 := by rw [ByteArray.size_append]; omega
      generalize Y4 ++ catL clT ((t.claims).take k) = Z at hYs hnx ⊢
      have hlk := line0_c (b := b) (v := v) (X := Z) (.inr rfl) (lw_clT (t.claims)[k]) (by simp) (by simp) (by omega) (by omega)
      have gk := clT_ok (h5 _ (List.getElem_mem hlt))
      obtain ⟨g0, g1⟩ := gk
      refine R_ (o_ r_ (bw_ r_ r_ (T_ (am_ (aq_ r_ u_ (as_ (al_ (B_ (R_ (o_ r_ (cc_ r_ r_ g_ r_ r_ b_ (o_ r_ (cr_ r_ r_ r_ (o_ r_ (bl_ r_ r_ (fun bl => S_ 0 r_ (T_ (jc_anyB 8 none rfl k_ k_ (yM_ r_ ?_)))))))))))))))))))
      refine yF_ r_ (yL_ 0 r_ (aa_ (fun c => bm_ r_ (numF_c g0) p_) (yF_ r_ (yL_ 0 r_ (aa_ (fun c => bm_ r_ (numF_c g1) p_) (aa_ (fun c => bq_ r_ r_ b_ r_ r_ b_ p_) (ae_ (afin_none (o_ r_ (bt_ [1, 1] rfl rfl (hlk) (fun pp hpp => ak_ (ay_ (al_ (an_ (o_ r_ (bj_ r_ r_ g_ (M_ r_ ?_)))))))))))))))))
      refine ak_ (jq_againS (i := (k, v)) (k + 1, pp) hlt (by dsimp only; omega) ?_ ?_)
      · dsimp only
        rw [hnx]
        exact bc_ 0 r_ (bc_ 0 r_ (bc_ 1 r_ sub_end))
      · (repeat (first | exact True.intro | refine ⟨rfl, ?_⟩))
    · have hlt2 : ¬ (k : Int) < (((t.claims).map ClRow).length : Int) := by omega
      rw [List.take_of_length_le (show (t.claims).length ≤ k by omega)]
      refine R_ (o_ r_ (bw_ r_ r_ (T_ (am_ (ap_ r_ w_ (av_ (ax_ (ax_ (ba_ (jq_cutS v trivial ?_ ?_))))))))))
      · exact bc_ 0 r_ (bc_ 0 r_ (bc_ 0 r_ sub_end))
      · (repeat (first | exact True.intro | refine ⟨rfl, ?_⟩))
  intro vN4 _
  have hS := catL_size (f := clT) (l := t.claims) (fun x hx => clT_size (h5 x hx))
  generalize hE5 : Y4 ++ catL clT (t.claims) = Y5 at *
  have hY5 : Y5.size ≤ 90000001000200 := by rw [← hE5, ByteArray.size_append]; omega
  clear hS hY4
  have hfine := fine_of 8 20 t.body (by omega) hb hdt
  have hbs := sts_size (sp := spN 1) hfine (by show 2 + 2 * 8 ≤ 100; omega)
  have hlb := fun v => line0_c (b := b) (v := v) (X := Y5) (.inr rfl) lwBody (by simp) (by simp) (by show 5 ≤ _; omega) (by omega)
  have hX1 : (Y5 ++ (⟨#[98, 111, 100, 121, 10]⟩ : ByteArray)).size = Y5.size + 5 := by rw [ByteArray.size_append]; rfl
  have con1 := fun v => wbody_c b 8 t.body 1 (Y5 ++ (⟨#[98, 111, 100, 121, 10]⟩ : ByteArray)) v hfine (by omega) (by omega)
  have hX3 : ((Y5 ++ (⟨#[98, 111, 100, 121, 10]⟩ : ByteArray)) ++ stsT (spN 1) t.body).size = (Y5 ++ (⟨#[98, 111, 100, 121, 10]⟩ : ByteArray)).size + (stsT (spN 1) t.body).size := ByteArray.size_append ..
  have hle := fun v => line0_c (b := b) (v := v) (X := (Y5 ++ (⟨#[98, 111, 100, 121, 10]⟩ : ByteArray)) ++ stsT (spN 1) t.body) (.inr rfl) lwEnd (by simp) (by simp) (by show 4 ≤ _; omega) (by omega)
  refine R_ (M_ r_ (o_ r_ (bq_ r_ r_ b_ r_ r_ b_ (o_ r_ (bt_ [0, 0] rfl rfl (hlb _) (fun pp hpp => T_ (R_ (M_ r_ (F_ r_ (L_ 2 r_ (o_ r_ (bt_ [0, 0] rfl rfl (con1 _) (fun pp hpp => T_ (an_ (M_ r_ (o_ r_ (bq_ r_ r_ b_ r_ r_ b_ (o_ r_ (bt_ [0, 0] rfl rfl (hle _) (fun pp hpp => ak_ ?_))))))))))))))))))))
  have hspn : spN 1 = Ksp := rfl
  refine jq_ret0 (.inr rfl) rfl [0, 0] rfl (fun K h => by
    have h := h pp trivial
    rw [show X ++ tkT t = ((Y5 ++ (⟨#[98, 111, 100, 121, 10]⟩ : ByteArray)) ++ stsT (spN 1) t.body) ++ (⟨#[101, 110, 100, 10]⟩ : ByteArray) by rw [hspn, ← hE5, ← hE4, ← hE3, ← hE2, ← hE1, ← hE0]; simp only [tkT, ByteArray.append_assoc]] at h
    exact h)
end Go.Proofs.YtlniadfidfmckaaGreatDoor
end

section
namespace Go.Proofs.YtlniadfidfmckaaGreatDoor
open Go.Vc
attribute [local irreducible] JL JC JQ OpWp Con ConN HOk
attribute [local irreducible] byteAt runLen isL isD isName hasW rd fineS numS textT hdT stsT stT
set_option maxHeartbeats 4000000

/-- The writer's state: nothing was written, or it holds what was. -/
def WS (b : Nat) (p : Option Addr) (v : Value) (X : ByteArray) : Prop := WP b p ∧ (X.size = 0 → v = NilV)
theorem WS.used {b : Nat} {v : Value} {X Y : ByteArray} (h : 0 < Y.size) : WS b (some ⟨b, 0, none⟩) v (X ++ Y) := ⟨.inr rfl, fun h0 => by rw [ByteArray.size_append] at h0; omega⟩
theorem size0P {X : ByteArray} (h : X.size = 0) : X = ⟨#[]⟩ := by
  apply ByteArray.ext
  apply Array.eq_empty_of_size_eq_zero
  exact h
theorem pProg_c (p : Pg) (hz : PgSz p) (hls : ∀ t ∈ p.tasks, lsS 20 t.body) : Con Tryz.prog 13 [.row p.row] [] (fun K => K (.tup [Str (progF p).1, In .i64 (progF p).2]) []) := by
  have hPr := printable_c p hls
  refine con_intro Tryz.func13 rfl rfl (Nat.le_of_ble_eq_true rfl) (fun c hc => R_ (o_ r_ (ci_ r_ (fun bx => E_ r_ (E_ r_ (T_ (am_ (R_ (A_ 0 r_ (o_ r_ (bm_ r_ (hPr) (o_ r_ (cd_ r_ (T_ (jc_cond rfl (fun hn => ?_) (fun hy => ?_))))))))))))))))
  · have hok : okPg p = false := by simpa using hn
    have e1 : progF p = (⟨#[]⟩, 10) := by unfold progF; rw [if_pos hok]
    refine R_ (E_ r_ (E_ r_ (T_ (ar_ (aw_ (jq_ret2 rfl rfl rfl [] rfl (fun K h => by rw [e1] at h; exact h)))))))
  have hok : okPg p = true := by simpa using hy
  have hokb : ¬ okPg p = false := by rw [hok]; simp
  refine as_ (al_ ?_)
  -- none is too deep
  have eT : (p.tasks.map Tk.row).length = p.tasks.length := List.length_map _
  refine am_ (jc_cut (ι := Unit) [] (fun _ => p.tasks.any (fun t => dpF 8 t.body) = false) (fun _ => [(1, .cell (.val (.pointer (some ⟨bx, 0, none⟩))))]) (fun _ => [.blk bx 31 p.row]) ?_ ?_)
  · refine R_ (F_ r_ (L_ 0 r_ (o_ r_ (br_ r_ (fun hlen => M_ r_ (T_ (au_ ?_)))))))
    refine jc_loopS (ι := Nat) [] (fun k => k ≤ p.tasks.length ∧ (p.tasks.take k).any (fun t => dpF 8 t.body) = false) (fun k => [(1, .cell (.val (.pointer (some ⟨bx, 0, none⟩)))), (17, .cell (.list (p.tasks.map Tk.row))), (18, In .i64 ((p.tasks.map Tk.row).length : Int)), (19, In .i64 (k : Int))]) (fun _ => [.blk bx 31 p.row]) (fun k => p.tasks.length - k) 0 ⟨Nat.zero_le _, rfl⟩ ?_ ?_ ?_
    · exact bc_ 0 r_ sub_end
    · (repeat (first | exact True.intro | refine ⟨rfl, ?_⟩))
    rintro k ⟨hk, hall⟩
    by_cases hlt : k < p.tasks.length
    · have hlt2 : (k : Int) < ((p.tasks.map Tk.row).length : Int) := by omega
      have hD := pdeep_c p.tasks[k].body (hls _ (List.getElem_mem hlt))
      by_cases hd : dpF 8 p.tasks[k].body = true
      · have hany : p.tasks.any (fun t => dpF 8 t.body) = true := any_yes hlt hd
        have e1 : progF p = (⟨#[]⟩, 4) := by unfold progF; rw [if_neg hokb, if_pos hany]
        rw [hd] at hD
        refine R_ (o_ r_ (bw_ r_ r_ (T_ (am_ (aq_ r_ u_ (as_ (al_ (B_ (R_ (o_ r_ (cc_ r_ r_ g_ r_ r_ b_ (o_ r_ (cr_ r_ r_ r_ (o_ r_ (bl_ r_ r_ (fun bl => S_ 0 r_ (T_ (R_ (F_ r_ ?_)))))))))))))))))))
        refine L_ 0 r_ (o_ r_ (bm_ r_ (hD) (T_ (aq_ r_ r_ (R_ (E_ r_ (E_ r_ (T_ (ar_ (az_ (aw_ (aw_ (az_ (aw_ (jq_ret2 rfl rfl rfl [] rfl (fun K h => by rw [e1] at h; exact h))))))))))))))))
      · have hd : dpF 8 p.tasks[k].body = false := by simpa using hd
        rw [hd] at hD
        refine R_ (o_ r_ (bw_ r_ r_ (T_ (am_ (aq_ r_ u_ (as_ (al_ (B_ (R_ (o_ r_ (cc_ r_ r_ g_ r_ r_ b_ (o_ r_ (cr_ r_ r_ r_ (o_ r_ (bl_ r_ r_ (fun bl => S_ 0 r_ (T_ (R_ (F_ r_ ?_)))))))))))))))))))
        refine L_ 0 r_ (o_ r_ (bm_ r_ (hD) (T_ (ap_ r_ r_ (as_ (ay_ (al_ (an_ (o_ r_ (bj_ r_ r_ g_ (M_ r_ (ak_ (jq_againS (k + 1) ⟨hlt, any_snoc hlt hall hd⟩ g_ ?_ ?_)))))))))))))
        · exact bc_ 1 r_ sub_end
        · (repeat (first | exact True.intro | refine ⟨rfl, ?_⟩))
    · have hlt2 : ¬ (k : Int) < ((p.tasks.map Tk.row).length : Int) := by omega
      refine R_ (o_ r_ (bw_ r_ r_ (T_ (am_ (ap_ r_ w_ (av_ (ax_ (ax_ (ba_ (jq_cutS () (by rw [List.take_of_length_le g_] at hall; exact hall) ?_ ?_))))))))))
      · exact bc_ 0 r_ sub_end
      · (repeat (first | exact True.intro | refine ⟨rfl, ?_⟩))
  intro _ hdeep
  have hok2 := hok
  unfold okPg at hok2
  simp only [Bool.and_eq_true, List.all_eq_true, and_assoc] at hok2
  obtain ⟨hR, hSh, hTk⟩ := hok2
  have zr := hz.res
  have zs := hz.shared
  have zl := hz.len
  have htz : ∀ t ∈ p.tasks, (tkT t).size ≤ 60002000000 := fun t ht => tkT_size (hTk t ht) (by simpa using List.any_eq_false.1 hdeep t ht) (hz.tasks t ht)
  refine jc_ownNil 5 1 g_ ?_
  revert bx
  intro bp
  refine R_ (o_ r_ (bu_ r_ r_ r_ r_ r_ (o_ r_ (ci_ r_ (fun bx => E_ r_ (T_ (am_ (jc_cut (ι := Option Addr × Value) [] (fun i => WS bx i.1 i.2 ((⟨#[]⟩ : ByteArray) ++ catL resT (p.res))) (fun _ => [(1, .cell (.val (.pointer (some ⟨bp, 0, none⟩)))), (6, Wptr bx)]) (fun i => [Wblk bx i.1 i.2, Bw i.2 ((⟨#[]⟩ : ByteArray) ++ catL resT (p.res)), .blk bp 31 p.row]) ?_ ?_))))))))
  · refine R_ (F_ r_ (L_ 2 r_ (o_ r_ (br_ r_ (fun hlen => M_ r_ (T_ (au_ ?_)))))))
    have eL : ((p.res).map Wrow).length = (p.res).length := List.length_map _
    refine jc_loopS (ι := Nat × Option Addr × Value) [] (fun i => i.1 ≤ (p.res).length ∧ WS bx i.2.1 i.2.2 ((⟨#[]⟩ : ByteArray) ++ catL resT ((p.res).take i.1))) (fun i => (30, .cell (.list ((p.res).map Wrow))) :: (31, In .i64 (((p.res).map Wrow).length : Int)) :: (32, In .i64 (i.1 : Int)) :: [(1, .cell (.val (.pointer (some ⟨bp, 0, none⟩)))), (6, Wptr bx)]) (fun i => [Wblk bx i.2.1 i.2.2, Bw i.2.2 ((⟨#[]⟩ : ByteArray) ++ catL resT ((p.res).take i.1)), .blk bp 31 p.row]) (fun i => (p.res).length - i.1) (0, none, NilV) ⟨Nat.zero_le _, .inl rfl, fun _ => rfl⟩ ?_ ?_ ?_
    · rw [show (⟨#[]⟩ : ByteArray) ++ catL resT ((p.res).take 0) = (⟨#[]⟩ : ByteArray) by rw [List.take_zero, catL, ba_nil]]
      exact bc_ 0 r_ (bc_ 0 r_ (bc_ 0 r_ sub_end))
    · (repeat (first | exact True.intro | refine ⟨rfl, ?_⟩))
    rintro ⟨k, q, v⟩ ⟨hk, hws⟩
    dsimp only at hk hws ⊢
    by_cases hlt : k < (p.res).length
    · have hlt2 : (k : Int) < (((p.res).map Wrow).length : Int) := by omega
      have hsz := catL_takeS (f := resT) (l := p.res) (fun x hx => resT_size (hR x hx)) k
      have hnx := catL_take resT ((⟨#[]⟩ : ByteArray)) hlt
      have hfs := resT_size (hR _ (List.getElem_mem hlt))
      have hmul : (p.res).length * 200 ≤ 1000 * 200 := Nat.mul_le_mul_right _ zr
      have hYs : ((⟨#[]⟩ : ByteArray) ++ catL resT ((p.res).take k)).size ≤ 0 + 1000 * 200 := by rw [ByteArray.size_append]; show 0 + _ ≤ _; omega
      generalize (⟨#[]⟩ : ByteArray) ++ catL resT ((p.res).take k) = Z at hYs hnx hws ⊢
      have hlk := line0_c (b := bx) (v := v) (p := q) (X := Z) hws.1 (lw_resT (p.res)[k]) (by simp) (by simp) (by omega) (by omega)
      have gk := resT_ok (hR _ (List.getElem_mem hlt))
      have hpos : 0 < (resT (p.res)[k]).size := by unfold resT; rw [ByteArray.size_append]; show 0 < _ + 1; omega
      refine R_ (o_ r_ (bw_ r_ r_ (T_ (am_ (aq_ r_ u_ (as_ (al_ (B_ (R_ (o_ r_ (cc_ r_ r_ g_ r_ r_ b_ (o_ r_ (cb_ r_ r_ (E_ r_ (T_ (an_ (M_ r_ (M_ r_ ?_))))))))))))))))))
      refine o_ r_ (bq_ r_ r_ b_ r_ r_ b_ (o_ r_ (bt_ [0, 0] rfl rfl (hlk) (fun pp hpp => ak_ (ay_ (al_ (an_ (o_ r_ (bj_ r_ r_ g_ (M_ r_ (ak_ (jq_againS (i := (k, q, v)) (k + 1, some ⟨bx, 0, none⟩, pp) ⟨hlt, by dsimp only; rw [hnx]; exact WS.used hpos⟩ (by dsimp only; omega) ?_ ?_))))))))))))
      · dsimp only
        rw [hnx]
        exact bc_ 0 r_ (bc_ 0 r_ (bc_ 0 r_ sub_end))
      · (repeat (first | exact True.intro | refine ⟨rfl, ?_⟩))
    · have hlt2 : ¬ (k : Int) < (((p.res).map Wrow).length : Int) := by omega
      rw [List.take_of_length_le (show (p.res).length ≤ k by omega)] at hws ⊢
      refine R_ (o_ r_ (bw_ r_ r_ (T_ (am_ (ap_ r_ w_ (av_ (ax_ (ax_ (ba_ (jq_cutS (q, v) hws ?_ ?_))))))))))
      · exact bc_ 0 r_ (bc_ 0 r_ (bc_ 0 r_ sub_end))
      · (repeat (first | exact True.intro | refine ⟨rfl, ?_⟩))
  intro q0 hws0
  have hS := catL_size (f := resT) (l := p.res) (fun x hx => resT_size (hR x hx))
  have hmul : (p.res).length * 200 ≤ 1000 * 200 := Nat.mul_le_mul_right _ zr
  generalize hZ1 : (⟨#[]⟩ : ByteArray) ++ catL resT (p.res) = Z1 at *
  have hY1 : Z1.size ≤ 200000 := by rw [← hZ1, ByteArray.size_append]; show 0 + _ ≤ _; omega
  clear hS hmul
  refine am_ (jc_cut (ι := Option Addr × Value) [] (fun i => WS bx i.1 i.2 (Z1 ++ catL shT (p.shared))) (fun _ => [(1, .cell (.val (.pointer (some ⟨bp, 0, none⟩)))), (6, Wptr bx)]) (fun i => [Wblk bx i.1 i.2, Bw i.2 (Z1 ++ catL shT (p.shared)), .blk bp 31 p.row]) ?_ ?_)
  · refine R_ (F_ r_ (L_ 2 r_ (o_ r_ (br_ r_ (fun hlen => M_ r_ (T_ (au_ ?_)))))))
    have eL : ((p.shared).map ShRow).length = (p.shared).length := List.length_map _
    refine jc_loopS (ι := Nat × Option Addr × Value) [] (fun i => i.1 ≤ (p.shared).length ∧ WS bx i.2.1 i.2.2 (Z1 ++ catL shT ((p.shared).take i.1))) (fun i => (42, .cell (.list ((p.shared).map ShRow))) :: (43, In .i64 (((p.shared).map ShRow).length : Int)) :: (44, In .i64 (i.1 : Int)) :: [(1, .cell (.val (.pointer (some ⟨bp, 0, none⟩)))), (6, Wptr bx)]) (fun i => [Wblk bx i.2.1 i.2.2, Bw i.2.2 (Z1 ++ catL shT ((p.shared).take i.1)), .blk bp 31 p.row]) (fun i => (p.shared).length - i.1) (0, q0.1, q0.2) ⟨Nat.zero_le _, by dsimp only; rw [List.take_zero, catL, ba_nil]; exact hws0⟩ ?_ ?_ ?_
    · rw [show Z1 ++ catL shT ((p.shared).take 0) = Z1 by rw [List.take_zero, catL, ba_nil]]
      exact bc_ 0 r_ (bc_ 0 r_ (bc_ 0 r_ sub_end))
    · (repeat (first | exact True.intro | refine ⟨rfl, ?_⟩))
    rintro ⟨k, q, v⟩ ⟨hk, hws⟩
    dsimp only at hk hws ⊢
    by_cases hlt : k < (p.shared).length
    · have hlt2 : (k : Int) < (((p.shared).map ShRow).length : Int) := by omega
      have hsz := catL_takeS (f := shT) (l := p.shared) (fun x hx => shT_size (hSh x hx)) k
      have hnx := catL_take shT (Z1) hlt
      have hfs := shT_size (hSh _ (List.getElem_mem hlt))
      have hmul : (p.shared).length * 200 ≤ 1000 * 200 := Nat.mul_le_mul_right _ zs
      have hYs : (Z1 ++ catL shT ((p.shared).take k)).size ≤ 200000 + 1000 * 200 := by rw [ByteArray.size_append]; omega
      generalize Z1 ++ catL shT ((p.shared).take k) = Z at hYs hnx hws ⊢
      have hlk := line0_c (b := bx) (v := v) (p := q) (X := Z) hws.1 (lw_shT (p.shared)[k]) (by simp) (by simp) (by omega) (by omega)
      have gk := shT_ok (hSh _ (List.getElem_mem hlt))
      have hpos : 0 < (shT (p.shared)[k]).size := by unfold shT; rw [ByteArray.size_append]; show 0 < _ + 1; omega
      obtain ⟨g0, g1, g2⟩ := gk
      refine R_ (o_ r_ (bw_ r_ r_ (T_ (am_ (aq_ r_ u_ (as_ (al_ (B_ (R_ (o_ r_ (cc_ r_ r_ g_ r_ r_ b_ (o_ r_ (cr_ r_ r_ r_ (o_ r_ (bl_ r_ r_ (fun bl => S_ 0 r_ (T_ (jc_anyB 11 none rfl k_ k_ (yM_ r_ ?_)))))))))))))))))))
      refine yF_ r_ (yF_ r_ (yL_ 0 r_ (yF_ r_ (yF_ r_ (yL_ 0 r_ (aa_ (fun c => bm_ r_ (numF_c g1) p_) (yF_ r_ (yL_ 0 r_ (aa_ (fun c => bq_ r_ r_ b_ r_ r_ b_ p_) (ae_ (afin_none (o_ r_ (bt_ [1, 1] rfl rfl (hlk) (fun pp hpp => ak_ (ay_ (al_ ?_))))))))))))))))
      refine an_ (o_ r_ (bj_ r_ r_ g_ (M_ r_ (ak_ (jq_againS (i := (k, q, v)) (k + 1, some ⟨bx, 0, none⟩, pp) ⟨hlt, by dsimp only; rw [hnx]; exact WS.used hpos⟩ (by dsimp only; omega) ?_ ?_)))))
      · dsimp only
        rw [hnx]
        exact bc_ 0 r_ (bc_ 0 r_ (bc_ 1 r_ sub_end))
      · (repeat (first | exact True.intro | refine ⟨rfl, ?_⟩))
    · have hlt2 : ¬ (k : Int) < (((p.shared).map ShRow).length : Int) := by omega
      rw [List.take_of_length_le (show (p.shared).length ≤ k by omega)] at hws ⊢
      refine R_ (o_ r_ (bw_ r_ r_ (T_ (am_ (ap_ r_ w_ (av_ (ax_ (ax_ (ba_ (jq_cutS (q, v) hws ?_ ?_))))))))))
      · exact bc_ 0 r_ (bc_ 0 r_ (bc_ 0 r_ sub_end))
      · (repeat (first | exact True.intro | refine ⟨rfl, ?_⟩))
  intro q1 hws1
  have hS := catL_size (f := shT) (l := p.shared) (fun x hx => shT_size (hSh x hx))
  have hmul : (p.shared).length * 200 ≤ 1000 * 200 := Nat.mul_le_mul_right _ zs
  generalize hZ2 : Z1 ++ catL shT (p.shared) = Z2 at *
  have hY2 : Z2.size ≤ 400000 := by rw [← hZ2, ByteArray.size_append]; omega
  clear hS hmul hY1
  refine am_ (jc_cut (ι := Option Addr × Value) [] (fun i => WS bx i.1 i.2 (Z2 ++ catL tkT (p.tasks))) (fun _ => [(1, .cell (.val (.pointer (some ⟨bp, 0, none⟩)))), (6, Wptr bx)]) (fun i => [Wblk bx i.1 i.2, Bw i.2 (Z2 ++ catL tkT (p.tasks)), .blk bp 31 p.row]) ?_ ?_)
  · refine R_ (F_ r_ (L_ 2 r_ (o_ r_ (br_ r_ (fun hlen => M_ r_ (T_ (au_ ?_)))))))
    have eL : ((p.tasks).map Tk.row).length = (p.tasks).length := List.length_map _
    refine jc_loopS (ι := Nat × Option Addr × Value) [] (fun i => i.1 ≤ (p.tasks).length ∧ WS bx i.2.1 i.2.2 (Z2 ++ catL tkT ((p.tasks).take i.1))) (fun i => (62, .cell (.list ((p.tasks).map Tk.row))) :: (63, In .i64 (((p.tasks).map Tk.row).length : Int)) :: (64, In .i64 (i.1 : Int)) :: [(1, .cell (.val (.pointer (some ⟨bp, 0, none⟩)))), (6, Wptr bx)]) (fun i => [Wblk bx i.2.1 i.2.2, Bw i.2.2 (Z2 ++ catL tkT ((p.tasks).take i.1)), .blk bp 31 p.row]) (fun i => (p.tasks).length - i.1) (0, q1.1, q1.2) ⟨Nat.zero_le _, by dsimp only; rw [List.take_zero, catL, ba_nil]; exact hws1⟩ ?_ ?_ ?_
    · rw [show Z2 ++ catL tkT ((p.tasks).take 0) = Z2 by rw [List.take_zero, catL, ba_nil]]
      exact bc_ 0 r_ (bc_ 0 r_ (bc_ 0 r_ sub_end))
    · (repeat (first | exact True.intro | refine ⟨rfl, ?_⟩))
    rintro ⟨k, q, v⟩ ⟨hk, hws⟩
    dsimp only at hk hws ⊢
    by_cases hlt : k < (p.tasks).length
    · have hlt2 : (k : Int) < (((p.tasks).map Tk.row).length : Int) := by omega
      have hsz := catL_takeS (f := tkT) (l := p.tasks) (htz) k
      have hnx := catL_take tkT (Z2) hlt
      have hfs := htz _ (List.getElem_mem hlt)
      have hmul : (p.tasks).length * 60002000000 ≤ 1000 * 60002000000 := Nat.mul_le_mul_right _ zl
      have hYs : (Z2 ++ catL tkT ((p.tasks).take k)).size ≤ 400000 + 1000 * 60002000000 := by rw [ByteArray.size_append]; omega
      generalize Z2 ++ catL tkT ((p.tasks).take k) = Z at hYs hnx hws ⊢
      have hdk : dpF 8 p.tasks[k].body = false := by simpa using List.any_eq_false.1 hdeep _ (List.getElem_mem hlt)
      have hlk := wtask_c bx q v Z p.tasks[k] hws.1 (hTk _ (List.getElem_mem hlt)) hdk (hz.tasks _ (List.getElem_mem hlt)) (by omega)
      have hpos : 0 < (tkT p.tasks[k]).size := by unfold tkT; rw [ByteArray.size_append]; show 0 < _ + 4; omega
      refine R_ (o_ r_ (bw_ r_ r_ (T_ (am_ (aq_ r_ u_ (as_ (al_ (B_ (R_ (o_ r_ (cc_ r_ r_ g_ r_ r_ b_ (o_ r_ (cr_ r_ r_ r_ (o_ r_ (bl_ r_ r_ (fun bl => S_ 0 r_ (T_ (an_ (M_ r_ ?_)))))))))))))))))))
      refine A_ 0 r_ (o_ r_ (bt_ [1, 1] rfl rfl (hlk) (fun pp hpp => ak_ (ay_ (al_ (an_ (o_ r_ (bj_ r_ r_ g_ (M_ r_ (ak_ (jq_againS (i := (k, q, v)) (k + 1, some ⟨bx, 0, none⟩, pp) ⟨hlt, by dsimp only; rw [hnx]; exact WS.used hpos⟩ (by dsimp only; omega) ?_ ?_)))))))))))
      · dsimp only
        rw [hnx]
        exact bc_ 0 r_ (bc_ 0 r_ (bc_ 1 r_ sub_end))
      · (repeat (first | exact True.intro | refine ⟨rfl, ?_⟩))
    · have hlt2 : ¬ (k : Int) < (((p.tasks).map Tk.row).length : Int) := by omega
      rw [List.take_of_length_le (show (p.tasks).length ≤ k by omega)] at hws ⊢
      refine R_ (o_ r_ (bw_ r_ r_ (T_ (am_ (ap_ r_ w_ (av_ (ax_ (ax_ (ba_ (jq_cutS (q, v) hws ?_ ?_))))))))))
      · exact bc_ 0 r_ (bc_ 0 r_ (bc_ 0 r_ sub_end))
      · (repeat (first | exact True.intro | refine ⟨rfl, ?_⟩))
  intro q2 hws2
  have hS := catL_size (f := tkT) (l := p.tasks) (htz)
  have hmul : (p.tasks).length * 60002000000 ≤ 1000 * 60002000000 := Nat.mul_le_mul_right _ zl
  generalize hZ3 : Z2 ++ catL tkT (p.tasks) = Z3 at *
  have hY3 : Z3.size ≤ 60002000400000 := by rw [← hZ3, ByteArray.size_append]; omega
  clear hS hmul hY2
  have hprog : Z3 = progT p := by rw [← hZ3, ← hZ2, ← hZ1, nil_ba]; rfl
  subst hprog
  have hLen := builderLen_c bx q2.1 q2.2 (progT p)
  have e0 : progF p = if 8192 < (progT p).size then (⟨#[]⟩, 4) else (progT p, 0) := by unfold progF; rw [if_neg hokb, if_neg (by rw [hdeep]; simp)]
  by_cases hbig : 8192 < (progT p).size
  · have hbig2 : (8192 : Int) < ((progT p).size : Int) := by omega
    rw [if_pos hbig] at e0
    refine am_ (R_ (M_ r_ (N_ r_ (F_ r_ (o_ r_ (bi_ [0, 0] r_ r_ (hLen) (o_ r_ (bz_ r_ r_ (T_ (aq_ r_ u_ (R_ (E_ r_ (E_ r_ (T_ (ar_ (aw_ (jq_ret2 rfl rfl rfl [] rfl (fun K h => by rw [e0] at h; exact h))))))))))))))))))
  · have hbig2 : ¬ (8192 : Int) < ((progT p).size : Int) := by omega
    rw [if_neg hbig] at e0
    by_cases hz0 : (progT p).size = 0
    · have hv := hws2.2 hz0
      have hX := size0P hz0
      rw [hX, hv] at hLen ⊢
      rw [hX] at e0 hbig2
      have hStr := builderString0_c bx q2.1
      refine am_ (R_ (M_ r_ (N_ r_ (F_ r_ (o_ r_ (bi_ [0, 0] r_ r_ (hLen) (o_ r_ (bz_ r_ r_ (T_ (ap_ r_ r_ (as_ (al_ (R_ (M_ r_ (N_ r_ (F_ r_ (o_ r_ (bi_ [0, 0] r_ r_ (hStr) ?_))))))))))))))))))
      refine E_ r_ (E_ r_ (T_ (ar_ (jq_ret2 rfl rfl rfl [] rfl (fun K h => by rw [e0] at h; exact h)))))
    · have hStr := builderString_c bx q2.1 q2.2 (progT p) (by omega) (by omega)
      refine am_ (R_ (M_ r_ (N_ r_ (F_ r_ (o_ r_ (bi_ [0, 0] r_ r_ (hLen) (o_ r_ (bz_ r_ r_ (T_ (ap_ r_ w_ (as_ (al_ (R_ (M_ r_ (N_ r_ (F_ r_ (o_ r_ (bi_ [0, 0] r_ r_ (hStr) ?_))))))))))))))))))
      refine E_ r_ (E_ r_ (T_ (ar_ (jq_ret2 rfl rfl rfl [] rfl (fun K h => by rw [e0] at h; exact h)))))
end Go.Proofs.YtlniadfidfmckaaGreatDoor
end

section
namespace Go.Proofs.YtlniadfidfmckaaGreatDoor
open Go.Vc
attribute [local irreducible] JL JC JQ OpWp Con ConN Pan ConE OpPan hasW idxW isA isNum isNm numAt txtAt lineAt opAt lx lpx
set_option maxHeartbeats 4000000

def need (l : List Tok) (k a : Nat) : Nat := 5 * (l.length - a) + (4 - k)
end Go.Proofs.YtlniadfidfmckaaGreatDoor
end
