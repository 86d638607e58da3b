/- What is proved: ParseLines of the package timeboundlaw03 returns true for all its arguments, and its arguments read as before. The card ties the listed tables (the keywords, the signs, the operators of the lines of the grammar and of comparisons) to the text of the program. -/
import Derived.Test.YtlniadfidfmckaaDoorMl5
import Derived.Test.YtlniadfidfmckaaDoorCards
import Derived.Test.YtlniadfidfmckaaDoorTie
import Derived.SliceStrings
import Derived.WalkKit
import Derived.ProofKit
import Derived.OpenShut
import Derived.LaidMore
import Derived.Stop.Joined
import Derived.Stop.LaidErr
import Derived.Deep.DeepHandedRow
import Derived.Lib.LaidTab
import Derived.Lib.SmallJoins
import Derived.Carry
import Derived.Deep.DeepWitnessRowRef
section
namespace Go.Proofs.YtlniadfidfmckaaDoor
open Go.Vc
set_option maxHeartbeats 1000000

theorem bytesI_push (r : ByteArray) (n : Int) (h : 0 ≤ n ∧ n ≤ 255) : bytesI (r.push (UInt8.ofNat n.toNat)) = bytesI r ++ [n] := by
  simp only [bytesI, ByteArray.data_push, Array.toList_push, List.map_append, List.map_cons, List.map_nil]
  congr 2
  rw [UInt8.toNat_ofNat']
  omega
theorem bytesI_fold : ∀ (M : List Int) (r : ByteArray), (∀ n ∈ M, 0 ≤ n ∧ n ≤ 255) → bytesI (M.foldl (fun r n => r.push (UInt8.ofNat n.toNat)) r) = bytesI r ++ M
  | [], r, _ => by simp
  | n :: M, r, h => by
    rw [List.foldl_cons, bytesI_fold M _ (fun k hk => h k (by simp [hk])), bytesI_push r n (h n (by simp)), List.append_assoc]
    rfl
theorem bytesI_of {M : List Int} (h : ∀ n ∈ M, 0 ≤ n ∧ n ≤ 255) : bytesI (bytesOf M) = M := by
  unfold bytesOf
  rw [bytesI_fold M _ h]
  rfl
theorem of_size {M : List Int} (h : ∀ n ∈ M, 0 ≤ n ∧ n ≤ 255) : (bytesOf M).size = M.length := by rw [← bytesI_len, bytesI_of h]
theorem tk_end (t : Tk) : ∃ Y, tkT t = Y ++ (⟨#[101, 110, 100, 10]⟩ : ByteArray) := ⟨_, rfl⟩
/-- The last line of a program's text. -/
theorem prog_end {p : Pg} (h : 0 < p.tasks.length) : ∃ Z, progT p = Z ++ (⟨#[101, 110, 100, 10]⟩ : ByteArray) := by
  have hd : p.tasks = p.tasks.take (p.tasks.length - 1) ++ [p.tasks[p.tasks.length - 1]'(by omega)] := by
    have := List.take_succ_eq_append_getElem (l := p.tasks) (i := p.tasks.length - 1) (by omega)
    rw [show p.tasks.length - 1 + 1 = p.tasks.length by omega, List.take_length] at this
    exact this
  unfold progT
  rw [hd, catL_app, catL, catL, ba_nil]
  obtain ⟨Y, hY⟩ := tk_end (p.tasks[p.tasks.length - 1]'(by omega))
  rw [hY]
  exact ⟨(catL resT p.res ++ catL shT p.shared) ++ (catL tkT (p.tasks.take (p.tasks.length - 1)) ++ Y), by simp only [ByteArray.append_assoc]⟩
/-- A byte of a program's text is changed. -/
structure Chg (M : List Int) : Prop where
  bd : ∀ n ∈ M, 0 ≤ n ∧ n ≤ 255
  sz : 4 ≤ M.length ∧ M.length ≤ 2100
  nb : ¬ isW (byteAt (bytesOf M) (M.length - 2))
theorem Chg.size {M : List Int} (h : Chg M) : (bytesOf M).size = M.length := of_size h.bd
theorem Chg.cnt {M : List Int} (h : Chg M) : cntB (bytesOf M) = M.count 10 := by unfold cntB; rw [bytesI_of h.bd]
theorem Chg.last {M : List Int} (h : Chg M) : cntB (bytesOf M) ≤ cntB ((bytesOf M).extract 0 (M.length - 2)) + 1 := by
  have hs := h.sz
  have hn := h.nb
  unfold cntB
  rw [bytesI_pre, bytesI_of h.bd]
  rw [byteAt_getD, bytesI_of h.bd] at hn
  have e := List.count_append (a := (10 : Int)) (l₁ := M.take (M.length - 2)) (l₂ := M.drop (M.length - 2))
  rw [List.take_append_drop] at e
  have hd : M.drop (M.length - 2) = M[M.length - 2]'(by omega) :: M.drop (M.length - 2 + 1) := List.drop_eq_getElem_cons (by omega)
  have h1 : (M.drop (M.length - 2 + 1)).count 10 ≤ 1 := by
    have := List.count_le_length (a := (10 : Int)) (l := M.drop (M.length - 2 + 1))
    rw [List.length_drop] at this
    omega
  rw [List.getD_eq_getElem?_getD, List.getElem?_eq_getElem (by omega)] at hn
  have h2 : M[M.length - 2]'(by omega) ≠ 10 := fun h => hn (.inr (.inr h))
  rw [hd, List.count_cons] at e
  have h3 : ((M[M.length - 2]'(by omega)) == (10 : Int)) = false := by simpa using h2
  rw [h3] at e
  simp only [Bool.false_eq_true, if_false] at e
  omega
theorem chg_of {s Z : ByteArray} (hs : s = Z ++ (⟨#[101, 110, 100, 10]⟩ : ByteArray)) (hz : s.size ≤ 2100) {i : Nat} {y : Int} (hy : 0 ≤ y ∧ y ≤ 255) (hw : ¬ isW y) : Chg ((bytesI s).set i y) := by
  have hsz : s.size = Z.size + 4 := by rw [hs, ByteArray.size_append]; rfl
  have hbd : ∀ n ∈ (bytesI s).set i y, 0 ≤ n ∧ n ≤ 255 := by
    intro n hn
    rcases List.mem_or_eq_of_mem_set hn with hn | rfl
    · exact bytesI_bd s n hn
    · exact hy
  refine ⟨hbd, by rw [List.length_set, bytesI_len]; omega, ?_⟩
  rw [byteAt_getD, bytesI_of hbd, List.length_set, bytesI_len, List.getD_eq_getElem?_getD, List.getElem?_set]
  by_cases h : i = s.size - 2
  · rw [if_pos h, if_pos (by rw [bytesI_len]; omega)]
    exact hw
  · rw [if_neg h, ← List.getD_eq_getElem?_getD, ← byteAt_getD, hs, show (Z ++ (⟨#[101, 110, 100, 10]⟩ : ByteArray)).size - 2 = Z.size + 2 by rw [← hs]; omega, byteAt_app_right]
    show ¬ isW (byteAt (⟨#[101, 110, 100, 10]⟩ : ByteArray) 2)
    unfold isW
    decide
/-- Where the text is cut: at the end of the line behind a line. -/
def EndI (M : List Int) (n k e : Nat) : Prop := (e = M.length ∧ (M.take k).count 10 ≤ n) ∨ (e < k ∧ M[e]? = some 10 ∧ (M.take e).count 10 = n ∧ n + 1 ≤ (M.take k).count 10)
theorem cnt_succ {M : List Int} {k : Nat} (h : k < M.length) : (M.take (k + 1)).count 10 = (M.take k).count 10 + (if M[k] = 10 then 1 else 0) := by
  rw [List.take_succ_eq_append_getElem h, List.count_append, List.count_cons, List.count_nil]
  by_cases h10 : M[k] = 10
  · rw [h10]; simp
  · rw [if_neg h10, show (M[k] == (10 : Int)) = false by simpa using h10]; simp
theorem cnt_le (M : List Int) (k : Nat) : (M.take k).count 10 ≤ k := by
  have := List.count_le_length (a := (10 : Int)) (l := M.take k)
  rw [List.length_take] at this
  omega
theorem EndI.skip {M : List Int} {n k e : Nat} (hk : k < M.length) (h : EndI M n k e) (hc : M[k] = 10 → (M.take k).count 10 ≠ n) : EndI M n (k + 1) e := by
  unfold EndI at h ⊢
  rw [cnt_succ hk]
  by_cases h10 : M[k] = 10
  · rw [if_pos h10]
    have := hc h10
    rcases h with ⟨h1, h2⟩ | ⟨h1, h2, h3, h4⟩
    · exact .inl ⟨h1, by omega⟩
    · exact .inr ⟨by omega, h2, h3, by omega⟩
  · rw [if_neg h10]
    rcases h with ⟨h1, h2⟩ | ⟨h1, h2, h3, h4⟩
    · exact .inl ⟨h1, by omega⟩
    · exact .inr ⟨by omega, h2, h3, by omega⟩
theorem EndI.here {M : List Int} {n k : Nat} (hk : k < M.length) (h10 : M[k] = 10) (hc : (M.take k).count 10 = n) : EndI M n (k + 1) k := by
  refine .inr ⟨by omega, by rw [List.getElem?_eq_getElem hk, h10], hc, ?_⟩
  rw [cnt_succ hk, if_pos h10]
  omega
theorem EndI.len {M : List Int} {n k e : Nat} (h : EndI M n k e) (hk : k ≤ M.length) : e ≤ M.length := by
  rcases h with ⟨h1, _⟩ | ⟨h1, _⟩ <;> omega
theorem EndI.at_len {M : List Int} {n k e : Nat} (h : EndI M n k e) (hc : (M.take k).count 10 = n) : e = M.length := by
  rcases h with ⟨h1, _⟩ | ⟨_, _, _, h4⟩
  · exact h1
  · omega
theorem endI_zero {M : List Int} {n l : Nat} (h : l = M.length) : EndI M n 0 l := .inl ⟨h, by simp⟩
/-- What the law asks. -/
theorem lines_all {M : List Int} (h : Chg M) : ((parseF (bytesOf M)).2.2 = 0 → (parseF (bytesOf M)).2.1 = 0) ∧ ((parseF (bytesOf M)).2.2 ≠ 0 → 1 ≤ (parseF (bytesOf M)).2.1 ∧ (parseF (bytesOf M)).2.1 ≤ 1 + (M.count 10 : Int)) := by
  have := lines_ok (b := bytesOf M) (by rw [h.size]; have := h.sz; omega)
  rw [h.cnt] at this
  exact this
theorem lines_cut {M : List Int} (h : Chg M) {n e : Nat} (hn : (parseF (bytesOf M)).2.1 = (n : Int)) (he : (parseF (bytesOf M)).2.2 = 1) (hI : EndI M n M.length e) (hlt : n + 1 < 1 + M.count 10) (W : ByteArray) (hW : PW W) (hWs : W.size ≤ 1000) :
    (parseF ((bytesOf (M.take e) ++ nlB) ++ W)).2 = ((n : Int), 1) := by
  rcases hI with ⟨_, h2⟩ | ⟨h1, h2, h3, _⟩
  · rw [List.take_length] at h2; omega
  have hs := h.sz
  have b1 : ∀ n ∈ M.take e, 0 ≤ n ∧ n ≤ 255 := fun n hn => h.bd n (List.mem_of_mem_take hn)
  have b2 : ∀ n ∈ M.drop (e + 1), 0 ≤ n ∧ n ≤ 255 := fun n hn => h.bd n (List.mem_of_mem_drop hn)
  have hX : bytesOf M = bytesOf (M.take e) ++ (nlB ++ bytesOf (M.drop (e + 1))) := by
    apply bytesI_inj
    rw [bytesI_app, bytesI_app, bytesI_of h.bd, bytesI_of b1, bytesI_of b2]
    obtain ⟨hlt, h10⟩ := List.getElem?_eq_some_iff.1 h2
    have := List.drop_eq_getElem_cons hlt
    rw [h10] at this
    show M = M.take e ++ ([10] ++ M.drop (e + 1))
    rw [List.singleton_append, ← this, List.take_append_drop]
  have hcX : cntB (bytesOf (M.take e)) = n := by unfold cntB; rw [bytesI_of b1]; exact h3
  obtain ⟨L, hL⟩ := hW.px
  have := lines_law (b := bytesOf M) (by rw [h.size]; omega) (j := M.length - 2) (by rw [h.size]; omega) h.nb h.last hX (by rw [hcX]; exact hn) he (W := W) (by
    rw [ByteArray.size_append, ByteArray.size_append, of_size b1, List.length_take, one_size]
    omega) hL
  rw [ByteArray.append_assoc, this, hcX]
abbrev BY : List Int := [123, 125, 61, 43, 120, 57]
theorem by_ok (q : Nat) (h : q < 6) : ∃ c : Int, (0 ≤ c ∧ c ≤ 255) ∧ ¬ isW c ∧ BY[q]? = some c := by
  have : q = 0 ∨ q = 1 ∨ q = 2 ∨ q = 3 ∨ q = 4 ∨ q = 5 := by omega
  unfold isW
  rcases this with rfl | rfl | rfl | rfl | rfl | rfl
  · exact ⟨123, by decide, by decide, rfl⟩
  · exact ⟨125, by decide, by decide, rfl⟩
  · exact ⟨61, by decide, by decide, rfl⟩
  · exact ⟨43, by decide, by decide, rfl⟩
  · exact ⟨120, by decide, by decide, rfl⟩
  · exact ⟨57, by decide, by decide, rfl⟩
end Go.Proofs.YtlniadfidfmckaaDoor
end

section
namespace Go.Vc
set_option maxHeartbeats 1000000
section
variable {P : Program} [Gl P] {nt : Nat} {c : Cx P nt} {env : Env} {H Hr : List Ch} {K : S → List Ch → Prop} {d : Option Tmp} {ty t t' : TypeId} {pos : String} {af : Array Edge} {g : Option (Nat × Bool)} {x y : Operand}

theorem freeze_mark {w : World} {b n : Nat} {cur : Array Value} {e : TypeId} (hh : w.heap[b]? = some (.cells cur e (0, 0))) : ((w.freeze ⟨b, n, none⟩ 1).heap[b]? = some (.cells cur e (n, n + 1))) ∧ Grow [b] w (w.freeze ⟨b, n, none⟩ 1) := by
  have hlt : b < w.heap.size := (Array.getElem?_eq_some_iff.1 hh).1
  have hgt : w.heap[b] = .cells cur e (0, 0) := (Array.getElem?_eq_some_iff.1 hh).2
  unfold World.freeze
  rw [if_neg (by decide)]
  refine ⟨?_, ?_⟩
  · show (w.heap.modify b _)[b]? = _
    rw [Array.getElem?_modify]
    simp [hgt, hlt]
  · refine ⟨rfl, rfl, rfl, by simp, fun k hk hne => ?_⟩
    show (w.heap.modify b _)[k]? = _
    rw [Array.getElem?_modify]
    have : b ≠ k := fun e => hne (by simp [e])
    simp [this]
theorem ow_convOwnB [SL P t] (he : TI.u P (SL.e P t) = .int .u8) {v : Value} {e : TypeId} {L : List Int} (j : Nat) (hx : env.ev x = some (.cell (.val v))) (hp : pick [j] H = some ([.own v e 1 (L.map Brow)], Hr)) (h0 : 0 < L.length)
    (hK : K (.cell (.val v)) (.ownB v e L :: Hr)) : OpWp c ⟨d, .convert t t x, ty, pos, af, g⟩ env H K := by
  intro a w h next Q hn
  have hperm := pick_perm hp
  have h' : StW c ([.own v e 1 (L.map Brow)] ++ Hr) w := h.heap.perm hperm
  have hav : c.av (.own v e 1 (L.map Brow) :: Hr) = c.av H := av_perm c hperm
  obtain ⟨vs, ⟨g1, g2⟩, g3, _⟩ := h.heap.ok (.own v e 1 (L.map Brow)) (hperm.mem_iff.2 (by simp))
  obtain rfl := brows_eq g3
  rcases g2 with ⟨_, h0'⟩ | ⟨b, cap, cur, rfl, _, hh, q1, q2, q3, q4⟩
  · rw [List.length_map] at h0'; omega
  have hsh : w.shape? b = some (e, cur.size) := by simp [World.shape?, hh]
  obtain ⟨m1, m2⟩ := freeze_mark (n := cur.size) hh
  have hrun : (execOp a.eval ⟨d, .convert t t x, ty, pos, af, g⟩).run P w = .ok (.value (.slice (some ⟨b, 0, none⟩) (L.map Brow).length cap)) (w.freeze ⟨b, cur.size, none⟩ 1) := by
    have hu := (SL.hs (P := P) (t := t))
    have hi : P.underlying (SL.e P t) = some (.int .u8) := by rw [TI.hu (P := P) (t := SL.e P t), he]
    simp [execOp, ev_val h hx, convert, run_underlying hu, run_underlying hi, markStringish, hsh]
  obtain ⟨s1, s2⟩ := StW.step (H1 := [.own (.slice (some ⟨b, 0, none⟩) (L.map Brow).length cap) e 1 (L.map Brow)]) (H1' := [.ownB (.slice (some ⟨b, 0, none⟩) (L.map Brow).length cap) e L]) h' (by simpa [hb, Ch.bs, Value.ownBlock] using m2) (fun b hb => .inl hb) (by simp [hb, Ch.bs, Value.ownBlock]) (by
    intro ch hch
    simp only [List.mem_singleton] at hch
    subst hch
    refine ⟨b, cap, cur, _, by rw [List.length_map], m1, fun k hk => by dsimp only; omega, by rw [List.length_map] at q1; exact q1, q2, by omega, ?_⟩
    rw [List.length_map, Nat.mul_one] at q4
    exact q4)
  unfold Oper.wp
  rw [hrun]
  exact hn _ _ _ _ hK s1 ⟨rfl, rfl⟩ (fun s v hs => s2 s v (by rw [List.singleton_append, hav]; exact hs))
theorem ow_loadB [TI P t] {v : Value} {e : TypeId} {i : Nat} {L : List Int} {n : Int} (j : Nat) (ha : aggB (TI.u P t) = false) (hx : env.ev x = some (.cell (.inn v i))) (hp : pick [j] H = some ([.ownB v e L], Hr)) (hn : L[i]? = some n)
    (hK : K (In .u8 n) H) : OpWp c ⟨d, .load t x, ty, pos, af, g⟩ env H K :=
  ow_valx rfl (fun a w h => by
    obtain ⟨b, n', cap, hv, hxe⟩ := ev_ok h hx
    subst hv
    obtain ⟨b', cap', cur, fz, hve, hh, hfz, g3, g4, g5, g6⟩ := bytes_ok h hp
    simp only [Value.slice.injEq, Option.some.injEq, Addr.mk.injEq] at hve
    obtain ⟨⟨rfl, _⟩, rfl, rfl⟩ := hve
    have hlt : i < L.length := (List.getElem?_eq_some_iff.1 hn).1
    have hc : cur[i]? = some (.int .u8 n) := by
      have := congrArg (·[i]?) g6
      simp only [List.getElem?_take, List.getElem?_map, hn, Option.map_some] at this
      rw [if_pos hlt] at this
      simpa using this
    have hcell : w.cell? ⟨b, i, none⟩ = some (.int .u8 n) := by simp [World.cell?, hh, hc]
    simp only [execOp, hxe, Instr.loadAt, Instr.sureAddr, Sem.run_bind, Sem.run_pure, Result.andThen_ok, run_loadVar1 t ha hcell]) hK
theorem hok_remU8 {Sw : World → Prop} {m n : Int} (hx : env.ev x = some (In .u8 m)) (hy : env.ev y = some (In .u8 n)) (hm : 0 ≤ m) (h0 : 0 < n) : HOk c Sw env H ⟨d, .binOp .rem t x y t', ty, pos, af, none⟩ (In .u8 (m % n)) :=
  fun a w h _ => ⟨.int .u8 (m % n), fun w' _ => by
    have h1 : n ≠ 0 := by omega
    simp [execOp, ev_val h hx, ev_val h hy, eqGuard, binOp, Op.intDiv, h1, Int.tmod_eq_emod_of_nonneg hm], rfl, rfl⟩
theorem hok_lenB {Sw : World → Prop} [SL P t] {v : Value} {e : TypeId} {L : List Int} (j : Nat) (hx : env.ev x = some (.cell (.val v))) (hp : pick [j] H = some ([.ownB v e L], Hr)) : HOk c Sw env H ⟨d, .call { callee := .builtin .len, args := #[x], argTypes := #[t] }, ty, pos, af, none⟩ (In .i64 (L.length : Int)) :=
  fun a w h _ => by
    obtain ⟨b, cap, cur, fz, rfl, _⟩ := bytes_ok h hp
    exact ⟨.int .i64 L.length, fun w' _ => by
      simp [execOp, resolve, invoke, builtin, ev_val h hx, Builtin.len_, run_underlying (SL.hs (P := P) (t := t)), goInt], rfl, rfl⟩
theorem hok_indexB {Sw : World → Prop} [SL P t] {v : Value} {e : TypeId} {L : List Int} {m : Int} (j : Nat) (hx : env.ev x = some (.cell (.val v))) (hp : pick [j] H = some ([.ownB v e L], Hr)) (hy : env.ev y = some (In .i64 m)) (h0 : 0 ≤ m) (hlt : m.toNat < L.length)
    (hz : (TI.i P (SL.e P t)).size = 1) : HOk c Sw env H ⟨d, .indexAddr t x y, ty, pos, af, none⟩ (.cell (.inn v m.toNat)) :=
  fun a w h _ => by
    obtain ⟨b, cap, cur, fz, rfl, _⟩ := bytes_ok h hp
    refine ⟨.pointer (some ⟨b, m.toNat, none⟩), fun w' _ => ?_, b, L.length, cap, rfl, rfl⟩
    have : 0 ≤ m ∧ m < ↑L.length := ⟨h0, by omega⟩
    simp [execOp, ev_val h hx, ev_val h hy, Instr.indexAt, asIntOf, run_elem t, this, run_sizeOf, add_at, hz]
theorem hok_indexBN {Sw : World → Prop} [SL P t] {v : Value} {e : TypeId} {L : List Int} {k : IntKind} {m : Int} (i : Nat) (j : Nat) (hx : env.ev x = some (.cell (.val v))) (hp : pick [j] H = some ([.ownB v e L], Hr)) (hy : env.ev y = some (In k m)) (hm : m = (i : Int)) (hlt : i < L.length)
    (hz : (TI.i P (SL.e P t)).size = 1) : HOk c Sw env H ⟨d, .indexAddr t x y, ty, pos, af, none⟩ (.cell (.inn v i)) :=
  fun a w h _ => by
    subst hm
    obtain ⟨b, cap, cur, fz, rfl, _⟩ := bytes_ok h hp
    refine ⟨.pointer (some ⟨b, i, none⟩), fun w' _ => ?_, b, L.length, cap, rfl, rfl⟩
    simp [execOp, ev_val h hx, ev_val h hy, Instr.indexAt, asIntOf, run_elem t, hlt, run_sizeOf, add_at, hz]
end
end Go.Vc
end

section
namespace Go.Proofs.YtlniadfidfmckaaDoor
open Go.Vc
theorem con_sle {P : Program} [Gl P] {f : FuncId} {ss : List S} {Hin Ho : List Ch} {s s' : S} (hs : SLe s s') (h : Con P f ss Hin (fun K => K s Ho)) : Con P f ss Hin (fun K => K s' Ho) := by
  intro vs w A h1 h2 h3 h4 h5 h6
  refine (h vs w A h1 h2 h3 h4 h5 h6).mono ?_
  rintro e w' ⟨v, s1, Ho1, he, hK, hsv, hrest⟩
  obtain ⟨rfl, rfl⟩ := hK (fun a b => a = s ∧ b = Ho) ⟨rfl, rfl⟩
  exact ⟨v, s', _, he, fun K h => h, hs _ _ _ hsv, hrest⟩
theorem SLe.tup3 {a a' b c : S} (h : SLe a a') : SLe (.tup [a, b, c]) (.tup [a', b, c]) := by
  rintro w A v ⟨vs, rfl, v1, r1, rfl, h1, h2⟩
  exact ⟨_, rfl, v1, r1, rfl, h _ _ _ h1, h2⟩
abbrev Y3 : List C := [.any, .any, .any]
theorem prow_any (o : Option Pg) : RowLe (PRow o) Y3 := by
  cases o <;> exact .cons (CLe.any _) (.cons (CLe.any _) (.cons (CLe.any _) .nil))
theorem program_any (s : ByteArray) : Con Tryd.prog 10 [Str s] [] (fun K => K (.tup [.row Y3, In .i64 (parseF s).2.1, In .i64 (parseF s).2.2]) []) :=
  con_sle (SLe.tup3 (SLe.row (prow_any _))) (Program_c s)
attribute [local irreducible] JL JC JQ OpWp Con ConN HOk
attribute [local irreducible] progF progT StG BlG scan parseF byteAt runLen isL isD isName hasW EndI PW
set_option maxHeartbeats 8000000

theorem ParseLines_c (L : List Int) (n y w : Int) (R : List Int) (hL : InR L) (hn : -9223372036854775808 ≤ n ∧ n ≤ 9223372036854775807) (hy : 0 ≤ y ∧ y ≤ 255) (_hw : 0 ≤ w ∧ w ≤ 255) (hR : ∀ n ∈ R, 0 ≤ n ∧ n ≤ 255) :
    Con Tryd.prog 3 [.cell (.list (L.map Irow)), In .i64 n, In .u8 y, In .u8 w, .cell (.list (R.map Brow))] [] (fun K => K (Bl true) []) := by
  have ha := awake_c
  refine con_intro Tryd.func3 rfl rfl (Nat.le_of_ble_eq_true rfl) (fun c hc => ?_)
  by_cases hLn : L.length ≤ 400
  · have hd : (!decide (L.length ≤ 400)) = false := by simp [hLn]
    refine R_ (E_ r_ (T_ (am_ (R_ (M_ r_ (o_ r_ (bm_ r_ (gFew_c _) (o_ r_ (ce_ r_ (T_ (ap_ r_ v_ (as_ (al_ (R_ (M_ r_ (o_ r_ (bt_ [] rfl rfl (gNewT_c L) (fun bd hbd => ?_))))))))))))))))))
    skip
    refine o_ r_ (bt_ [0] rfl rfl (gProgram_c hL hLn 1) (fun p hp => ?_))
    have hz : PgSz p := hp.sz (by decide)
    obtain ⟨h1, h2, h3⟩ := prog_szT (T := 1) (by decide) hp
    have hlen : p.tasks.length = 1 := hp.len
    obtain ⟨Z, hZ⟩ := prog_end (p := p) (by omega)
    have hT := Text_c p hz
    rw [show progF p = (progT p, 0) by unfold progF; rw [if_neg (by rw [h1]; decide), if_neg (by rw [h2]; decide), if_neg (by omega)]] at hT
    dsimp only at hT
    have hs4 : (progT p).size = Z.size + 4 := by rw [hZ, ByteArray.size_append]; rfl
    refine o_ r_ (bm_ r_ (hT) (M_ r_ (X_ r_ (X_ r_ (E_ r_ (E_ r_ (T_ (am_ (am_ ?_)))))))))
    generalize progT p = s at h3 hZ hs4 ⊢
    have hs2 : s ≠ ⟨#[]⟩ := fun h => by rw [h, show (⟨#[]⟩ : ByteArray).size = 0 from rfl] at hs4; omega
    clear hp hz h1 h2 hlen hT hd
    have hbl := bytesI_len s
    have hmod : 0 ≤ n % (s.size : Int) ∧ n % (s.size : Int) < s.size := ⟨Int.emod_nonneg _ (by omega), Int.emod_lt_of_pos _ (by omega)⟩
    obtain ⟨q, hq, hq6⟩ : ∃ q : Nat, y % 6 = (q : Int) ∧ q < 6 := ⟨(y % 6).toNat, by omega, by omega⟩
    obtain ⟨cy, hcy, hcw, hrowY⟩ := by_ok q hq6
    refine an_ (M_ r_ (o_ r_ (bx_ r_ r_ (M_ r_ (ah_ r_ r_ b_ (bd_ r_ (ah_ r_ r_ b_ (cs_ r_ r_ (o_ r_ (bv_ r_ r_ r_ (T_ (ap_ r_ w_ (as_ (al_ (R_ (M_ r_ (o_ r_ (ow_strBytesB rfl rfl g_ rfl (fun v0 fv0 => E_ r_ (T_ ?_))))))))))))))))))))
    refine am_ (jc_cut (ι := Unit) [] (fun _ => True) (fun _ => [(4, .cell (.list (R.map Go.Vc.Brow))), (13, .cell (.val v0))]) (fun _ => [.ownB v0 5 ((bytesI s).set (n % ((bytesI s).length : Int)).toNat cy)]) ?_ ?_)
    · refine jc_hp0 11 (n := 13) rfl k_ (df_ (i := 0) rfl k_ k_ k_ b_ (by (repeat (first | refine pani_then ?_ | refine pani_block ?_)); exact pani_body) (dk_ rfl) ?_)
      refine df_ (i := 1) rfl k_ k_ k_ b_ (by (repeat (first | refine pani_then ?_ | refine pani_block ?_)); exact pani_body) (dk_ rfl) ?_
      refine df_ (i := 2) rfl k_ k_ k_ b_ (by (repeat (first | refine pani_then ?_ | refine pani_block ?_)); exact pani_body) (dk_ rfl) ?_
      refine df_ (i := 3) rfl k_ k_ k_ b_ (by (repeat (first | refine pani_then ?_ | refine pani_block ?_)); exact pani_body) (hok_lenB 0 rfl rfl) ?_
      refine df_ (i := 7) rfl k_ k_ k_ b_ (by (repeat (first | refine pani_then ?_ | refine pani_block ?_)); exact pani_body) (dk_ rfl) ?_
      refine df_ (i := 8) rfl k_ k_ k_ b_ (by (repeat (first | refine pani_then ?_ | refine pani_block ?_)); exact pani_body) (hok_remU8 rfl rfl g_ g_) ?_
      refine hp_br2 (i := 4) (j := 5) rfl rfl k_ rfl ?_ ?_
      refine hs_v (bm_ rfl (gMod_c _ _ (by rw [bytesI_len]; omega) hn) ⟨?_, ?_⟩)
      exact keep0
      refine dg_ (i := 5) rfl k_ b_ (ow_buildSliceOwn (rows := BY.map Go.Vc.Brow) rfl rfl b_ rfl rfl b_ (fun v1 _ fv1 => ⟨?_, ?_⟩))
      exact keep0
      refine dg_ (i := 6) r_ k_ b_ (ow_convOwnB r_ (L := BY) 0 r_ r_ b_ ⟨?_, ?_⟩)
      exact keep0
      refine df_ (i := 9) rfl k_ k_ k_ b_ (by (repeat (first | refine pani_then ?_ | refine pani_block ?_)); exact pani_body) (hok_indexBN q 0 rfl rfl rfl hq hq6 rfl) ?_
      refine dg_ (i := 10) r_ k_ b_ (ow_loadB 0 r_ r_ r_ hrowY ⟨?_, ?_⟩)
      exact keep0
      refine df_ (i := 11) rfl k_ k_ k_ b_ (by (repeat (first | refine pani_then ?_ | refine pani_block ?_)); exact pani_body) (hok_indexB 1 rfl rfl rfl (by rw [hbl] ; omega) (by rw [hbl] ; omega) rfl) ?_
      refine hp_tail (dj_ (i := 12) rfl k_ (by decide) (ow_storeB 1 rfl rfl rfl (by rw [hbl] ; omega) rfl (ht_done k_ ?_)))
      rotate_left
      refine hs_v (ow_buildSliceOwn (rows := BY.map Go.Vc.Brow) rfl rfl (nb rfl) rfl rfl (nb rfl) (fun v1 _ fv1 => ⟨?_, ?_⟩))
      exact keep0
      refine hp_br2 (i := 4) (j := 6) rfl rfl k_ rfl ?_ ?_
      refine hs_v (bm_ rfl (gMod_c _ _ (by rw [bytesI_len]; omega) hn) ⟨?_, ?_⟩)
      exact keep0
      refine dg_ (i := 6) r_ k_ b_ (ow_convOwnB r_ (L := BY) 0 r_ r_ b_ ⟨?_, ?_⟩)
      exact keep0
      refine df_ (i := 9) rfl k_ k_ k_ b_ (by (repeat (first | refine pani_then ?_ | refine pani_block ?_)); exact pani_body) (hok_indexBN q 0 rfl rfl rfl hq hq6 rfl) ?_
      refine dg_ (i := 10) r_ k_ b_ (ow_loadB 0 r_ r_ r_ hrowY ⟨?_, ?_⟩)
      exact keep0
      refine df_ (i := 11) rfl k_ k_ k_ b_ (by (repeat (first | refine pani_then ?_ | refine pani_block ?_)); exact pani_body) (hok_indexB 1 rfl rfl rfl (by rw [hbl] ; omega) (by rw [hbl] ; omega) rfl) ?_
      refine hp_tail (dj_ (i := 12) rfl k_ (by decide) (ow_storeB 1 rfl rfl rfl (by rw [hbl] ; omega) rfl (ht_done k_ ?_)))
      rotate_left
      refine hs_v (ow_convOwnB rfl (L := BY) 0 rfl rfl (nb rfl) ⟨?_, ?_⟩)
      exact keep0
      refine df_ (i := 9) rfl k_ k_ k_ b_ (by (repeat (first | refine pani_then ?_ | refine pani_block ?_)); exact pani_body) (hok_indexBN q 0 rfl rfl rfl hq hq6 rfl) ?_
      refine hp_br2 (i := 4) (j := 10) rfl rfl k_ rfl ?_ ?_
      refine hs_v (bm_ rfl (gMod_c _ _ (by rw [bytesI_len]; omega) hn) ⟨?_, ?_⟩)
      exact keep0
      refine dg_ (i := 10) r_ k_ b_ (ow_loadB 0 r_ r_ r_ hrowY ⟨?_, ?_⟩)
      exact keep0
      refine df_ (i := 11) rfl k_ k_ k_ b_ (by (repeat (first | refine pani_then ?_ | refine pani_block ?_)); exact pani_body) (hok_indexB 1 rfl rfl rfl (by rw [hbl] ; omega) (by rw [hbl] ; omega) rfl) ?_
      refine hp_tail (dj_ (i := 12) rfl k_ (by decide) (ow_storeB 1 rfl rfl rfl (by rw [hbl] ; omega) rfl (ht_done k_ ?_)))
      rotate_left
      refine hs_v (ow_loadB 0 rfl rfl rfl hrowY ⟨?_, ?_⟩)
      exact keep0
      refine dg_ (i := 4) rfl k_ b_ (bm_ rfl (gMod_c _ _ (by rw [bytesI_len]; omega) hn) ⟨?_, ?_⟩)
      exact keep0
      refine df_ (i := 11) rfl k_ k_ k_ b_ (by (repeat (first | refine pani_then ?_ | refine pani_block ?_)); exact pani_body) (hok_indexB 1 rfl rfl rfl (by rw [hbl] ; omega) (by rw [hbl] ; omega) rfl) ?_
      refine hp_tail (dj_ (i := 12) rfl k_ (by decide) (ow_storeB 1 rfl rfl rfl (by rw [hbl] ; omega) rfl (ht_done k_ ?_)))
      rotate_left
      · refine jq_cutS () trivial ?_ ?_
        · exact bc_ 0 r_ sub_end
        · (repeat (first | exact True.intro | refine ⟨rfl, ?_⟩))
      · refine jq_cutS () trivial ?_ ?_
        · exact bc_ 0 r_ sub_end
        · (repeat (first | exact True.intro | refine ⟨rfl, ?_⟩))
      · refine jq_cutS () trivial ?_ ?_
        · exact bc_ 0 r_ sub_end
        · (repeat (first | exact True.intro | refine ⟨rfl, ?_⟩))
      · refine jq_cutS () trivial ?_ ?_
        · exact bc_ 0 r_ sub_end
        · (repeat (first | exact True.intro | refine ⟨rfl, ?_⟩))
    intro _ _
    refine jc_freezeBy 13 0 rfl rfl fv0 ?_
    have hM : Chg ((bytesI s).set (n % ((bytesI s).length : Int)).toNat cy) := chg_of hZ (by omega) hcy hcw
    generalize (bytesI s).set (n % ((bytesI s).length : Int)).toNat cy = M at hM ⊢
    clear hbl hmod hq hcy hcw hrowY hs2 hs4 h3 hZ hbd fv0 hq6
    have hA := Program_c (bytesOf M)
    have hL2 := lines_all hM
    have hcut := fun (N e : Nat) => lines_cut hM (n := N) (e := e)
    have hsz := hM.sz
    generalize parseF (bytesOf M) = r at hA hL2 hcut
    obtain ⟨o, nn, f⟩ := r
    dsimp only at hA hL2 hcut
    refine am_ (jc_cut (ι := Unit) [] (fun _ => True) (fun _ => [(4, .cell (.list (R.map Go.Vc.Brow))), (13, .cell (.list (M.map Go.Vc.Brow))), (15, In .i64 nn), (16, In .i64 f)]) (fun _ => []) ?_ ?_)
    · clear hL2 hcut
      cases o with
      | none =>
        refine an_ (M_ r_ (o_ r_ (ow_bytesToString (l := M) r_ r_ r_ (o_ r_ (bm_ r_ (hA) (M_ r_ (X_ r_ (X_ r_ (X_ r_ (o_ r_ (bl_ r_ r_ (fun bl => S_ 0 r_ (E_ r_ (E_ r_ (ak_ (jq_cutS () trivial ?_ ?_))))))))))))))))
        · exact sub_end
        · (repeat (first | exact True.intro | refine ⟨rfl, ?_⟩))
      | some p =>
        refine an_ (M_ r_ (o_ r_ (ow_bytesToString (l := M) r_ r_ r_ (o_ r_ (bm_ r_ (hA) (M_ r_ (X_ r_ (X_ r_ (X_ r_ (o_ r_ (bl_ r_ r_ (fun bl => S_ 0 r_ (E_ r_ (E_ r_ (ak_ (jq_cutS () trivial ?_ ?_))))))))))))))))
        · exact sub_end
        · (repeat (first | exact True.intro | refine ⟨rfl, ?_⟩))
    intro _ _
    clear hA
    by_cases hf : f = 0
    · have hn0 := hL2.1 hf
      refine am_ (R_ (M_ r_ (o_ r_ (bn_ r_ r_ (T_ (aq_ r_ u_ (R_ (M_ r_ (o_ r_ (bn_ r_ r_ (M_ r_ (ah_ r_ u_ b_ (bm_ r_ (ha) (o_ r_ (bp_ r_ u_ r_ (E_ r_ (T_ (ar_ (aw_ ?_)))))))))))))))))))
      refine jq_ret1 rfl rfl [] rfl (fun K h => h)
    obtain ⟨hN1, hN2⟩ := hL2.2 hf
    obtain ⟨N, rfl⟩ : ∃ N : Nat, nn = (N : Int) := ⟨nn.toNat, by omega⟩
    have hcut := fun e h1 h2 h3 W hW hWs => hcut N e rfl h1 h2 h3 W hW hWs
    have hcl := cnt_le M M.length
    rw [List.take_length] at hcl
    have eM : (M.map Go.Vc.Brow).length = M.length := List.length_map _
    refine am_ (R_ (M_ r_ (o_ r_ (bn_ r_ r_ (T_ (ap_ r_ w_ (as_ (al_ (R_ (E_ r_ (T_ (R_ (M_ r_ (o_ r_ (br_ r_ (fun hlen => E_ r_ (T_ ?_)))))))))))))))))
    refine am_ (R_ (E_ r_ (T_ (au_ ?_))))
    refine jc_loopS (ι := Nat × Nat) [] (fun i => i.1 ≤ M.length ∧ EndI M N i.1 i.2) (fun i => [(4, .cell (.list (R.map Go.Vc.Brow))), (13, .cell (.list (M.map Go.Vc.Brow))), (15, In .i64 (N : Int)), (16, In .i64 f), (17, In .i64 (1 + ((M.take i.1).count 10 : Int))), (18, In .i64 (i.2 : Int)), (19, In .i64 (i.1 : Int))]) (fun _ => []) (fun i => M.length - i.1) (0, (M.map Go.Vc.Brow).length) ⟨Nat.zero_le _, endI_zero eM⟩ ?_ ?_ ?_
    · exact sub_end
    · (repeat (first | exact True.intro | refine ⟨rfl, ?_⟩))
    rintro ⟨k, e⟩ ⟨hk, hE⟩
    dsimp only at hk hE ⊢
    have hcnt := cnt_le M k
    by_cases hlt : k < M.length
    · have hlt' : (k : Int) < ((M.map Go.Vc.Brow).length : Int) := by omega
      have hs := cnt_succ hlt
      by_cases h10 : M[k] = 10
      · rw [if_pos h10] at hs
        have e17 : (1 + ((M.take (k + 1)).count 10 : Int)) = 1 + ((M.take k).count 10 : Int) + 1 := by omega
        by_cases hc1 : (M.take k).count 10 = N
        · have he := hE.at_len hc1
          have hE2 := EndI.here hlt h10 hc1
          have t1 : (1 + ((M.take k).count 10 : Int) + 1) = (N : Int) + 2 := by omega
          have t2 : (e : Int) = ((M.map Go.Vc.Brow).length : Int) := by omega
          refine am_ (R_ (M_ r_ (M_ r_ (o_ r_ (br_ r_ (fun hlen => o_ r_ (bw_ r_ r_ (T_ (aq_ r_ u_ (as_ (al_ (B_ (R_ (M_ r_ (M_ r_ (o_ r_ (cc_ r_ r_ g_ r_ r_ b_ (o_ r_ (cb_ r_ r_ ?_)))))))))))))))))))
          refine o_ r_ (bn_ r_ r_ (T_ (aq_ r_ u_ (R_ (M_ r_ (o_ r_ (bj_ r_ r_ g_ (E_ r_ (T_ (R_ (M_ r_ (M_ r_ (o_ r_ (bj_ r_ r_ g_ (o_ r_ (bn_ r_ r_ (M_ r_ (ah_ r_ u_ b_ (bd_ r_ (ah_ r_ u_ b_ (bd_ r_ ?_)))))))))))))))))))))
          refine ah_ r_ u_ b_ (br_ r_ (fun hlen => ah_ r_ u_ b_ (bn_ r_ r_ (o_ r_ (bp_ r_ u_ r_ (T_ (aq_ r_ u_ (an_ (M_ r_ (E_ r_ (ak_ (ay_ (al_ (an_ (M_ r_ (o_ r_ (bj_ r_ r_ g_ (E_ r_ (ak_ ?_)))))))))))))))))))
          refine jq_againS (i := (k, e)) ((k + 1, k) : Nat × Nat) ⟨by dsimp only; omega, hE2⟩ (by dsimp only; omega) ?_ ?_
          · exact sub_end
          · rw [e17]
            (repeat (first | exact True.intro | refine ⟨rfl, ?_⟩))
        · have hE2 := hE.skip hlt (fun _ => hc1)
          have t1 : ¬ (1 + ((M.take k).count 10 : Int) + 1) = (N : Int) + 2 := by omega
          refine am_ (R_ (M_ r_ (M_ r_ (o_ r_ (br_ r_ (fun hlen => o_ r_ (bw_ r_ r_ (T_ (aq_ r_ u_ (as_ (al_ (B_ (R_ (M_ r_ (M_ r_ (o_ r_ (cc_ r_ r_ g_ r_ r_ b_ (o_ r_ (cb_ r_ r_ ?_)))))))))))))))))))
          refine o_ r_ (bn_ r_ r_ (T_ (aq_ r_ u_ (R_ (M_ r_ (o_ r_ (bj_ r_ r_ g_ (E_ r_ (T_ (R_ (M_ r_ (M_ r_ (o_ r_ (bj_ r_ r_ g_ (o_ r_ (bn_ r_ r_ (M_ r_ (ai_ r_ w_ b_ (ai_ r_ w_ b_ ?_)))))))))))))))))))
          refine ai_ r_ w_ b_ (ai_ r_ w_ b_ (o_ r_ (bv_ r_ w_ r_ (T_ (ap_ r_ r_ (as_ (ay_ (al_ (an_ (M_ r_ (o_ r_ (bj_ r_ r_ g_ (E_ r_ (ak_ (jq_againS (i := (k, e)) ((k + 1, e) : Nat × Nat) ⟨by dsimp only; omega, hE2⟩ (by dsimp only; omega) ?_ ?_)))))))))))))))
          · exact sub_end
          · rw [e17]
            (repeat (first | exact True.intro | refine ⟨rfl, ?_⟩))
      · rw [if_neg h10] at hs
        have e17 : (1 + ((M.take (k + 1)).count 10 : Int)) = 1 + ((M.take k).count 10 : Int) := by omega
        have hE2 := hE.skip hlt (fun h => absurd h h10)
        refine am_ (R_ (M_ r_ (M_ r_ (o_ r_ (br_ r_ (fun hlen => o_ r_ (bw_ r_ r_ (T_ (aq_ r_ u_ (as_ (al_ (B_ (R_ (M_ r_ (M_ r_ (o_ r_ (cc_ r_ r_ g_ r_ r_ b_ (o_ r_ (cb_ r_ r_ ?_)))))))))))))))))))
        refine o_ r_ (bn_ r_ r_ (T_ (ap_ r_ w_ (as_ (ay_ (al_ (an_ (M_ r_ (o_ r_ (bj_ r_ r_ g_ (E_ r_ (ak_ (jq_againS (i := (k, e)) ((k + 1, e) : Nat × Nat) ⟨by dsimp only; omega, hE2⟩ (by dsimp only; omega) ?_ ?_)))))))))))))
        · exact sub_end
        · rw [e17]
          (repeat (first | exact True.intro | refine ⟨rfl, ?_⟩))
    · have hlt' : ¬ (k : Int) < ((M.map Go.Vc.Brow).length : Int) := by omega
      obtain rfl : k = M.length := by omega
      rw [List.take_length]
      have hn1 : ¬ (N : Int) < 1 := by omega
      have hn2 : ¬ (N : Int) > 1 + (M.count 10 : Int) := by omega
      by_cases hf1 : f = 1
      · by_cases hge : (N : Int) + 1 ≥ 1 + (M.count 10 : Int)
        · refine am_ (R_ (M_ r_ (M_ r_ (o_ r_ (br_ r_ (fun hlen => o_ r_ (bw_ r_ r_ (T_ (ap_ r_ w_ (av_ (ax_ (ax_ (ba_ (al_ (am_ (R_ (M_ r_ ?_)))))))))))))))))
          refine o_ r_ (bw_ r_ r_ (M_ r_ (ah_ r_ w_ b_ (bd_ r_ (ah_ r_ w_ b_ (bd_ r_ (ah_ r_ w_ b_ (bz_ r_ r_ (o_ r_ (bv_ r_ w_ r_ (T_ (ap_ r_ w_ (as_ (al_ (am_ (R_ (M_ r_ (o_ r_ (bx_ r_ r_ (M_ r_ (ah_ r_ v_ b_ (bd_ r_ ?_))))))))))))))))))))))
          refine ah_ r_ v_ b_ (bj_ r_ r_ g_ (ah_ r_ v_ b_ (bd_ r_ (ah_ r_ v_ b_ (cn_ r_ r_ (o_ r_ (bv_ r_ v_ r_ (T_ (aq_ r_ u_ (R_ (o_ r_ (bm_ r_ (ha) (E_ r_ (T_ (ar_ (aw_ (jq_ret1 rfl rfl [] rfl (fun K h => h))))))))))))))))))
        · have hel := hE.len (Nat.le_refl _)
          have hcut := fun W hW hWs => hcut e hf1 hE (by omega) W hW hWs
          have eT : S.cell (.list ((M.map Go.Vc.Brow).take (e : Int).toNat)) = .cell (.list ((M.take e).map Go.Vc.Brow)) := by rw [Int.toNat_natCast, List.map_take]
          have hle' : (e : Int).toNat ≤ (M.map Go.Vc.Brow).length := by omega
          have hPa : ∀ W : ByteArray, (W.size ≤ 1000 ∧ PW W) → Con Tryd.prog 10 [Str ((bytesOf (M.take e) ++ nlB) ++ W)] [] (fun K => K (.tup [.row Y3, In .i64 (N : Int), In .i64 1]) []) := fun W hW => by
            have h := program_any ((bytesOf (M.take e) ++ nlB) ++ W)
            rw [hcut W hW.2 hW.1] at h
            exact h
          have hXs : (bytesOf (M.take e)).size ≤ 2100 := by
            rw [of_size (fun n hn => hM.bd n (List.mem_of_mem_take hn)), List.length_take]
            omega
          clear hcut hE hL2
          refine am_ (R_ (M_ r_ (M_ r_ (o_ r_ (br_ r_ (fun hlen => o_ r_ (bw_ r_ r_ (T_ (ap_ r_ w_ (av_ (ax_ (ax_ (ba_ (al_ (am_ (R_ (M_ r_ ?_)))))))))))))))))
          refine o_ r_ (bw_ r_ r_ (M_ r_ (ah_ r_ v_ b_ (bd_ r_ (ah_ r_ v_ b_ (bd_ r_ (ah_ r_ v_ b_ (bz_ r_ r_ (o_ r_ (bv_ r_ w_ r_ (T_ (ap_ r_ w_ (as_ (al_ (am_ (R_ (M_ r_ (o_ r_ (bx_ r_ r_ (M_ r_ (ah_ r_ v_ b_ (bd_ r_ ?_))))))))))))))))))))))
          refine ah_ r_ v_ b_ (bj_ r_ r_ g_ (ah_ r_ v_ b_ (bd_ r_ (ah_ r_ v_ b_ (cn_ r_ r_ (o_ r_ (bv_ r_ v_ r_ (T_ (ap_ r_ w_ (as_ (al_ (am_ (jc_reset [(4, .cell (.list (R.map Go.Vc.Brow))), (13, .cell (.list (M.map Go.Vc.Brow))), (15, In .i64 (N : Int)), (18, In .i64 (e : Int))] [] ?_ ⟨[], _, rfl⟩ ?_)))))))))))))
          · (repeat (first | exact True.intro | refine ⟨rfl, ?_⟩))
          refine jc_cut (ι := Unit) [] (fun _ => True) (fun _ => [(15, In .i64 (N : Int)), (21, In .i64 (N : Int)), (22, In .i64 1)]) (fun _ => []) ?_ ?_
          · refine jc_hp0 16 (n := 17) rfl k_ (df_ (i := 0) rfl k_ k_ k_ b_ (by (repeat (first | refine pani_then ?_ | refine pani_block ?_)); exact pani_body) (dk_ rfl) ?_)
            refine df_ (i := 1) rfl k_ k_ k_ b_ (by (repeat (first | refine pani_then ?_ | refine pani_block ?_)); exact pani_body) (dk_ rfl) ?_
            refine df_ (i := 2) rfl k_ k_ k_ b_ (by (repeat (first | refine pani_then ?_ | refine pani_block ?_)); exact pani_body) (hok_prefix rfl rfl g_ hle') ?_
            refine df_ (i := 5) rfl k_ k_ k_ b_ (by (repeat (first | refine pani_then ?_ | refine pani_block ?_)); exact pani_body) (dk_ rfl) ?_
            refine hp_br3 (i := 3) (j := 6) (k := 13) rfl rfl rfl k_ rfl ?_ ?_ ?_
            refine hs_v (ow_bytesToString (l := M.take e) rfl rfl (by rw [← eT] ; rfl) ⟨?_, ?_⟩)
            exact keep0
            refine hp_br3 (i := 4) (j := 6) (k := 13) rfl rfl rfl k_ rfl ?_ ?_ ?_
            refine hs_v (ow_strcat rfl rfl (by rw [show (⟨#[10]⟩ : ByteArray).size = 1 from rfl] ; omega) ⟨?_, ?_⟩)
            exact keep0
            refine hp_br2 (i := 6) (j := 13) rfl rfl k_ rfl ?_ ?_
            refine hs_v (bt_ [] rfl rfl (words_c R hR) (fun pp hpp => ⟨?_, ?_⟩))
            exact keep0
            refine hp_br2 (i := 7) (j := 13) rfl rfl k_ rfl ?_ ?_
            refine hs_v (ow_strcat rfl rfl (by rw [ByteArray.size_append, show (⟨#[10]⟩ : ByteArray).size = 1 from rfl] ; omega) ⟨?_, ?_⟩)
            exact keep0
            refine hp_br2 (i := 8) (j := 13) rfl rfl k_ rfl ?_ ?_
            refine hs_v (bm_ rfl (hPa _ h_) ⟨?_, ?_⟩)
            exact keep0
            refine df_ (i := 9) rfl k_ k_ k_ b_ (by (repeat (first | refine pani_then ?_ | refine pani_block ?_)); exact pani_body) (dk_ rfl) ?_
            refine df_ (i := 10) rfl k_ k_ k_ b_ (by (repeat (first | refine pani_then ?_ | refine pani_block ?_)); exact pani_body) (dq_ rfl rfl) ?_
            refine df_ (i := 11) rfl k_ k_ k_ b_ (by (repeat (first | refine pani_then ?_ | refine pani_block ?_)); exact pani_body) (dq_ rfl rfl) ?_
            refine df_ (i := 12) rfl k_ k_ k_ b_ (by (repeat (first | refine pani_then ?_ | refine pani_block ?_)); exact pani_body) (dq_ rfl rfl) ?_
            refine dg_ (i := 13) r_ k_ b_ (bl_ r_ r_ (fun bl => ⟨?_, ?_⟩))
            exact keep0
            refine dh_ (i := 14) r_ k_ (bk_ 0 r_ r_ r_ r_ r_ r_ ⟨?_, ?_⟩)
            exact keep0
            refine df_ (i := 15) rfl k_ k_ k_ b_ (by (repeat (first | refine pani_then ?_ | refine pani_block ?_)); exact pani_body) (hok_assign rfl) ?_
            refine df_ (i := 16) rfl k_ k_ k_ b_ (by (repeat (first | refine pani_then ?_ | refine pani_block ?_)); exact pani_body) (hok_assign rfl) ?_
            refine hp_done k_ ?_
            rotate_left
            refine hs_v (bl_ rfl rfl (fun bl => ⟨?_, ?_⟩))
            exact keep0
            refine dg_ (i := 8) r_ k_ b_ (bm_ r_ (hPa _ h_) ⟨?_, ?_⟩)
            exact keep0
            refine df_ (i := 9) rfl k_ k_ k_ b_ (by (repeat (first | refine pani_then ?_ | refine pani_block ?_)); exact pani_body) (dk_ rfl) ?_
            refine df_ (i := 10) rfl k_ k_ k_ b_ (by (repeat (first | refine pani_then ?_ | refine pani_block ?_)); exact pani_body) (dq_ rfl rfl) ?_
            refine df_ (i := 11) rfl k_ k_ k_ b_ (by (repeat (first | refine pani_then ?_ | refine pani_block ?_)); exact pani_body) (dq_ rfl rfl) ?_
            refine df_ (i := 12) rfl k_ k_ k_ b_ (by (repeat (first | refine pani_then ?_ | refine pani_block ?_)); exact pani_body) (dq_ rfl rfl) ?_
            refine dh_ (i := 14) r_ k_ (bk_ 0 r_ r_ r_ r_ r_ r_ ⟨?_, ?_⟩)
            exact keep0
            refine df_ (i := 15) rfl k_ k_ k_ b_ (by (repeat (first | refine pani_then ?_ | refine pani_block ?_)); exact pani_body) (hok_assign rfl) ?_
            refine df_ (i := 16) rfl k_ k_ k_ b_ (by (repeat (first | refine pani_then ?_ | refine pani_block ?_)); exact pani_body) (hok_assign rfl) ?_
            refine hp_done k_ ?_
            rotate_left
            refine hs_v (bl_ rfl rfl (fun bl => ⟨?_, ?_⟩))
            exact keep0
            refine dg_ (i := 7) rfl k_ b_ (ow_strcat rfl rfl (by rw [ByteArray.size_append, show (⟨#[10]⟩ : ByteArray).size = 1 from rfl] ; omega) ⟨?_, ?_⟩)
            exact keep0
            refine dg_ (i := 8) r_ k_ b_ (bm_ r_ (hPa _ h_) ⟨?_, ?_⟩)
            exact keep0
            refine df_ (i := 9) rfl k_ k_ k_ b_ (by (repeat (first | refine pani_then ?_ | refine pani_block ?_)); exact pani_body) (dk_ rfl) ?_
            refine df_ (i := 10) rfl k_ k_ k_ b_ (by (repeat (first | refine pani_then ?_ | refine pani_block ?_)); exact pani_body) (dq_ rfl rfl) ?_
            refine df_ (i := 11) rfl k_ k_ k_ b_ (by (repeat (first | refine pani_then ?_ | refine pani_block ?_)); exact pani_body) (dq_ rfl rfl) ?_
            refine df_ (i := 12) rfl k_ k_ k_ b_ (by (repeat (first | refine pani_then ?_ | refine pani_block ?_)); exact pani_body) (dq_ rfl rfl) ?_
            refine dh_ (i := 14) r_ k_ (bk_ 0 r_ r_ r_ r_ r_ r_ ⟨?_, ?_⟩)
            exact keep0
            refine df_ (i := 15) rfl k_ k_ k_ b_ (by (repeat (first | refine pani_then ?_ | refine pani_block ?_)); exact pani_body) (hok_assign rfl) ?_
            refine df_ (i := 16) rfl k_ k_ k_ b_ (by (repeat (first | refine pani_then ?_ | refine pani_block ?_)); exact pani_body) (hok_assign rfl) ?_
            refine hp_done k_ ?_
            rotate_left
            refine hs_v (bl_ rfl rfl (fun bl => ⟨?_, ?_⟩))
            exact keep0
            refine dg_ (i := 6) rfl k_ b_ (bt_ [] rfl rfl (words_c R hR) (fun pp hpp => ⟨?_, ?_⟩))
            exact keep0
            refine dg_ (i := 7) rfl k_ b_ (ow_strcat rfl rfl (by rw [ByteArray.size_append, show (⟨#[10]⟩ : ByteArray).size = 1 from rfl] ; omega) ⟨?_, ?_⟩)
            exact keep0
            refine dg_ (i := 8) r_ k_ b_ (bm_ r_ (hPa _ h_) ⟨?_, ?_⟩)
            exact keep0
            refine df_ (i := 9) rfl k_ k_ k_ b_ (by (repeat (first | refine pani_then ?_ | refine pani_block ?_)); exact pani_body) (dk_ rfl) ?_
            refine df_ (i := 10) rfl k_ k_ k_ b_ (by (repeat (first | refine pani_then ?_ | refine pani_block ?_)); exact pani_body) (dq_ rfl rfl) ?_
            refine df_ (i := 11) rfl k_ k_ k_ b_ (by (repeat (first | refine pani_then ?_ | refine pani_block ?_)); exact pani_body) (dq_ rfl rfl) ?_
            refine df_ (i := 12) rfl k_ k_ k_ b_ (by (repeat (first | refine pani_then ?_ | refine pani_block ?_)); exact pani_body) (dq_ rfl rfl) ?_
            refine dh_ (i := 14) r_ k_ (bk_ 0 r_ r_ r_ r_ r_ r_ ⟨?_, ?_⟩)
            exact keep0
            refine df_ (i := 15) rfl k_ k_ k_ b_ (by (repeat (first | refine pani_then ?_ | refine pani_block ?_)); exact pani_body) (hok_assign rfl) ?_
            refine df_ (i := 16) rfl k_ k_ k_ b_ (by (repeat (first | refine pani_then ?_ | refine pani_block ?_)); exact pani_body) (hok_assign rfl) ?_
            refine hp_done k_ ?_
            rotate_left
            refine hs_v (bt_ [] rfl rfl (words_c R hR) (fun pp hpp => ⟨?_, ?_⟩))
            exact keep0
            refine hp_br2 (i := 4) (j := 13) rfl rfl k_ rfl ?_ ?_
            refine hs_v (ow_strcat rfl rfl (by rw [show (⟨#[10]⟩ : ByteArray).size = 1 from rfl] ; omega) ⟨?_, ?_⟩)
            exact keep0
            refine hp_br2 (i := 7) (j := 13) rfl rfl k_ rfl ?_ ?_
            refine hs_v (ow_strcat rfl rfl (by rw [ByteArray.size_append, show (⟨#[10]⟩ : ByteArray).size = 1 from rfl] ; omega) ⟨?_, ?_⟩)
            exact keep0
            refine hp_br2 (i := 8) (j := 13) rfl rfl k_ rfl ?_ ?_
            refine hs_v (bm_ rfl (hPa _ h_) ⟨?_, ?_⟩)
            exact keep0
            refine df_ (i := 9) rfl k_ k_ k_ b_ (by (repeat (first | refine pani_then ?_ | refine pani_block ?_)); exact pani_body) (dk_ rfl) ?_
            refine df_ (i := 10) rfl k_ k_ k_ b_ (by (repeat (first | refine pani_then ?_ | refine pani_block ?_)); exact pani_body) (dq_ rfl rfl) ?_
            refine df_ (i := 11) rfl k_ k_ k_ b_ (by (repeat (first | refine pani_then ?_ | refine pani_block ?_)); exact pani_body) (dq_ rfl rfl) ?_
            refine df_ (i := 12) rfl k_ k_ k_ b_ (by (repeat (first | refine pani_then ?_ | refine pani_block ?_)); exact pani_body) (dq_ rfl rfl) ?_
            refine dg_ (i := 13) r_ k_ b_ (bl_ r_ r_ (fun bl => ⟨?_, ?_⟩))
            exact keep0
            refine dh_ (i := 14) r_ k_ (bk_ 0 r_ r_ r_ r_ r_ r_ ⟨?_, ?_⟩)
            exact keep0
            refine df_ (i := 15) rfl k_ k_ k_ b_ (by (repeat (first | refine pani_then ?_ | refine pani_block ?_)); exact pani_body) (hok_assign rfl) ?_
            refine df_ (i := 16) rfl k_ k_ k_ b_ (by (repeat (first | refine pani_then ?_ | refine pani_block ?_)); exact pani_body) (hok_assign rfl) ?_
            refine hp_done k_ ?_
            rotate_left
            refine hs_v (bl_ rfl rfl (fun bl => ⟨?_, ?_⟩))
            exact keep0
            refine dg_ (i := 8) r_ k_ b_ (bm_ r_ (hPa _ h_) ⟨?_, ?_⟩)
            exact keep0
            refine df_ (i := 9) rfl k_ k_ k_ b_ (by (repeat (first | refine pani_then ?_ | refine pani_block ?_)); exact pani_body) (dk_ rfl) ?_
            refine df_ (i := 10) rfl k_ k_ k_ b_ (by (repeat (first | refine pani_then ?_ | refine pani_block ?_)); exact pani_body) (dq_ rfl rfl) ?_
            refine df_ (i := 11) rfl k_ k_ k_ b_ (by (repeat (first | refine pani_then ?_ | refine pani_block ?_)); exact pani_body) (dq_ rfl rfl) ?_
            refine df_ (i := 12) rfl k_ k_ k_ b_ (by (repeat (first | refine pani_then ?_ | refine pani_block ?_)); exact pani_body) (dq_ rfl rfl) ?_
            refine dh_ (i := 14) r_ k_ (bk_ 0 r_ r_ r_ r_ r_ r_ ⟨?_, ?_⟩)
            exact keep0
            refine df_ (i := 15) rfl k_ k_ k_ b_ (by (repeat (first | refine pani_then ?_ | refine pani_block ?_)); exact pani_body) (hok_assign rfl) ?_
            refine df_ (i := 16) rfl k_ k_ k_ b_ (by (repeat (first | refine pani_then ?_ | refine pani_block ?_)); exact pani_body) (hok_assign rfl) ?_
            refine hp_done k_ ?_
            rotate_left
            refine hs_v (bl_ rfl rfl (fun bl => ⟨?_, ?_⟩))
            exact keep0
            refine dg_ (i := 7) rfl k_ b_ (ow_strcat rfl rfl (by rw [ByteArray.size_append, show (⟨#[10]⟩ : ByteArray).size = 1 from rfl] ; omega) ⟨?_, ?_⟩)
            exact keep0
            refine dg_ (i := 8) r_ k_ b_ (bm_ r_ (hPa _ h_) ⟨?_, ?_⟩)
            exact keep0
            refine df_ (i := 9) rfl k_ k_ k_ b_ (by (repeat (first | refine pani_then ?_ | refine pani_block ?_)); exact pani_body) (dk_ rfl) ?_
            refine df_ (i := 10) rfl k_ k_ k_ b_ (by (repeat (first | refine pani_then ?_ | refine pani_block ?_)); exact pani_body) (dq_ rfl rfl) ?_
            refine df_ (i := 11) rfl k_ k_ k_ b_ (by (repeat (first | refine pani_then ?_ | refine pani_block ?_)); exact pani_body) (dq_ rfl rfl) ?_
            refine df_ (i := 12) rfl k_ k_ k_ b_ (by (repeat (first | refine pani_then ?_ | refine pani_block ?_)); exact pani_body) (dq_ rfl rfl) ?_
            refine dh_ (i := 14) r_ k_ (bk_ 0 r_ r_ r_ r_ r_ r_ ⟨?_, ?_⟩)
            exact keep0
            refine df_ (i := 15) rfl k_ k_ k_ b_ (by (repeat (first | refine pani_then ?_ | refine pani_block ?_)); exact pani_body) (hok_assign rfl) ?_
            refine df_ (i := 16) rfl k_ k_ k_ b_ (by (repeat (first | refine pani_then ?_ | refine pani_block ?_)); exact pani_body) (hok_assign rfl) ?_
            refine hp_done k_ ?_
            rotate_left
            refine hs_v (bl_ rfl rfl (fun bl => ⟨?_, ?_⟩))
            exact keep0
            refine dg_ (i := 4) rfl k_ b_ (ow_strcat rfl rfl (by rw [show (⟨#[10]⟩ : ByteArray).size = 1 from rfl] ; omega) ⟨?_, ?_⟩)
            exact keep0
            refine dg_ (i := 7) rfl k_ b_ (ow_strcat rfl rfl (by rw [ByteArray.size_append, show (⟨#[10]⟩ : ByteArray).size = 1 from rfl] ; omega) ⟨?_, ?_⟩)
            exact keep0
            refine dg_ (i := 8) r_ k_ b_ (bm_ r_ (hPa _ h_) ⟨?_, ?_⟩)
            exact keep0
            refine df_ (i := 9) rfl k_ k_ k_ b_ (by (repeat (first | refine pani_then ?_ | refine pani_block ?_)); exact pani_body) (dk_ rfl) ?_
            refine df_ (i := 10) rfl k_ k_ k_ b_ (by (repeat (first | refine pani_then ?_ | refine pani_block ?_)); exact pani_body) (dq_ rfl rfl) ?_
            refine df_ (i := 11) rfl k_ k_ k_ b_ (by (repeat (first | refine pani_then ?_ | refine pani_block ?_)); exact pani_body) (dq_ rfl rfl) ?_
            refine df_ (i := 12) rfl k_ k_ k_ b_ (by (repeat (first | refine pani_then ?_ | refine pani_block ?_)); exact pani_body) (dq_ rfl rfl) ?_
            refine dh_ (i := 14) r_ k_ (bk_ 0 r_ r_ r_ r_ r_ r_ ⟨?_, ?_⟩)
            exact keep0
            refine df_ (i := 15) rfl k_ k_ k_ b_ (by (repeat (first | refine pani_then ?_ | refine pani_block ?_)); exact pani_body) (hok_assign rfl) ?_
            refine df_ (i := 16) rfl k_ k_ k_ b_ (by (repeat (first | refine pani_then ?_ | refine pani_block ?_)); exact pani_body) (hok_assign rfl) ?_
            refine hp_done k_ ?_
            rotate_left
            refine hs_v (bl_ rfl rfl (fun bl => ⟨?_, ?_⟩))
            exact keep0
            refine hp_br2 (i := 4) (j := 6) rfl rfl k_ rfl ?_ ?_
            refine hs_v (ow_strcat rfl rfl (by rw [show (⟨#[10]⟩ : ByteArray).size = 1 from rfl] ; omega) ⟨?_, ?_⟩)
            exact keep0
            refine dg_ (i := 6) rfl k_ b_ (bt_ [] rfl rfl (words_c R hR) (fun pp hpp => ⟨?_, ?_⟩))
            exact keep0
            refine dg_ (i := 7) rfl k_ b_ (ow_strcat rfl rfl (by rw [ByteArray.size_append, show (⟨#[10]⟩ : ByteArray).size = 1 from rfl] ; omega) ⟨?_, ?_⟩)
            exact keep0
            refine dg_ (i := 8) r_ k_ b_ (bm_ r_ (hPa _ h_) ⟨?_, ?_⟩)
            exact keep0
            refine df_ (i := 9) rfl k_ k_ k_ b_ (by (repeat (first | refine pani_then ?_ | refine pani_block ?_)); exact pani_body) (dk_ rfl) ?_
            refine df_ (i := 10) rfl k_ k_ k_ b_ (by (repeat (first | refine pani_then ?_ | refine pani_block ?_)); exact pani_body) (dq_ rfl rfl) ?_
            refine df_ (i := 11) rfl k_ k_ k_ b_ (by (repeat (first | refine pani_then ?_ | refine pani_block ?_)); exact pani_body) (dq_ rfl rfl) ?_
            refine df_ (i := 12) rfl k_ k_ k_ b_ (by (repeat (first | refine pani_then ?_ | refine pani_block ?_)); exact pani_body) (dq_ rfl rfl) ?_
            refine dh_ (i := 14) r_ k_ (bk_ 0 r_ r_ r_ r_ r_ r_ ⟨?_, ?_⟩)
            exact keep0
            refine df_ (i := 15) rfl k_ k_ k_ b_ (by (repeat (first | refine pani_then ?_ | refine pani_block ?_)); exact pani_body) (hok_assign rfl) ?_
            refine df_ (i := 16) rfl k_ k_ k_ b_ (by (repeat (first | refine pani_then ?_ | refine pani_block ?_)); exact pani_body) (hok_assign rfl) ?_
            refine hp_done k_ ?_
            rotate_left
            refine hs_v (bt_ [] rfl rfl (words_c R hR) (fun pp hpp => ⟨?_, ?_⟩))
            exact keep0
            refine dg_ (i := 4) rfl k_ b_ (ow_strcat rfl rfl (by rw [show (⟨#[10]⟩ : ByteArray).size = 1 from rfl] ; omega) ⟨?_, ?_⟩)
            exact keep0
            refine dg_ (i := 7) rfl k_ b_ (ow_strcat rfl rfl (by rw [ByteArray.size_append, show (⟨#[10]⟩ : ByteArray).size = 1 from rfl] ; omega) ⟨?_, ?_⟩)
            exact keep0
            refine dg_ (i := 8) r_ k_ b_ (bm_ r_ (hPa _ h_) ⟨?_, ?_⟩)
            exact keep0
            refine df_ (i := 9) rfl k_ k_ k_ b_ (by (repeat (first | refine pani_then ?_ | refine pani_block ?_)); exact pani_body) (dk_ rfl) ?_
            refine df_ (i := 10) rfl k_ k_ k_ b_ (by (repeat (first | refine pani_then ?_ | refine pani_block ?_)); exact pani_body) (dq_ rfl rfl) ?_
            refine df_ (i := 11) rfl k_ k_ k_ b_ (by (repeat (first | refine pani_then ?_ | refine pani_block ?_)); exact pani_body) (dq_ rfl rfl) ?_
            refine df_ (i := 12) rfl k_ k_ k_ b_ (by (repeat (first | refine pani_then ?_ | refine pani_block ?_)); exact pani_body) (dq_ rfl rfl) ?_
            refine dh_ (i := 14) r_ k_ (bk_ 0 r_ r_ r_ r_ r_ r_ ⟨?_, ?_⟩)
            exact keep0
            refine df_ (i := 15) rfl k_ k_ k_ b_ (by (repeat (first | refine pani_then ?_ | refine pani_block ?_)); exact pani_body) (hok_assign rfl) ?_
            refine df_ (i := 16) rfl k_ k_ k_ b_ (by (repeat (first | refine pani_then ?_ | refine pani_block ?_)); exact pani_body) (hok_assign rfl) ?_
            refine hp_done k_ ?_
            rotate_left
            refine hs_v (bt_ [] rfl rfl (words_c R hR) (fun pp hpp => ⟨?_, ?_⟩))
            exact keep0
            refine hp_br2 (i := 3) (j := 13) rfl rfl k_ rfl ?_ ?_
            refine hs_v (ow_bytesToString (l := M.take e) rfl rfl (by rw [← eT] ; rfl) ⟨?_, ?_⟩)
            exact keep0
            refine hp_br2 (i := 4) (j := 13) rfl rfl k_ rfl ?_ ?_
            refine hs_v (ow_strcat rfl rfl (by rw [show (⟨#[10]⟩ : ByteArray).size = 1 from rfl] ; omega) ⟨?_, ?_⟩)
            exact keep0
            refine hp_br2 (i := 7) (j := 13) rfl rfl k_ rfl ?_ ?_
            refine hs_v (ow_strcat rfl rfl (by rw [ByteArray.size_append, show (⟨#[10]⟩ : ByteArray).size = 1 from rfl] ; omega) ⟨?_, ?_⟩)
            exact keep0
            refine hp_br2 (i := 8) (j := 13) rfl rfl k_ rfl ?_ ?_
            refine hs_v (bm_ rfl (hPa _ h_) ⟨?_, ?_⟩)
            exact keep0
            refine df_ (i := 9) rfl k_ k_ k_ b_ (by (repeat (first | refine pani_then ?_ | refine pani_block ?_)); exact pani_body) (dk_ rfl) ?_
            refine df_ (i := 10) rfl k_ k_ k_ b_ (by (repeat (first | refine pani_then ?_ | refine pani_block ?_)); exact pani_body) (dq_ rfl rfl) ?_
            refine df_ (i := 11) rfl k_ k_ k_ b_ (by (repeat (first | refine pani_then ?_ | refine pani_block ?_)); exact pani_body) (dq_ rfl rfl) ?_
            refine df_ (i := 12) rfl k_ k_ k_ b_ (by (repeat (first | refine pani_then ?_ | refine pani_block ?_)); exact pani_body) (dq_ rfl rfl) ?_
            refine dg_ (i := 13) r_ k_ b_ (bl_ r_ r_ (fun bl => ⟨?_, ?_⟩))
            exact keep0
            refine dh_ (i := 14) r_ k_ (bk_ 0 r_ r_ r_ r_ r_ r_ ⟨?_, ?_⟩)
            exact keep0
            refine df_ (i := 15) rfl k_ k_ k_ b_ (by (repeat (first | refine pani_then ?_ | refine pani_block ?_)); exact pani_body) (hok_assign rfl) ?_
            refine df_ (i := 16) rfl k_ k_ k_ b_ (by (repeat (first | refine pani_then ?_ | refine pani_block ?_)); exact pani_body) (hok_assign rfl) ?_
            refine hp_done k_ ?_
            rotate_left
            refine hs_v (bl_ rfl rfl (fun bl => ⟨?_, ?_⟩))
            exact keep0
            refine dg_ (i := 8) r_ k_ b_ (bm_ r_ (hPa _ h_) ⟨?_, ?_⟩)
            exact keep0
            refine df_ (i := 9) rfl k_ k_ k_ b_ (by (repeat (first | refine pani_then ?_ | refine pani_block ?_)); exact pani_body) (dk_ rfl) ?_
            refine df_ (i := 10) rfl k_ k_ k_ b_ (by (repeat (first | refine pani_then ?_ | refine pani_block ?_)); exact pani_body) (dq_ rfl rfl) ?_
            refine df_ (i := 11) rfl k_ k_ k_ b_ (by (repeat (first | refine pani_then ?_ | refine pani_block ?_)); exact pani_body) (dq_ rfl rfl) ?_
            refine df_ (i := 12) rfl k_ k_ k_ b_ (by (repeat (first | refine pani_then ?_ | refine pani_block ?_)); exact pani_body) (dq_ rfl rfl) ?_
            refine dh_ (i := 14) r_ k_ (bk_ 0 r_ r_ r_ r_ r_ r_ ⟨?_, ?_⟩)
            exact keep0
            refine df_ (i := 15) rfl k_ k_ k_ b_ (by (repeat (first | refine pani_then ?_ | refine pani_block ?_)); exact pani_body) (hok_assign rfl) ?_
            refine df_ (i := 16) rfl k_ k_ k_ b_ (by (repeat (first | refine pani_then ?_ | refine pani_block ?_)); exact pani_body) (hok_assign rfl) ?_
            refine hp_done k_ ?_
            rotate_left
            refine hs_v (bl_ rfl rfl (fun bl => ⟨?_, ?_⟩))
            exact keep0
            refine dg_ (i := 7) rfl k_ b_ (ow_strcat rfl rfl (by rw [ByteArray.size_append, show (⟨#[10]⟩ : ByteArray).size = 1 from rfl] ; omega) ⟨?_, ?_⟩)
            exact keep0
            refine dg_ (i := 8) r_ k_ b_ (bm_ r_ (hPa _ h_) ⟨?_, ?_⟩)
            exact keep0
            refine df_ (i := 9) rfl k_ k_ k_ b_ (by (repeat (first | refine pani_then ?_ | refine pani_block ?_)); exact pani_body) (dk_ rfl) ?_
            refine df_ (i := 10) rfl k_ k_ k_ b_ (by (repeat (first | refine pani_then ?_ | refine pani_block ?_)); exact pani_body) (dq_ rfl rfl) ?_
            refine df_ (i := 11) rfl k_ k_ k_ b_ (by (repeat (first | refine pani_then ?_ | refine pani_block ?_)); exact pani_body) (dq_ rfl rfl) ?_
            refine df_ (i := 12) rfl k_ k_ k_ b_ (by (repeat (first | refine pani_then ?_ | refine pani_block ?_)); exact pani_body) (dq_ rfl rfl) ?_
            refine dh_ (i := 14) r_ k_ (bk_ 0 r_ r_ r_ r_ r_ r_ ⟨?_, ?_⟩)
            exact keep0
            refine df_ (i := 15) rfl k_ k_ k_ b_ (by (repeat (first | refine pani_then ?_ | refine pani_block ?_)); exact pani_body) (hok_assign rfl) ?_
            refine df_ (i := 16) rfl k_ k_ k_ b_ (by (repeat (first | refine pani_then ?_ | refine pani_block ?_)); exact pani_body) (hok_assign rfl) ?_
            refine hp_done k_ ?_
            rotate_left
            refine hs_v (bl_ rfl rfl (fun bl => ⟨?_, ?_⟩))
            exact keep0
            refine dg_ (i := 4) rfl k_ b_ (ow_strcat rfl rfl (by rw [show (⟨#[10]⟩ : ByteArray).size = 1 from rfl] ; omega) ⟨?_, ?_⟩)
            exact keep0
            refine dg_ (i := 7) rfl k_ b_ (ow_strcat rfl rfl (by rw [ByteArray.size_append, show (⟨#[10]⟩ : ByteArray).size = 1 from rfl] ; omega) ⟨?_, ?_⟩)
            exact keep0
            refine dg_ (i := 8) r_ k_ b_ (bm_ r_ (hPa _ h_) ⟨?_, ?_⟩)
            exact keep0
            refine df_ (i := 9) rfl k_ k_ k_ b_ (by (repeat (first | refine pani_then ?_ | refine pani_block ?_)); exact pani_body) (dk_ rfl) ?_
            refine df_ (i := 10) rfl k_ k_ k_ b_ (by (repeat (first | refine pani_then ?_ | refine pani_block ?_)); exact pani_body) (dq_ rfl rfl) ?_
            refine df_ (i := 11) rfl k_ k_ k_ b_ (by (repeat (first | refine pani_then ?_ | refine pani_block ?_)); exact pani_body) (dq_ rfl rfl) ?_
            refine df_ (i := 12) rfl k_ k_ k_ b_ (by (repeat (first | refine pani_then ?_ | refine pani_block ?_)); exact pani_body) (dq_ rfl rfl) ?_
            refine dh_ (i := 14) r_ k_ (bk_ 0 r_ r_ r_ r_ r_ r_ ⟨?_, ?_⟩)
            exact keep0
            refine df_ (i := 15) rfl k_ k_ k_ b_ (by (repeat (first | refine pani_then ?_ | refine pani_block ?_)); exact pani_body) (hok_assign rfl) ?_
            refine df_ (i := 16) rfl k_ k_ k_ b_ (by (repeat (first | refine pani_then ?_ | refine pani_block ?_)); exact pani_body) (hok_assign rfl) ?_
            refine hp_done k_ ?_
            rotate_left
            refine hs_v (bl_ rfl rfl (fun bl => ⟨?_, ?_⟩))
            exact keep0
            refine dg_ (i := 3) rfl k_ b_ (ow_bytesToString (l := M.take e) rfl rfl (by rw [← eT] ; rfl) ⟨?_, ?_⟩)
            exact keep0
            refine dg_ (i := 4) rfl k_ b_ (ow_strcat rfl rfl (by rw [show (⟨#[10]⟩ : ByteArray).size = 1 from rfl] ; omega) ⟨?_, ?_⟩)
            exact keep0
            refine dg_ (i := 7) rfl k_ b_ (ow_strcat rfl rfl (by rw [ByteArray.size_append, show (⟨#[10]⟩ : ByteArray).size = 1 from rfl] ; omega) ⟨?_, ?_⟩)
            exact keep0
            refine dg_ (i := 8) r_ k_ b_ (bm_ r_ (hPa _ h_) ⟨?_, ?_⟩)
            exact keep0
            refine df_ (i := 9) rfl k_ k_ k_ b_ (by (repeat (first | refine pani_then ?_ | refine pani_block ?_)); exact pani_body) (dk_ rfl) ?_
            refine df_ (i := 10) rfl k_ k_ k_ b_ (by (repeat (first | refine pani_then ?_ | refine pani_block ?_)); exact pani_body) (dq_ rfl rfl) ?_
            refine df_ (i := 11) rfl k_ k_ k_ b_ (by (repeat (first | refine pani_then ?_ | refine pani_block ?_)); exact pani_body) (dq_ rfl rfl) ?_
            refine df_ (i := 12) rfl k_ k_ k_ b_ (by (repeat (first | refine pani_then ?_ | refine pani_block ?_)); exact pani_body) (dq_ rfl rfl) ?_
            refine dh_ (i := 14) r_ k_ (bk_ 0 r_ r_ r_ r_ r_ r_ ⟨?_, ?_⟩)
            exact keep0
            refine df_ (i := 15) rfl k_ k_ k_ b_ (by (repeat (first | refine pani_then ?_ | refine pani_block ?_)); exact pani_body) (hok_assign rfl) ?_
            refine df_ (i := 16) rfl k_ k_ k_ b_ (by (repeat (first | refine pani_then ?_ | refine pani_block ?_)); exact pani_body) (hok_assign rfl) ?_
            refine hp_done k_ ?_
            rotate_left
            refine hs_v (bl_ rfl rfl (fun bl => ⟨?_, ?_⟩))
            exact keep0
            refine hp_br2 (i := 3) (j := 6) rfl rfl k_ rfl ?_ ?_
            refine hs_v (ow_bytesToString (l := M.take e) rfl rfl (by rw [← eT] ; rfl) ⟨?_, ?_⟩)
            exact keep0
            refine hp_br2 (i := 4) (j := 6) rfl rfl k_ rfl ?_ ?_
            refine hs_v (ow_strcat rfl rfl (by rw [show (⟨#[10]⟩ : ByteArray).size = 1 from rfl] ; omega) ⟨?_, ?_⟩)
            exact keep0
            refine dg_ (i := 6) rfl k_ b_ (bt_ [] rfl rfl (words_c R hR) (fun pp hpp => ⟨?_, ?_⟩))
            exact keep0
            refine dg_ (i := 7) rfl k_ b_ (ow_strcat rfl rfl (by rw [ByteArray.size_append, show (⟨#[10]⟩ : ByteArray).size = 1 from rfl] ; omega) ⟨?_, ?_⟩)
            exact keep0
            refine dg_ (i := 8) r_ k_ b_ (bm_ r_ (hPa _ h_) ⟨?_, ?_⟩)
            exact keep0
            refine df_ (i := 9) rfl k_ k_ k_ b_ (by (repeat (first | refine pani_then ?_ | refine pani_block ?_)); exact pani_body) (dk_ rfl) ?_
            refine df_ (i := 10) rfl k_ k_ k_ b_ (by (repeat (first | refine pani_then ?_ | refine pani_block ?_)); exact pani_body) (dq_ rfl rfl) ?_
            refine df_ (i := 11) rfl k_ k_ k_ b_ (by (repeat (first | refine pani_then ?_ | refine pani_block ?_)); exact pani_body) (dq_ rfl rfl) ?_
            refine df_ (i := 12) rfl k_ k_ k_ b_ (by (repeat (first | refine pani_then ?_ | refine pani_block ?_)); exact pani_body) (dq_ rfl rfl) ?_
            refine dh_ (i := 14) r_ k_ (bk_ 0 r_ r_ r_ r_ r_ r_ ⟨?_, ?_⟩)
            exact keep0
            refine df_ (i := 15) rfl k_ k_ k_ b_ (by (repeat (first | refine pani_then ?_ | refine pani_block ?_)); exact pani_body) (hok_assign rfl) ?_
            refine df_ (i := 16) rfl k_ k_ k_ b_ (by (repeat (first | refine pani_then ?_ | refine pani_block ?_)); exact pani_body) (hok_assign rfl) ?_
            refine hp_done k_ ?_
            rotate_left
            refine hs_v (bt_ [] rfl rfl (words_c R hR) (fun pp hpp => ⟨?_, ?_⟩))
            exact keep0
            refine dg_ (i := 4) rfl k_ b_ (ow_strcat rfl rfl (by rw [show (⟨#[10]⟩ : ByteArray).size = 1 from rfl] ; omega) ⟨?_, ?_⟩)
            exact keep0
            refine dg_ (i := 7) rfl k_ b_ (ow_strcat rfl rfl (by rw [ByteArray.size_append, show (⟨#[10]⟩ : ByteArray).size = 1 from rfl] ; omega) ⟨?_, ?_⟩)
            exact keep0
            refine dg_ (i := 8) r_ k_ b_ (bm_ r_ (hPa _ h_) ⟨?_, ?_⟩)
            exact keep0
            refine df_ (i := 9) rfl k_ k_ k_ b_ (by (repeat (first | refine pani_then ?_ | refine pani_block ?_)); exact pani_body) (dk_ rfl) ?_
            refine df_ (i := 10) rfl k_ k_ k_ b_ (by (repeat (first | refine pani_then ?_ | refine pani_block ?_)); exact pani_body) (dq_ rfl rfl) ?_
            refine df_ (i := 11) rfl k_ k_ k_ b_ (by (repeat (first | refine pani_then ?_ | refine pani_block ?_)); exact pani_body) (dq_ rfl rfl) ?_
            refine df_ (i := 12) rfl k_ k_ k_ b_ (by (repeat (first | refine pani_then ?_ | refine pani_block ?_)); exact pani_body) (dq_ rfl rfl) ?_
            refine dh_ (i := 14) r_ k_ (bk_ 0 r_ r_ r_ r_ r_ r_ ⟨?_, ?_⟩)
            exact keep0
            refine df_ (i := 15) rfl k_ k_ k_ b_ (by (repeat (first | refine pani_then ?_ | refine pani_block ?_)); exact pani_body) (hok_assign rfl) ?_
            refine df_ (i := 16) rfl k_ k_ k_ b_ (by (repeat (first | refine pani_then ?_ | refine pani_block ?_)); exact pani_body) (hok_assign rfl) ?_
            refine hp_done k_ ?_
            rotate_left
            refine hs_v (bt_ [] rfl rfl (words_c R hR) (fun pp hpp => ⟨?_, ?_⟩))
            exact keep0
            refine dg_ (i := 3) rfl k_ b_ (ow_bytesToString (l := M.take e) rfl rfl (by rw [← eT] ; rfl) ⟨?_, ?_⟩)
            exact keep0
            refine dg_ (i := 4) rfl k_ b_ (ow_strcat rfl rfl (by rw [show (⟨#[10]⟩ : ByteArray).size = 1 from rfl] ; omega) ⟨?_, ?_⟩)
            exact keep0
            refine dg_ (i := 7) rfl k_ b_ (ow_strcat rfl rfl (by rw [ByteArray.size_append, show (⟨#[10]⟩ : ByteArray).size = 1 from rfl] ; omega) ⟨?_, ?_⟩)
            exact keep0
            refine dg_ (i := 8) r_ k_ b_ (bm_ r_ (hPa _ h_) ⟨?_, ?_⟩)
            exact keep0
            refine df_ (i := 9) rfl k_ k_ k_ b_ (by (repeat (first | refine pani_then ?_ | refine pani_block ?_)); exact pani_body) (dk_ rfl) ?_
            refine df_ (i := 10) rfl k_ k_ k_ b_ (by (repeat (first | refine pani_then ?_ | refine pani_block ?_)); exact pani_body) (dq_ rfl rfl) ?_
            refine df_ (i := 11) rfl k_ k_ k_ b_ (by (repeat (first | refine pani_then ?_ | refine pani_block ?_)); exact pani_body) (dq_ rfl rfl) ?_
            refine df_ (i := 12) rfl k_ k_ k_ b_ (by (repeat (first | refine pani_then ?_ | refine pani_block ?_)); exact pani_body) (dq_ rfl rfl) ?_
            refine dh_ (i := 14) r_ k_ (bk_ 0 r_ r_ r_ r_ r_ r_ ⟨?_, ?_⟩)
            exact keep0
            refine df_ (i := 15) rfl k_ k_ k_ b_ (by (repeat (first | refine pani_then ?_ | refine pani_block ?_)); exact pani_body) (hok_assign rfl) ?_
            refine df_ (i := 16) rfl k_ k_ k_ b_ (by (repeat (first | refine pani_then ?_ | refine pani_block ?_)); exact pani_body) (hok_assign rfl) ?_
            refine hp_done k_ ?_
            rotate_left
            · refine jq_cutS () trivial ?_ ?_
              · exact sub_end
              · (repeat (first | exact True.intro | refine ⟨rfl, ?_⟩))
            · refine jq_cutS () trivial ?_ ?_
              · exact sub_end
              · (repeat (first | exact True.intro | refine ⟨rfl, ?_⟩))
            · refine jq_cutS () trivial ?_ ?_
              · exact sub_end
              · (repeat (first | exact True.intro | refine ⟨rfl, ?_⟩))
            · refine jq_cutS () trivial ?_ ?_
              · exact sub_end
              · (repeat (first | exact True.intro | refine ⟨rfl, ?_⟩))
            · refine jq_cutS () trivial ?_ ?_
              · exact sub_end
              · (repeat (first | exact True.intro | refine ⟨rfl, ?_⟩))
            · refine jq_cutS () trivial ?_ ?_
              · exact sub_end
              · (repeat (first | exact True.intro | refine ⟨rfl, ?_⟩))
            · refine jq_cutS () trivial ?_ ?_
              · exact sub_end
              · (repeat (first | exact True.intro | refine ⟨rfl, ?_⟩))
            · refine jq_cutS () trivial ?_ ?_
              · exact sub_end
              · (repeat (first | exact True.intro | refine ⟨rfl, ?_⟩))
            · refine jq_cutS () trivial ?_ ?_
              · exact sub_end
              · (repeat (first | exact True.intro | refine ⟨rfl, ?_⟩))
            · refine jq_cutS () trivial ?_ ?_
              · exact sub_end
              · (repeat (first | exact True.intro | refine ⟨rfl, ?_⟩))
            · refine jq_cutS () trivial ?_ ?_
              · exact sub_end
              · (repeat (first | exact True.intro | refine ⟨rfl, ?_⟩))
            · refine jq_cutS () trivial ?_ ?_
              · exact sub_end
              · (repeat (first | exact True.intro | refine ⟨rfl, ?_⟩))
            · refine jq_cutS () trivial ?_ ?_
              · exact sub_end
              · (repeat (first | exact True.intro | refine ⟨rfl, ?_⟩))
            · refine jq_cutS () trivial ?_ ?_
              · exact sub_end
              · (repeat (first | exact True.intro | refine ⟨rfl, ?_⟩))
            · refine jq_cutS () trivial ?_ ?_
              · exact sub_end
              · (repeat (first | exact True.intro | refine ⟨rfl, ?_⟩))
            · refine jq_cutS () trivial ?_ ?_
              · exact sub_end
              · (repeat (first | exact True.intro | refine ⟨rfl, ?_⟩))
            · refine jq_cutS () trivial ?_ ?_
              · exact sub_end
              · (repeat (first | exact True.intro | refine ⟨rfl, ?_⟩))
            · refine jq_cutS () trivial ?_ ?_
              · exact sub_end
              · (repeat (first | exact True.intro | refine ⟨rfl, ?_⟩))
          intro _ _
          refine R_ (M_ r_ (o_ r_ (bn_ r_ r_ (M_ r_ (ah_ r_ r_ b_ (bd_ r_ (ah_ r_ r_ b_ (bd_ r_ (ah_ r_ r_ b_ (bn_ r_ r_ (o_ r_ (bp_ r_ x_ r_ (M_ r_ (ah_ r_ x_ b_ (bm_ r_ (ha) (o_ r_ (bp_ r_ x_ r_ (E_ r_ (T_ (ar_ (jq_ret1 rfl rfl [] rfl (fun K h => h))))))))))))))))))))))
      · refine am_ (R_ (M_ r_ (M_ r_ (o_ r_ (br_ r_ (fun hlen => o_ r_ (bw_ r_ r_ (T_ (ap_ r_ w_ (av_ (ax_ (ax_ (ba_ (al_ (am_ (R_ (M_ r_ ?_)))))))))))))))))
        refine o_ r_ (bw_ r_ r_ (M_ r_ (ah_ r_ w_ b_ (bd_ r_ (ah_ r_ w_ b_ (bd_ r_ (ah_ r_ w_ b_ (bz_ r_ r_ (o_ r_ (bv_ r_ w_ r_ (T_ (ap_ r_ w_ (as_ (al_ (am_ (R_ (M_ r_ (o_ r_ (bx_ r_ r_ (M_ r_ (ai_ r_ u_ b_ ?_)))))))))))))))))))))
        refine ai_ r_ u_ b_ (ai_ r_ u_ b_ (ai_ r_ u_ b_ (o_ r_ (bp_ r_ u_ r_ (T_ (aq_ r_ r_ (R_ (o_ r_ (bm_ r_ (ha) (E_ r_ (T_ (ar_ (aw_ (jq_ret1 rfl rfl [] rfl (fun K h => h)))))))))))))))
  · have hd : (!decide (L.length ≤ 400)) = true := by simp [hLn]
    refine R_ (E_ r_ (T_ (am_ (R_ (M_ r_ (o_ r_ (bm_ r_ (gFew_c _) (o_ r_ (ce_ r_ (T_ (aq_ r_ u_ (R_ (o_ r_ (bm_ r_ (ha) (E_ r_ (T_ (ar_ (aw_ ?_))))))))))))))))))
    refine jq_ret1 rfl rfl [] rfl (fun K h => h)
end Go.Proofs.YtlniadfidfmckaaDoor
end

section
namespace Go.Vc
open Go.ChangeShapes Go.WideShapes Go.ChangeAt Go.RowKit Go.Joins Go.Deep

theorem strs_inj {H : Type} : ∀ {a b : List ByteArray}, (strs a : List (DataW H)) = strs b → a = b
  | [], [], _ => rfl
  | [], _ :: _, h => by simp [strs] at h
  | _ :: _, [], h => by simp [strs] at h
  | x :: a, y :: b, h => by
    simp only [strs, List.map_cons, List.cons.injEq, DataW.lit.injEq, Lit.string.injEq] at h
    have e : x = y := by
      cases x; cases y
      simp only at h
      congr 1
      exact Array.ext' h.1
    subst e
    rw [strs_inj (H := H) (a := a) (b := b) h.2]

section
variable {H : Type} {enc : TypeId × Value → H} {P : Program}
/-- A slice of strings that reads so. -/
theorem rd_strings {W : World} {t e : TypeId} (ht : P.underlying t = some (.slice e)) (he : P.underlying e = some .string) (hc : P.cellsOf e = 1) {cs : List Value} {L : List ByteArray} {ps : List MemPlace} {base : Nat} {sp : Nat → Bool} {held : Bool} {fuel : Nat} (h0 : 0 < L.length)
    (h : DataW.trod enc P W base sp held fuel t cs = some ((.slice (strs L) [] : DataW H), ps)) : ∃ v, cs = [v] ∧ Rd1 W (fun _ => False) (.list (L.map fun s => [.val (.string s)])) v := by
  rcases open_strings ht he hc h with ⟨_, hx⟩ | ⟨a, len, cap, ss, rfl, _, hle, hcap, hz, hx, hcell, _⟩
  · cases hx
  · simp only [Prod.mk.injEq, DataW.slice.injEq] at hx
    have hL : L = ss.take len := strs_inj hx.1.1
    have hlen : L.length = len := by
      rw [hL, List.length_take]
      have : len ≤ ss.length := by rw [hz]; split <;> omega
      omega
    refine ⟨_, rfl, some a, cap, by rw [List.length_map, hlen], by rw [List.length_map, hlen]; exact hle, hcap, ?_⟩
    have hss : len ≤ ss.length := by rw [hz]; split <;> omega
    have h1 := hcell 0 (by omega)
    have hsp : a.spot = none := by simpa [Addr.add] using World.cell?_spot h1
    obtain ⟨b, off, sp⟩ := a
    simp only at hsp
    subst hsp
    refine .inr ⟨b, off, L.map Value.string, 1, rfl, id, ?_, Nat.one_pos, ?_⟩
    · intro j u hj
      rw [List.getElem?_map, Option.map_eq_some_iff] at hj
      obtain ⟨z, hz1, rfl⟩ := hj
      have hjl : j < L.length := (List.getElem?_eq_some_iff.1 hz1).1
      have := hcell j (by omega)
      rw [add_at] at this
      rw [this]
      congr 2
      rw [List.getD_eq_getElem?_getD]
      rw [hL, List.getElem?_take] at hz1
      split at hz1
      · rw [hz1]; rfl
      · cases hz1
    · clear hL hlen h0 h hx
      induction L with
      | nil => rfl
      | cons s L ih => exact ⟨[.string s], _, rfl, rfl, ⟨.string s, [], rfl, ⟨rfl, rfl⟩, rfl⟩, ih⟩
/-- An array of strings that reads so. -/
theorem cells_of_strs {w : World} {base : Nat} {sp : Nat → Bool} {held : Bool} {fuel : Nat} {t e : TypeId} {n : Nat} {cs : List Value} {L : List ByteArray} {p : List MemPlace}
    (ht : P.underlying t = some (.array n e)) (he : P.underlying e = some .string) (hce : P.cellsOf e = 1) (hct : P.cellsOf t = n)
    (h : DataW.trod enc P w base sp held fuel t cs = some ((.agg (strs L) : DataW H), p)) : cs = L.map Value.string := by
  cases fuel with
  | zero => simp [DataW.trod] at h
  | succ fuel =>
    simp only [DataW.trod, ht, hce, hct, Nat.mul_one] at h
    split at h
    · rename_i hl
      obtain ⟨xs, hm, hx⟩ := Option.map_eq_some_iff.1 h
      have hxs : xs.map (·.1) = (strs L : List (DataW H)) := by
        have := congrArg Prod.fst hx
        simpa using this
      have hxl : xs.length = n := by simpa using Lib.mapM_length hm
      have hzl : L.length = n := by
        have := congrArg List.length hxs
        simp [strs] at this
        omega
      apply List.ext_getElem?
      intro i
      by_cases hi : i < n
      · obtain ⟨b, hb, hf⟩ := Lib.mapM_at hm i i (by simp [hi])
        obtain ⟨z, hc, rfl, _⟩ := DataW.trod_string he hf
        have h1 : cs[i]? = some (.string z) := by
          have := congrArg (·[0]?) hc
          simpa [List.getElem?_take, List.getElem?_drop] using this
        have h2 : (xs.map (·.1))[i]? = some (DataW.lit (.string z.data.toList) : DataW H) := by simp [hb]
        rw [hxs] at h2
        simp only [strs, List.getElem?_map, Option.map_eq_some_iff, DataW.lit.injEq, Lit.string.injEq] at h2
        obtain ⟨z', hz', e⟩ := h2
        have e2 : z' = z := by
          cases z; cases z'
          simp only at e
          congr 1
          exact Array.ext' e
        subst e2
        simp [h1, hz']
      · rw [List.getElem?_eq_none (by omega), List.getElem?_eq_none (by simp; omega)]
    · cases h
theorem gv_of_var {W : World} {name : String} {g : Nat} {cs : Array Value} {row : List C} (hg : P.globalNamed name = some g) (hvar : W.var? P name = some cs) (hr : RdRow W (fun _ => False) row cs.toList) : GV W (fun _ => False) g row := by
  unfold World.var? at hvar
  rw [hg] at hvar
  simp only [Option.bind_some] at hvar
  split at hvar
  · rename_i cs' t f hh
    cases hvar
    exact ⟨id, _, t, f, hh, hr⟩
  · cases hvar
end

theorem rdRow_strs {W : World} {A : Nat → Prop} : ∀ L : List ByteArray, RdRow W A (L.map (fun s => .val (.string s))) (L.map Value.string)
  | [] => rfl
  | s :: L => ⟨.string s, _, rfl, ⟨rfl, rfl⟩, rdRow_strs L⟩

section
variable {H : Type} {enc : TypeId × Value → H} {P : Program}
/-- An array of two slices of strings that reads so. -/
theorem rd_two {W : World} {t ts e : TypeId} (ht : P.underlying t = some (.array 2 ts)) (hs : P.underlying ts = some (.slice e)) (he : P.underlying e = some .string) (hc : P.cellsOf e = 1) (hcs : P.cellsOf ts = 1) (hct : P.cellsOf t = 2) {cs : List Value} {A B : List ByteArray} {p : List MemPlace} {base : Nat} {sp : Nat → Bool} {held : Bool} {fuel : Nat} (hA : 0 < A.length) (hB : 0 < B.length)
    (h : DataW.trod enc P W base sp held fuel t cs = some ((.agg [.slice (strs A) [], .slice (strs B) []] : DataW H), p)) : ∃ u v, cs = [u, v] ∧ Rd1 W (fun _ => False) (.list (A.map fun s => [.val (.string s)])) u ∧ Rd1 W (fun _ => False) (.list (B.map fun s => [.val (.string s)])) v := by
  cases fuel with
  | zero => simp [DataW.trod] at h
  | succ fuel =>
    simp only [DataW.trod, ht, hcs, hct, Nat.mul_one] at h
    split at h
    · rename_i hl
      obtain ⟨xs, hm, hx⟩ := Option.map_eq_some_iff.1 h
      have hxs : xs.map (·.1) = [.slice (strs A) [], .slice (strs B) []] := by
        have := congrArg Prod.fst hx
        simpa using this
      obtain ⟨c0, c1, rfl⟩ : ∃ c0 c1, cs = [c0, c1] := by
        match cs, hl with
        | [c0, c1], _ => exact ⟨c0, c1, rfl⟩
      obtain ⟨b0, hb0, hf0⟩ := Lib.mapM_at hm 0 0 (by simp)
      obtain ⟨b1, hb1, hf1⟩ := Lib.mapM_at hm 1 1 (by simp)
      have k0 : b0.1 = .slice (strs A) [] := by
        have := congrArg (·[0]?) hxs
        simpa [hb0] using this
      have k1 : b1.1 = .slice (strs B) [] := by
        have := congrArg (·[1]?) hxs
        simpa [hb1] using this
      obtain ⟨x0, q0⟩ := b0
      obtain ⟨x1, q1⟩ := b1
      simp only at k0 k1
      subst k0 k1
      obtain ⟨u, hu, ru⟩ := rd_strings hs he hc hA hf0
      obtain ⟨v, hv, rv⟩ := rd_strings hs he hc hB hf1
      refine ⟨u, v, ?_, ru, rv⟩
      simp at hu hv
      rw [hu, hv]
    · cases h

end
end Go.Vc
end

section
namespace Go.Vc
open Go.RowKit Go.ChangeShapes Go.WideShapes

section
variable {H : Type} {enc : TypeId × Value → H} {P : Program}

/-- Arguments read as they did. -/
theorem args_stay (hl : laidOutB P = true) {W W' : World} (hb : Below W.heap.size W W') : ∀ {ts : List TypeId} {vs : List Value} {ds : List (DataW H)} {ps : List MemPlace}, ts.all (fun t => P.readableRec t && decide (t < P.types.size)) = true →
    DataW.TrodAll enc P W 0 (fun _ => true) true ts vs ds ps → (∀ p ∈ ps, p.block < W.heap.size) → DataW.TrodAll enc P W' 0 (fun b => decide (b < W.heap.size)) true ts vs ds ps
  | [], vs, ds, ps, _, h, _ => by
    obtain ⟨rfl, rfl, rfl⟩ := trodAll_nil h
    rfl
  | t :: ts, vs, ds, ps, hr, h, hlt => by
    simp only [List.all_cons, Bool.and_eq_true, decide_eq_true_eq] at hr
    obtain ⟨⟨h1, h2⟩, h3⟩ := hr
    obtain ⟨v, vr, d, dr, p, q, rfl, rfl, rfl, g1, g2⟩ := trodAll_cons h
    exact ⟨p, q, Below.trod hl h1 h2 g1 hb (fun x hx => hlt x (List.mem_append.2 (.inl hx))), args_stay hl hb h3 g2 (fun x hx => hlt x (List.mem_append.2 (.inr hx))), rfl⟩

/-- What a law's row asks behind the call: true, and each argument reads as it did. -/
theorem law_post {f : Func} {s : ChangeSpec} {W W' : World} {args : Array Value} {ds : List (DataW H)} {before : List MemPlace} {bt : TypeId} (hv : s.vars = []) (hW : DataW.Whole enc P f.params.toList s.vars false W args.toList ds [] before)
    (hr : (s.fn H (ds ++ [])).results = [.lit (.bool true)]) (ha : (s.fn H (ds ++ [])).args = ds) (hg : (s.fn H (ds ++ [])).vars = []) (hrt : f.resultTypes = #[bt]) (hbt : P.underlying bt = some .bool)
    (hl : laidOutB P = true) (hrd : f.params.toList.all (fun t => P.readableRec t && decide (t < P.types.size)) = true) (hb : Below W.heap.size W W') : s.post enc P f false true false false W args (.bool true) W' := by
  have hlt := hW.lt
  have hW' := hW
  obtain ⟨p, q, hA, hV, rfl, _, _⟩ := hW'
  rw [hv] at hV
  obtain ⟨_, rfl⟩ := trodVars_none hV
  refine ⟨ds, [], p ++ [], [], p, [], hW, ?_, ?_, ?_, World.keptBut_mono (fun x hx => ⟨hx, .inr (.inl (by simpa using hx))⟩) (hb.frame (· ∈ p ++ [])), fun h => by cases h⟩
  · rw [hr, hrt]
    exact trodAll_mk1 (shut_bool hbt _)
  · rw [ha]
    exact args_stay hl hb hrd hA (fun x hx => hlt x (by simpa using hx))
  · rw [hg, hv]
    rfl

/-- A slice of integers that came in. -/
theorem rd_ints {W : World} {t e : TypeId} {k : IntKind} (ht : P.underlying t = some (.slice e)) (he : P.underlying e = some (.int k)) (hc : P.cellsOf e = 1) {v : Value} {d : DataW H} {ps : List MemPlace} (hs : ∃ a len cap, v = .slice a len cap)
    (h : DataW.Trod enc P W 0 (fun _ => true) true t v d ps) : ∃ L : List Int, Rd1 W (fun _ => False) (.list (L.map (fun n => [.val (.int k n)]))) v ∧ ∀ n ∈ L, (Lit.int k n).wf = true := by
  obtain ⟨a0, len0, cap0, rfl⟩ := hs
  obtain ⟨fuel, hf⟩ := h
  rcases open_ints ht he hc hf with ⟨hn, _⟩ | ⟨a, len, cap, zs, hcs, _, hle, hcap, hz, _, hcell, hwf⟩
  · simp only [Value.cells, List.cons.injEq, Value.slice.injEq, and_true] at hn
    obtain ⟨rfl, rfl, rfl⟩ := hn
    exact ⟨[], ⟨none, 0, rfl, Nat.le_refl _, Nat.zero_le _, .inl rfl⟩, by simp⟩
  · simp only [Value.cells, List.cons.injEq, Value.slice.injEq, and_true] at hcs
    obtain ⟨rfl, rfl, rfl⟩ := hcs
    simp only [if_true] at hz
    have hlen : (zs.take len0).length = len0 := by simp; omega
    refine ⟨zs.take len0, ⟨some a, cap0, by rw [List.length_map, hlen], by rw [List.length_map, hlen]; exact hle, hcap, ?_⟩, fun n hn => hwf n (List.mem_of_mem_take hn)⟩
    by_cases h0 : len0 = 0
    · exact .inl (by rw [List.length_map, hlen]; exact h0)
    · have h1 := hcell 0 (by omega)
      have hsp : a.spot = none := by simpa [Addr.add] using World.cell?_spot h1
      obtain ⟨b, off, sp⟩ := a
      simp only at hsp
      subst hsp
      refine .inr ⟨b, off, (zs.take len0).map (Value.int k), 1, rfl, id, ?_, Nat.one_pos, ?_⟩
      · intro j u hj
        rw [List.getElem?_map, Option.map_eq_some_iff] at hj
        obtain ⟨z, hz1, rfl⟩ := hj
        rw [List.getElem?_take] at hz1
        split at hz1
        · have hjl : j < zs.length := by omega
          have := hcell j hjl
          rw [add_at] at this
          rw [this]
          congr 2
          rw [List.getD_eq_getElem?_getD, hz1]
          rfl
        · cases hz1
      · generalize zs.take len0 = L
        induction L with
        | nil => rfl
        | cons n L ih => exact ⟨[.int k n], L.map (Value.int k), rfl, rfl, ⟨_, _, rfl, ⟨rfl, rfl⟩, rfl⟩, ih⟩

/-- From a contract to a run. -/
theorem con_run [Gl P] {f : FuncId} {ss : List S} {vs : List Value} {W : World} (con : Con P f ss [] (fun K => K (Bl true) [])) (hs : SOks W (fun _ => False) ss vs) (hgl : Gl.ok P W (fun _ => False) := by exact trivial) : Calls P f vs.toArray W (fun e W' => e = .returned (.bool true) ∧ Below W.heap.size W W') := by
  refine (con vs W (fun _ => False) (fun _ h => h.elim) (by simp [hb]) (by simp [hb]) hs (by simp) hgl).mono ?_
  rintro e W' ⟨v, s, Ho, rfl, hK, hv, _, _, _, hg⟩
  obtain ⟨rfl, rfl⟩ := hK (fun s' H' => s' = Bl true ∧ H' = []) ⟨rfl, rfl⟩
  obtain ⟨rfl, _⟩ := hv
  exact ⟨rfl, hg.os, hg.tape, hg.output, hg.size, fun k hk => hg.block k hk (by simp [hb])⟩
end
end Go.Vc
end

section
namespace Go.Proofs.YtlniadfidfmckaaDoor
open Go.ChangeShapes Go.WideShapes Go.ChangeAt Go.RowKit Go.Vc Go.Joins Go.Deep

theorem own : ownKnob Tryd.prog.godebug = none := by kernel_rfl
theorem laidOut : laidOutB Tryd.prog = true := by kernel_rfl
theorem cells3 : Tryd.prog.cellsOf 3 = 1 := by kernel_rfl
theorem cells5 : Tryd.prog.cellsOf 5 = 1 := by kernel_rfl
theorem cellsS : Tryd.prog.cellsOf 9 = 1 := by kernel_rfl
theorem cellsLs : Tryd.prog.cellsOf 29 = 1 := by kernel_rfl
theorem wordsData_eq : (Rows.laid_timebound_tree_words : DataW Unit) = .slice (strs words) [] := by kernel_rfl
theorem signsData_eq : (Rows.laid_timebound_tree_signs : DataW Unit) = .agg (strs signL) := by kernel_rfl
theorem linesData_eq : (Rows.laid_timebound_parse_lines : DataW Unit) = .agg [.slice (strs addL) [], .slice (strs mulL) []] := by kernel_rfl
theorem cmpsData_eq : (Rows.laid_timebound_parse_comparisons : DataW Unit) = .slice (strs cmpL) [] := by kernel_rfl
theorem gWords : Tryd.prog.globalNamed "timebound/tree.words" = some 3 := by kernel_rfl
theorem gWordsType : (Tryd.prog.globals[3]?).map (·.type) = some 29 := by kernel_rfl
theorem gSigns : Tryd.prog.globalNamed "timebound/tree.signs" = some 2 := by kernel_rfl
theorem gSignsType : (Tryd.prog.globals[2]?).map (·.type) = some 134 := by kernel_rfl
theorem cellsSigns : Tryd.prog.cellsOf 134 = 14 := by kernel_rfl
theorem gLines : Tryd.prog.globalNamed "timebound/parse.lines" = some 1 := by kernel_rfl
theorem gLinesType : (Tryd.prog.globals[1]?).map (·.type) = some 126 := by kernel_rfl
theorem cellsLines : Tryd.prog.cellsOf 126 = 2 := by kernel_rfl
theorem gCmps : Tryd.prog.globalNamed "timebound/parse.comparisons" = some 0 := by kernel_rfl
theorem gCmpsType : (Tryd.prog.globals[0]?).map (·.type) = some 29 := by kernel_rfl
theorem gl_of {W : World} (h : laidMetH Tryd.prog Rows.parseLinesRow.laid W) : Gl.ok Tryd.prog W (fun _ => False) := by
  have h1 : laidMet Tryd.prog Rows.parseLinesRow.laid W := h
  have h2 := laidMet.tail h1
  have h3 := laidMet.tail h2
  have h4 := laidMet.tail h3
  rw [show Rows.parseLinesRow.laid = [("timebound/tree.words", Rows.laid_timebound_tree_words), ("timebound/tree.signs", Rows.laid_timebound_tree_signs), ("timebound/parse.lines", Rows.laid_timebound_parse_lines), ("timebound/parse.comparisons", Rows.laid_timebound_parse_comparisons)] from rfl, wordsData_eq] at h1
  rw [signsData_eq] at h2
  rw [linesData_eq] at h3
  rw [cmpsData_eq] at h4
  refine ⟨?_, ?_, ?_, ?_⟩
  · obtain ⟨ps, ⟨g', t', cs, fuel, p, q, hg', ht', hvar, hd, _, _⟩, _⟩ := h1
    obtain rfl := Option.some.inj (gWords.symm.trans hg')
    obtain rfl := Option.some.inj (gWordsType.symm.trans ht')
    obtain ⟨v, hcs, hr⟩ := rd_strings Tryd.underlying29 Tryd.underlying9 cellsS (by decide) hd
    exact gv_of_var gWords hvar (by rw [hcs]; exact ⟨v, [], rfl, hr, rfl⟩)
  · obtain ⟨ps, ⟨g', t', cs, fuel, p, q, hg', ht', hvar, hd, _, _⟩, _⟩ := h2
    obtain rfl := Option.some.inj (gSigns.symm.trans hg')
    obtain rfl := Option.some.inj (gSignsType.symm.trans ht')
    have e := cells_of_strs Tryd.underlying134 Tryd.underlying9 cellsS cellsSigns hd
    exact gv_of_var gSigns hvar (by rw [e]; exact rdRow_strs signL)
  · obtain ⟨ps, ⟨g', t', cs, fuel, p, q, hg', ht', hvar, hd, _, _⟩, _⟩ := h3
    obtain rfl := Option.some.inj (gLines.symm.trans hg')
    obtain rfl := Option.some.inj (gLinesType.symm.trans ht')
    obtain ⟨u, v, hcs, hu, hv⟩ := rd_two Tryd.underlying126 Tryd.underlying29 Tryd.underlying9 cellsS cellsLs cellsLines (by decide) (by decide) hd
    exact gv_of_var gLines hvar (by rw [hcs]; exact ⟨u, [v], rfl, hu, v, [], rfl, hv, rfl⟩)
  · obtain ⟨ps, ⟨g', t', cs, fuel, p, q, hg', ht', hvar, hd, _, _⟩, _⟩ := h4
    obtain rfl := Option.some.inj (gCmps.symm.trans hg')
    obtain rfl := Option.some.inj (gCmpsType.symm.trans ht')
    obtain ⟨v, hcs, hr⟩ := rd_strings Tryd.underlying29 Tryd.underlying9 cellsS (by decide) hd
    exact gv_of_var gCmps hvar (by rw [hcs]; exact ⟨v, [], rfl, hr, rfl⟩)
/-- A world for the witness: as the program's start lays it. -/
noncomputable def laidWorld (os : Os) : World := World.doorLaid Tryd.prog 400 os
theorem laid_met (os : Os) (args : Array Value) : laidMet Tryd.prog Rows.parseLinesRow.laid ((laidWorld os).forCall (fun _ _ => 0) ⟨#[], args, []⟩).memory :=
  laidMet_of_run' 8 (by kernel_rfl) (by kernel_rfl)
end Go.Proofs.YtlniadfidfmckaaDoor
end

section
namespace Go.Proofs.YtlniadfidfmckaaDoor.parseLines
open Go.ChangeShapes Go.WideShapes Go.ChangeAt Go.RowKit Go.Vc Go.Joins

set_option maxRecDepth 100000 in
theorem contract (H : Type) (enc : TypeId × Value → H) (W : World) (base : Nat) (args : Array Value) (ds gs : List (DataW H)) (before : List MemPlace)
    (hval : ∀ (j : Nat) t v, Tryd.f3.params[j]? = some t → args[j]? = some v → Value.okWide Tryd.prog W .any base t v)
    (hW : DataW.Whole enc Tryd.prog Tryd.f3.params.toList Rows.parseLinesSpec.vars false W args.toList ds gs before) (hL : laidMetH Tryd.prog Rows.parseLinesRow.laid W) :
    Calls Tryd.prog 3 args W fun e W' => ∃ v, e = .returned v ∧ Rows.parseLinesSpec.post enc Tryd.prog Tryd.f3 false true false false W args v W' := by
  have hW' := hW
  obtain ⟨p, q, hA0, hV, rfl, hfz, hnd⟩ := hW
  have hA : DataW.TrodAll enc Tryd.prog W 0 (fun _ => true) true Tryd.f3.params.toList args.toList ds p := hA0
  rw [Tryd.params3] at hA hval
  obtain ⟨v0, vs0, d0, ds0, p0, q0, hargs, rfl, rfl, h0, r0⟩ := trodAll_cons hA
  obtain ⟨v1, vs1, d1, ds1, p1, q1, rfl, rfl, rfl, h1, r1⟩ := trodAll_cons r0
  obtain ⟨v2, vs2, d2, ds2, p2, q2, rfl, rfl, rfl, h2, r2⟩ := trodAll_cons r1
  obtain ⟨v3, vs3, d3, ds3, p3, q3, rfl, rfl, rfl, h3, r3⟩ := trodAll_cons r2
  obtain ⟨v4, vs4, d4, ds4, p4, q4, rfl, rfl, rfl, h4, r4⟩ := trodAll_cons r3
  obtain ⟨rfl, rfl, rfl⟩ := trodAll_nil r4
  obtain rfl : args = #[v0, v1, v2, v3, v4] := by cases args; simp_all
  obtain ⟨rfl, rfl⟩ := trodVars_none hV
  obtain ⟨L0, hL0, hwf0⟩ := rd_ints Tryd.underlying22 Tryd.underlying3 cells3 (okWide_slice Tryd.underlying22 (hval 0 22 v0 rfl rfl)) h0
  have hn0 : ∀ n ∈ L0, -9223372036854775808 ≤ n ∧ n ≤ 9223372036854775807 := fun n hn => by simpa [Lit.wf, IntKind.min, IntKind.max, IntKind.signed, IntKind.bits] using hwf0 n hn
  obtain ⟨n1, rfl, rfl, rfl, w1⟩ := open_int Tryd.underlying3 (hval 1 3 v1 rfl rfl) h1
  have hn1 : -9223372036854775808 ≤ n1 ∧ n1 ≤ 9223372036854775807 := by simpa [Lit.wf, IntKind.min, IntKind.max, IntKind.signed, IntKind.bits] using w1
  obtain ⟨n2, rfl, rfl, rfl, w2⟩ := open_int Tryd.underlying5 (hval 2 5 v2 rfl rfl) h2
  have hn2 : 0 ≤ n2 ∧ n2 ≤ 255 := by simpa [Lit.wf, IntKind.min, IntKind.max, IntKind.signed, IntKind.bits] using w2
  obtain ⟨n3, rfl, rfl, rfl, w3⟩ := open_int Tryd.underlying5 (hval 3 5 v3 rfl rfl) h3
  have hn3 : 0 ≤ n3 ∧ n3 ≤ 255 := by simpa [Lit.wf, IntKind.min, IntKind.max, IntKind.signed, IntKind.bits] using w3
  obtain ⟨L4, hL4, hwf4⟩ := rd_ints Tryd.underlying23 Tryd.underlying5 cells5 (okWide_slice Tryd.underlying23 (hval 4 23 v4 rfl rfl)) h4
  have hn4 : ∀ n ∈ L4, 0 ≤ n ∧ n ≤ 255 := fun n hn => by simpa [Lit.wf, IntKind.min, IntKind.max, IntKind.signed, IntKind.bits] using hwf4 n hn
  refine (con_run (vs := [v0, .int .i64 n1, .int .u8 n2, .int .u8 n3, v4]) (ParseLines_c L0 n1 n2 n3 L4 hn0 hn1 hn2 hn3 hn4) ⟨_, _, rfl, hL0, _, _, rfl, ⟨rfl, rfl⟩, _, _, rfl, ⟨rfl, rfl⟩, _, _, rfl, ⟨rfl, rfl⟩, _, _, rfl, hL4, rfl⟩ (gl_of hL)).mono ?_
  rintro e W' ⟨rfl, hb⟩
  exact ⟨_, rfl, law_post rfl hW' rfl rfl rfl rfl Tryd.underlying4 laidOut (by kernel_rfl) hb⟩

theorem reads (os : Os) {H : Type} (enc : TypeId × Value → H) : ∃ places, DataW.whole enc Tryd.prog ((laidWorld os).forCall (fun _ _ => 0) ⟨#[], #[.slice none 0 0, .int .i64 0, .int .u8 0, .int .u8 0, .slice none 0 0], []⟩).memory Tryd.f3.params.toList Rows.parseLinesSpec.vars false #[Value.slice none 0 0, .int .i64 0, .int .u8 0, .int .u8 0, .slice none 0 0].toList 8 = some ([.nil, .lit (.int .i64 0), .lit (.int .u8 0), .lit (.int .u8 0), .nil], [], places) :=
  ⟨[], by kernel_rfl⟩

set_option maxRecDepth 100000 in
theorem lifted (os : Os) (started : os.Started) (H : Type) (enc : TypeId × Value → H) (F : Stop.Interp) :
    ReturnsInHanded {} Tryd.checked os 3 .any ((OpenSpec.ofChange Rows.parseLinesSpec).preRow enc Tryd.prog Tryd.f3 Rows.parseLinesRow.domain false Rows.parseLinesRow.laid) (((OpenSpec.ofChange Rows.parseLinesSpec).at F).post enc Tryd.prog Tryd.f3 false true false false) := by
  obtain ⟨places, hx⟩ := reads os enc
  refine returnsInHanded_of_row (C := Tryd.checked) (s := OpenSpec.ofChange Rows.parseLinesSpec) own started (by kernel_rfl) Tryd.func3
    (witness_row_atRef (enc := enc) (C := Tryd.checked) false (laidWorld os) _ rfl (by kernel_rfl) (by kernel_rfl) (by kernel_rfl)
      (OpenSpec.preRow_of_cond 8 hx (by kernel_rfl) (fun k hk => by cases hk) (by kernel_rfl) (laid_met os _))) ?_
  intro W base args ds gs before hval hW _ _ _ hL _ _
  exact contract H enc W base args ds gs before hval hW hL

theorem said : Rows.ParseLinesSaid :=
  OpenClaim.holds_of_cond 3 Tryd.f3 rfl rfl rfl rfl rfl rfl rfl ⟨rfl, rfl, rfl, rfl, rfl⟩ rfl rfl rfl rfl rfl (by kernel_rfl) Tryd.func3 (by kernel_rfl)
    (of_decide_eq_true (by kernel_rfl)) (by unfold Func.isWrapper; first | (rw [if_pos (by decide +kernel)]; kernel_rfl) | (rw [if_neg (by decide +kernel)]; exact ⟨rfl, rfl⟩))
    (fun os started H enc _ F => by rw [OpenClaim.pre_eq_preRow]; exact lifted os started H enc F)

theorem plain (f : FuncId) (fn : Func) (hf : Tryd.pinned.checked.prog.funcNamed "timebound/timeboundlaw03.ParseLines" = some f) (hfn : Tryd.pinned.checked.prog.funcs[f]? = some fn) :
    true = Tryd.pinned.checked.prog.looks [] ∧ ∀ (j : Nat) t, fn.params[j]? = some t → Tryd.pinned.checked.prog.wantsStandIn t = false := by
  obtain rfl : f = 3 := Option.some.inj ((show Tryd.prog.funcNamed "timebound/timeboundlaw03.ParseLines" = some 3 by kernel_rfl).symm.trans hf) |>.symm
  obtain rfl : fn = Tryd.f3 := (Option.some.inj (Tryd.func3.symm.trans hfn)).symm
  refine ⟨by kernel_rfl, fun j t ht => ?_⟩
  have hall : (Tryd.f3.params.toList.all fun u => !Tryd.prog.wantsStandIn u) = true := by kernel_rfl
  have hm : t ∈ Tryd.f3.params.toList := by simpa using Array.mem_of_getElem? ht
  exact (show Tryd.prog.wantsStandIn t = false by simpa using List.all_eq_true.1 hall t hm)

theorem card : Rows.ParseLinesCardSaid :=
  Claim7.holds_tied_plain_at .later [] _ _ _ _ said (fun _ h => by cases h) (by kernel_rfl) (fun _ h => by cases h) parseLines_row_tie rfl ⟨rfl, rfl⟩ (by kernel_rfl) rfl plain (by kernel_rfl)
end Go.Proofs.YtlniadfidfmckaaDoor.parseLines
end
