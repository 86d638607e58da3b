import Derived.WalkKit
import Derived.Laws.AppendOwnNone
import Derived.Deep.LoopGhost
import Derived.Test.YtpolnonbgaolkaaProg
import Derived.KernelRfl
import Derived.Laws.BytesString
import Derived.Laws.IdiomStrings
import Derived.MapKept
section
namespace Go.Vc
open Go.RowKit

theorem nb {n m : Nat} (h : Nat.ble n m = true) : n ≤ m := Nat.le_of_ble_eq_true h

inductive C : Type 1
  | val (v : Value)
  | list (rows : List (List C))
  | place (row : List C)
  | ex {ι : Type} (f : ι → C)
  | any                              -- some value of one cell
  | map (es : List (Value × Value))  -- a map that is only read: its keys and elements
  | inn (v : Value) (off : Nat)      -- a pointer into the row of a slice of one's own
  | both (v : Value) (c : C)         -- exactly v, of which c is known
  | mapR (ks : List Value) (cs : List C)  -- a map that is only read: its keys, and what its elements are

def Cells (w : World) (b off : Nat) (vs : List Value) : Prop := ∀ j v, vs[j]? = some v → w.cell? ⟨b, off + j, none⟩ = some v

mutual
def Rd1 (w : World) (A : Nat → Prop) : C → Value → Prop
  | .val v, x => x = v ∧ v.oneCell' = true
  | .list rows, x => ∃ a cap, x = .slice a rows.length cap ∧ rows.length ≤ cap ∧ cap ≤ maxLen ∧
      (rows.length = 0 ∨ ∃ b off vs k, a = some ⟨b, off, none⟩ ∧ ¬ A b ∧ Cells w b off vs ∧ 0 < k ∧ RdRows w A k rows vs)
  | .place row, x => ∃ b off vs, x = .pointer (some ⟨b, off, none⟩) ∧ ¬ A b ∧ 0 < row.length ∧ Cells w b off vs ∧ RdRow w A row vs
  | .ex f, x => ∃ i, Rd1 w A (f i) x
  | .any, x => x.oneCell' = true
  | .map es, x => ∃ b ents clock, x = .map (some b) ∧ ¬ A b ∧ w.heap[b]? = some (.map ents clock) ∧ ents.toList.map (fun e => (e.key, e.val)) = es
  | .inn v off, x => ∃ g n cap, v = .slice (some ⟨g, 0, none⟩) n cap ∧ x = .pointer (some ⟨g, off, none⟩)
  | .both v c, x => x = v ∧ Rd1 w A c x
  | .mapR ks cs, x => ∃ b ents clock, x = .map (some b) ∧ ¬ A b ∧ w.heap[b]? = some (.map ents clock) ∧ ents.toList.map (fun e => e.key) = ks ∧ RdRow w A cs (ents.toList.map (fun e => e.val))
def RdRow (w : World) (A : Nat → Prop) : List C → List Value → Prop
  | [], vs => vs = []
  | c :: cs, vs => ∃ v r, vs = v :: r ∧ Rd1 w A c v ∧ RdRow w A cs r
def RdRows (w : World) (A : Nat → Prop) (k : Nat) : List (List C) → List Value → Prop
  | [], vs => vs = []
  | row :: rows, vs => ∃ c r, vs = c ++ r ∧ c.length = k ∧ RdRow w A row c ∧ RdRows w A k rows r
end

/-- What is outside A stands in w' as it stood in w. -/
structure Up (A : Nat → Prop) (w w' : World) : Prop where
  size : w.heap.size ≤ w'.heap.size
  block : ∀ k, k < w.heap.size → ¬ A k → w'.heap[k]? = w.heap[k]?

theorem Up.refl (A : Nat → Prop) (w : World) : Up A w w := ⟨Nat.le_refl _, fun _ _ _ => rfl⟩
theorem Up.trans {A : Nat → Prop} {a b c : World} (h : Up A a b) (k : Up A b c) : Up A a c :=
  ⟨Nat.le_trans h.size k.size, fun i hi hA => (k.block i (Nat.lt_of_lt_of_le hi h.size) hA).trans (h.block i hi hA)⟩

/-- What is known of package-level variables, and stays so. -/
class Gl (P : Program) where
  ok : World → (Nat → Prop) → Prop
  up : ∀ {w w' : World} {A A' : Nat → Prop}, Up A w w' → (∀ b, A' b → A b ∨ w.heap.size ≤ b) → ok w A → ok w' A'
/-- Nothing is known of them. -/
@[reducible] def Gl.triv (P : Program) : Gl P := ⟨fun _ _ => True, fun _ _ _ => trivial⟩

theorem cells_lt {w : World} {b off : Nat} {vs : List Value} (h : Cells w b off vs) (hp : 0 < vs.length) : b < w.heap.size := by
  have := h 0 vs[0] (by simp [hp])
  exact World.block_lt_of_cell? (a := ⟨b, off + 0, none⟩) w this

theorem cells_up {A : Nat → Prop} {w w' : World} {b off : Nat} {vs : List Value} (h : Cells w b off vs) (hu : Up A w w') (hA : ¬ A b) : Cells w' b off vs := by
  intro j v hj
  have h1 := h j v hj
  rw [World.cell?_of_block (w := w) (hu.block b (World.block_lt_of_cell? (a := ⟨b, off + j, none⟩) w h1) hA)]
  exact h1

theorem rdRow_length {w : World} {A : Nat → Prop} : ∀ {cs : List C} {vs : List Value}, RdRow w A cs vs → vs.length = cs.length
  | [], vs, h => by simp only [RdRow] at h; simp [h]
  | c :: cs, vs, h => by
    obtain ⟨v, r, rfl, _, h2⟩ := h
    simp [rdRow_length h2]

theorem rdRows_length {w : World} {A : Nat → Prop} {k : Nat} : ∀ {cs : List (List C)} {vs : List Value}, RdRows w A k cs vs → vs.length = cs.length * k
  | [], vs, h => by simp only [RdRows] at h; simp [h]
  | c :: cs, vs, h => by
    obtain ⟨v, r, rfl, h1, _, h2⟩ := h
    simp [rdRows_length h2, h1, Nat.add_mul]; omega

mutual
theorem rd1_up {w w' : World} {A A' : Nat → Prop} (hu : Up A w w') (hA : ∀ b, A' b → A b ∨ w.heap.size ≤ b) : ∀ (c : C) (v : Value), Rd1 w A c v → Rd1 w' A' c v
  | .val _, _, h => h
  | .list rows, x, h => by
    obtain ⟨a, cap, rfl, h1, h2, h3⟩ := h
    refine ⟨a, cap, rfl, h1, h2, ?_⟩
    rcases h3 with h3 | ⟨b, off, vs, k, rfl, hb, hc, hk, hr⟩
    · exact .inl h3
    · by_cases h0 : rows.length = 0
      · exact .inl h0
      · have hl := rdRows_length hr
        have hlt := cells_lt hc (by rw [hl]; exact Nat.mul_pos (by omega) hk)
        exact .inr ⟨b, off, vs, k, rfl, fun h' => (hA b h').elim hb (by omega), cells_up hc hu hb, hk, rdRows_up hu hA k rows vs hr⟩
  | .place row, x, h => by
    obtain ⟨b, off, vs, rfl, hb, hp, hc, hr⟩ := h
    have hlt := cells_lt hc (by rw [rdRow_length hr]; exact hp)
    exact ⟨b, off, vs, rfl, fun h' => (hA b h').elim hb (by omega), hp, cells_up hc hu hb, rdRow_up hu hA row vs hr⟩
  | .ex f, x, h => by
    obtain ⟨i, h⟩ := h
    exact ⟨i, rd1_up hu hA (f i) x h⟩
  | .any, _, h => h
  | .map es, x, h => by
    obtain ⟨b, ents, clock, rfl, hb, hh, he⟩ := h
    have hlt : b < w.heap.size := (Array.getElem?_eq_some_iff.1 hh).1
    exact ⟨b, ents, clock, rfl, fun h' => (hA b h').elim hb (by omega), by rw [hu.block b hlt hb]; exact hh, he⟩
  | .inn _ _, _, h => h
  | .both _ c, x, h => ⟨h.1, rd1_up hu hA c x h.2⟩
  | .mapR ks cs, x, h => by
    obtain ⟨b, ents, clock, rfl, hb, hh, hk, hr⟩ := h
    have hlt : b < w.heap.size := (Array.getElem?_eq_some_iff.1 hh).1
    exact ⟨b, ents, clock, rfl, fun h' => (hA b h').elim hb (by omega), by rw [hu.block b hlt hb]; exact hh, hk, rdRow_up hu hA cs _ hr⟩
theorem rdRow_up {w w' : World} {A A' : Nat → Prop} (hu : Up A w w') (hA : ∀ b, A' b → A b ∨ w.heap.size ≤ b) : ∀ (cs : List C) (vs : List Value), RdRow w A cs vs → RdRow w' A' cs vs
  | [], _, h => h
  | c :: cs, vs, h => by
    obtain ⟨v, r, rfl, h1, h2⟩ := h
    exact ⟨v, r, rfl, rd1_up hu hA c v h1, rdRow_up hu hA cs r h2⟩
theorem rdRows_up {w w' : World} {A A' : Nat → Prop} (hu : Up A w w') (hA : ∀ b, A' b → A b ∨ w.heap.size ≤ b) (k : Nat) : ∀ (rows : List (List C)) (vs : List Value), RdRows w A k rows vs → RdRows w' A' k rows vs
  | [], _, h => h
  | row :: rows, vs, h => by
    obtain ⟨c, r, rfl, h1, h2, h3⟩ := h
    exact ⟨c, r, rfl, h1, rdRow_up hu hA row c h2, rdRows_up hu hA k rows r h3⟩
end

theorem rd1_one {w : World} {A : Nat → Prop} : ∀ (c : C) (v : Value), Rd1 w A c v → v.oneCell' = true
  | .val u, v, h => by obtain ⟨rfl, h⟩ := h; exact h
  | .list rows, v, h => by obtain ⟨a, cap, rfl, _⟩ := h; rfl
  | .place row, v, h => by obtain ⟨b, off, vs, rfl, _⟩ := h; rfl
  | .ex f, v, h => by obtain ⟨i, h⟩ := h; exact rd1_one (f i) v h
  | .any, _, h => h
  | .map _, v, h => by obtain ⟨b, ents, clock, rfl, _⟩ := h; rfl
  | .inn _ _, v, h => by obtain ⟨g, n, cap, _, rfl⟩ := h; rfl
  | .both _ c, v, h => rd1_one c v h.2
  | .mapR _ _, v, h => by obtain ⟨b, ents, clock, rfl, _⟩ := h; rfl

/-- Element i of rows of k cells each. -/
theorem rdRows_get {w : World} {A : Nat → Prop} {k : Nat} : ∀ {rows : List (List C)} {vs : List Value} {b off : Nat} {i : Nat} {row : List C}, RdRows w A k rows vs → Cells w b off vs → rows[i]? = some row →
    ∃ c, RdRow w A row c ∧ c.length = k ∧ Cells w b (off + i * k) c
  | [], _, _, _, _, _, _, _, h => by simp at h
  | r0 :: rows, vs, b, off, i, row, h, hc, hi => by
    obtain ⟨c, r, rfl, h1, h2, h3⟩ := h
    cases i with
    | zero =>
      simp only [List.getElem?_cons_zero, Option.some.injEq] at hi
      subst hi
      refine ⟨c, h2, h1, fun j v hj => ?_⟩
      have := hc j v (by rw [List.getElem?_append_left (by have := List.getElem?_eq_some_iff.1 hj; obtain ⟨h, _⟩ := this; exact h)]; exact hj)
      simpa using this
    | succ i =>
      simp only [List.getElem?_cons_succ] at hi
      have hc' : Cells w b (off + k) r := fun j v hj => by
        have := hc (k + j) v (by rw [List.getElem?_append_right (by omega)]; rw [show k + j - c.length = j by omega]; exact hj)
        rw [show off + k + j = off + (k + j) by omega]; exact this
      obtain ⟨c', g1, g2, g3⟩ := rdRows_get h3 hc' hi
      refine ⟨c', g1, g2, ?_⟩
      rw [show off + (i + 1) * k = off + k + i * k by rw [Nat.add_mul]; omega]
      exact g3

/-- Part of a row. -/
theorem rdRow_get {w : World} {A : Nat → Prop} : ∀ {cs : List C} {vs : List Value} {i : Nat} {c : C}, RdRow w A cs vs → cs[i]? = some c → ∃ v, vs[i]? = some v ∧ Rd1 w A c v
  | [], _, _, _, _, h => by simp at h
  | c0 :: cs, vs, i, c, h, hi => by
    obtain ⟨v, r, rfl, h1, h2⟩ := h
    cases i with
    | zero => simp at hi; subst hi; exact ⟨v, by simp, h1⟩
    | succ i =>
      simp only [List.getElem?_cons_succ] at hi ⊢
      exact rdRow_get h2 hi

theorem rdRow_drop {w : World} {A : Nat → Prop} : ∀ {cs : List C} {vs : List Value} (n : Nat), RdRow w A cs vs → RdRow w A (cs.drop n) (vs.drop n)
  | _, _, 0, h => by simpa using h
  | [], vs, n + 1, h => by simp only [RdRow] at h; subst h; simp [RdRow]
  | c0 :: cs, vs, n + 1, h => by
    obtain ⟨v, r, rfl, h1, h2⟩ := h
    simpa using rdRow_drop n h2
theorem rdRow_take {w : World} {A : Nat → Prop} : ∀ {cs : List C} {vs : List Value} (n : Nat), RdRow w A cs vs → RdRow w A (cs.take n) (vs.take n)
  | _, _, 0, h => by simp [RdRow]
  | [], vs, n + 1, h => by simp only [RdRow] at h; subst h; simp [RdRow]
  | c0 :: cs, vs, n + 1, h => by
    obtain ⟨v, r, rfl, h1, h2⟩ := h
    exact ⟨v, r.take n, by simp, h1, rdRow_take n h2⟩
theorem rdRow_append {w : World} {A : Nat → Prop} : ∀ {cs ds : List C} {vs us : List Value}, RdRow w A cs vs → RdRow w A ds us → RdRow w A (cs ++ ds) (vs ++ us)
  | [], _, _, _, h, h' => by simp only [RdRow] at h; subst h; simpa using h'
  | c0 :: cs, _, _, _, h, h' => by
    obtain ⟨v, r, rfl, h1, h2⟩ := h
    exact ⟨v, _, by simp, h1, rdRow_append h2 h'⟩
theorem rdRow_set {w : World} {A : Nat → Prop} : ∀ {cs : List C} {vs : List Value} {i : Nat} {c : C} {v : Value}, RdRow w A cs vs → Rd1 w A c v → RdRow w A (cs.set i c) (vs.set i v)
  | [], _, _, _, _, h, _ => by simp only [RdRow] at h; subst h; simp [RdRow]
  | c0 :: cs, vs, i, c, v, h, hv => by
    obtain ⟨v0, r, rfl, h1, h2⟩ := h
    cases i with
    | zero => exact ⟨v, r, by simp, hv, h2⟩
    | succ i => exact ⟨v0, r.set i v, by simp, h1, rdRow_set h2 hv⟩
theorem rdRow_one {w : World} {A : Nat → Prop} : ∀ {cs : List C} {vs : List Value}, RdRow w A cs vs → ∀ v ∈ vs, v.oneCell' = true
  | [], _, h => by simp only [RdRow] at h; subst h; simp
  | c0 :: cs, _, h => by
    obtain ⟨v, r, rfl, h1, h2⟩ := h
    intro x hx
    rcases List.mem_cons.1 hx with rfl | hx
    · exact rd1_one c0 _ h1
    · exact rdRow_one h2 x hx
theorem rdRows_append {w : World} {A : Nat → Prop} {k : Nat} : ∀ {cs ds : List (List C)} {vs us : List Value}, RdRows w A k cs vs → RdRows w A k ds us → RdRows w A k (cs ++ ds) (vs ++ us)
  | [], _, _, _, h, h' => by simp only [RdRows] at h; subst h; simpa using h'
  | c0 :: cs, _, _, _, h, h' => by
    obtain ⟨v, r, rfl, h1, h2, h3⟩ := h
    exact ⟨v, _, by simp, h1, h2, rdRows_append h3 h'⟩
theorem rdRows_one {w : World} {A : Nat → Prop} {k : Nat} : ∀ {cs : List (List C)} {vs : List Value}, RdRows w A k cs vs → ∀ v ∈ vs, v.oneCell' = true
  | [], _, h => by simp only [RdRows] at h; subst h; simp
  | c0 :: cs, _, h => by
    obtain ⟨v, r, rfl, h1, h2, h3⟩ := h
    intro x hx
    rcases List.mem_append.1 hx with hx | hx
    · exact rdRow_one h2 x hx
    · exact rdRows_one h3 x hx
end Go.Vc
end

section
namespace Go.Vc
open Go.RowKit

/-- What the function at hand owns: a block each of whose cells is known; a slice that may grow. -/
inductive Ch : Type 1
  | blk (b : Nat) (t : TypeId) (row : List C)
  | own (v : Value) (e : TypeId) (k : Nat) (rows : List (List C))
  | mapc (b : Nat) (es : List (Value × Value))
  | ownB (v : Value) (e : TypeId) (L : List Int)   -- bytes of one's own, made of a string
  | fam (l : List (Value × TypeId × Nat × List (List C)))   -- slices of one's own, any number of them

def Ch.bs : Ch → List Nat
  | .blk b _ _ => [b]
  | .own v _ _ _ => v.ownBlock.toList
  | .mapc b _ => [b]
  | .ownB v _ _ => v.ownBlock.toList
  | .fam l => l.flatMap fun x => x.1.ownBlock.toList
def hb (H : List Ch) : List Nat := H.flatMap Ch.bs

/-- A row of bytes, no cell of which a string shares. -/
def BytesOk (w : World) (e : TypeId) (v : Value) (L : List Int) : Prop :=
  ∃ g cap cur fz, v = .slice (some ⟨g, 0, none⟩) L.length cap ∧ w.heap[g]? = some (.cells cur e fz) ∧ (∀ k, k < cur.size → ¬ (fz.1 ≤ k ∧ k < fz.2)) ∧ L.length ≤ cap ∧ cap ≤ maxLen ∧ cur.size = cap ∧ cur.toList.take L.length = L.map (Value.int .u8)
def Ch.ok (w : World) (A : Nat → Prop) : Ch → Prop
  | .blk b t row => ∃ cs : List Value, w.heap[b]? = some (.cells cs.toArray t (0, 0)) ∧ RdRow w A row cs
  | .own v e k rows => ∃ vs, w.ownsRow 0 e k v rows.length vs ∧ RdRows w A k rows vs ∧ 0 < k
  | .mapc b es => ∃ ents clock, w.heap[b]? = some (.map ents clock) ∧ ents.toList.map (fun e => (e.key, e.val)) = es
  | .ownB v e L => BytesOk w e v L
  | .fam l => ∀ x ∈ l, ∃ vs, w.ownsRow 0 x.2.1 x.2.2.1 x.1 x.2.2.2.length vs ∧ RdRows w A x.2.2.1 x.2.2.2 vs ∧ 0 < x.2.2.1

theorem Ch.lt {w : World} {A : Nat → Prop} {ch : Ch} (h : ch.ok w A) : ∀ b ∈ ch.bs, b < w.heap.size := by
  intro b hb
  cases ch with
  | blk b' t row =>
    obtain ⟨cs, h1, _⟩ := h
    simp only [Ch.bs, List.mem_singleton] at hb
    subst hb
    exact (Array.getElem?_eq_some_iff.1 h1).1
  | own v e k rows =>
    obtain ⟨vs, h1, _⟩ := h
    simp only [Ch.bs, Option.mem_toList] at hb
    exact (h1.lt b hb).2
  | mapc b' es =>
    obtain ⟨ents, clock, h1, _⟩ := h
    simp only [Ch.bs, List.mem_singleton] at hb
    subst hb
    exact (Array.getElem?_eq_some_iff.1 h1).1
  | ownB v e L =>
    obtain ⟨g, cap, cur, fz, rfl, h1, _⟩ := h
    simp only [Ch.bs, Value.ownBlock, Option.mem_toList, Option.some.injEq] at hb
    subst hb
    exact (Array.getElem?_eq_some_iff.1 h1).1
  | fam l =>
    simp only [Ch.bs, List.mem_flatMap, Option.mem_toList] at hb
    obtain ⟨x, hx, hb⟩ := hb
    obtain ⟨vs, h1, _⟩ := h x hx
    exact (h1.lt b hb).2

theorem Ch.up {w w' : World} {A A' : Nat → Prop} {ch : Ch} (hu : Up A w w') (hA : ∀ b, A' b → A b ∨ w.heap.size ≤ b) (hb : ∀ b ∈ ch.bs, w'.heap[b]? = w.heap[b]?) (h : ch.ok w A) : ch.ok w' A' := by
  cases ch with
  | blk b t row =>
    obtain ⟨cs, h1, h2⟩ := h
    exact ⟨cs, by rw [hb b (by simp [Ch.bs])]; exact h1, rdRow_up hu hA row cs h2⟩
  | own v e k rows =>
    obtain ⟨vs, ⟨h1, h2⟩, h3, h4⟩ := h
    refine ⟨vs, ⟨h1, ?_⟩, rdRows_up hu hA k rows vs h3, h4⟩
    rcases h2 with h2 | ⟨g, cap, cur, rfl, hg, hh, r⟩
    · exact .inl h2
    · exact .inr ⟨g, cap, cur, rfl, hg, by rw [hb g (by simp [Ch.bs, Value.ownBlock])]; exact hh, r⟩
  | mapc b es =>
    obtain ⟨ents, clock, h1, h2⟩ := h
    exact ⟨ents, clock, by rw [hb b (by simp [Ch.bs])]; exact h1, h2⟩
  | ownB v e L =>
    obtain ⟨g, cap, cur, fz, rfl, h1, r⟩ := h
    exact ⟨g, cap, cur, fz, rfl, by rw [hb g (by simp [Ch.bs, Value.ownBlock])]; exact h1, r⟩
  | fam l =>
    intro x hx
    obtain ⟨vs, ⟨h1, h2⟩, h3, h4⟩ := h x hx
    refine ⟨vs, ⟨h1, ?_⟩, rdRows_up hu hA _ _ vs h3, h4⟩
    rcases h2 with h2 | ⟨g, cap, cur, e1, hg, hh, r⟩
    · exact .inl h2
    · refine .inr ⟨g, cap, cur, e1, hg, ?_, r⟩
      rw [hb g (List.mem_flatMap.2 ⟨x, hx, by rw [e1]; simp [Value.ownBlock]⟩)]
      exact hh

/-- Slots. -/
inductive S : Type 1
  | void
  | cell (c : C)
  | row (r : List C)
  | tup (l : List S)
  | ex {ι : Type} (f : ι → S)

mutual
def SOk (w : World) (A : Nat → Prop) : S → Value → Prop
  | .void, _ => True
  | .cell c, v => Rd1 w A c v
  | .row r, v => ∃ cs, v = .agg cs ∧ RdRow w A r cs.toList
  | .tup l, v => ∃ vs : List Value, v = .tuple vs.toArray ∧ SOks w A l vs
  | .ex f, v => ∃ i, SOk w A (f i) v
def SOks (w : World) (A : Nat → Prop) : List S → List Value → Prop
  | [], vs => vs = []
  | s :: ss, vs => ∃ v r, vs = v :: r ∧ SOk w A s v ∧ SOks w A ss r
end

mutual
theorem sok_up {w w' : World} {A A' : Nat → Prop} (hu : Up A w w') (hA : ∀ b, A' b → A b ∨ w.heap.size ≤ b) : ∀ (s : S) (v : Value), SOk w A s v → SOk w' A' s v
  | .void, _, _ => trivial
  | .cell c, v, h => rd1_up hu hA c v h
  | .row r, v, h => by
    obtain ⟨cs, rfl, h⟩ := h
    exact ⟨cs, rfl, rdRow_up hu hA r _ h⟩
  | .tup l, v, h => by
    obtain ⟨vs, rfl, h⟩ := h
    exact ⟨vs, rfl, soks_up hu hA l _ h⟩
  | .ex f, v, h => by
    obtain ⟨i, h⟩ := h
    exact ⟨i, sok_up hu hA (f i) v h⟩
theorem soks_up {w w' : World} {A A' : Nat → Prop} (hu : Up A w w') (hA : ∀ b, A' b → A b ∨ w.heap.size ≤ b) : ∀ (s : List S) (v : List Value), SOks w A s v → SOks w' A' s v
  | [], _, h => h
  | s :: ss, vs, h => by
    obtain ⟨v, r, rfl, h1, h2⟩ := h
    exact ⟨v, r, rfl, sok_up hu hA s v h1, soks_up hu hA ss r h2⟩
end

theorem soks_length {w : World} {A : Nat → Prop} : ∀ {ss : List S} {vs : List Value}, SOks w A ss vs → vs.length = ss.length
  | [], vs, h => by simp only [SOks] at h; simp [h]
  | c :: cs, vs, h => by
    obtain ⟨v, r, rfl, _, h2⟩ := h
    simp [soks_length h2]

abbrev Env := List (Nat × S)

structure Cx (P : Program) (nt : Nat) where
  B : World
  A : Nat → Prop
  X : List Nat
  bnd : ∀ b, A b → b < B.heap.size

def Cx.av {P : Program} {nt : Nat} (c : Cx P nt) (H : List Ch) : Nat → Prop := fun b => c.A b ∨ b ∈ hb H

structure StW {P : Program} [Gl P] {nt : Nat} (c : Cx P nt) (H : List Ch) (w : World) : Prop where
  os : w.os = c.B.os
  tape : w.tape = c.B.tape
  output : w.output = c.B.output
  size : c.B.heap.size ≤ w.heap.size
  block : ∀ k, k < c.B.heap.size → k ∉ c.X → w.heap[k]? = c.B.heap[k]?
  ok : ∀ ch ∈ H, ch.ok w (c.av H)
  nodup : (hb H).Nodup
  mine : ∀ b ∈ hb H, b ∈ c.X ∨ c.B.heap.size ≤ b
  gl : Gl.ok P w (c.av H)

theorem StW.lt {P : Program} [Gl P] {nt : Nat} {c : Cx P nt} {H : List Ch} {w : World} (h : StW c H w) : ∀ b ∈ hb H, b < w.heap.size := by
  intro b hb
  obtain ⟨ch, h1, h2⟩ := List.mem_flatMap.1 hb
  exact Ch.lt (h.ok ch h1) b h2

theorem StW.avlt {P : Program} [Gl P] {nt : Nat} {c : Cx P nt} {H : List Ch} {w : World} (h : StW c H w) : ∀ b, c.av H b → b < w.heap.size := by
  intro b hb
  rcases hb with hb | hb
  · exact Nat.lt_of_lt_of_le (c.bnd b hb) h.size
  · exact h.lt b hb

theorem hb_perm {H H' : List Ch} (h : H.Perm H') : (hb H).Perm (hb H') := h.flatMap_right _

theorem av_perm {P : Program} [Gl P] {nt : Nat} (c : Cx P nt) {H H' : List Ch} (h : H.Perm H') : c.av H' = c.av H := by
  funext b
  simp only [Cx.av]
  rw [(hb_perm h).mem_iff]

theorem StW.perm {P : Program} [Gl P] {nt : Nat} {c : Cx P nt} {H H' : List Ch} {w : World} (h : StW c H w) (hp : H.Perm H') : StW c H' w := by
  have hp' := hb_perm hp
  have hav : c.av H' = c.av H := by funext b; simp only [Cx.av]; rw [hp'.mem_iff]
  exact ⟨h.os, h.tape, h.output, h.size, h.block, fun ch hch => by rw [hav]; exact h.ok ch (hp.mem_iff.2 hch), hp'.nodup_iff.1 h.nodup, fun b hb => h.mine b (hp'.mem_iff.2 hb), by rw [hav]; exact h.gl⟩

/-- The streams are as they were, and no block has turned but those named. -/
structure Grow (X : List Nat) (w w' : World) : Prop where
  os : w'.os = w.os
  tape : w'.tape = w.tape
  output : w'.output = w.output
  size : w.heap.size ≤ w'.heap.size
  block : ∀ k, k < w.heap.size → k ∉ X → w'.heap[k]? = w.heap[k]?

theorem Grow.refl (X : List Nat) (w : World) : Grow X w w := ⟨rfl, rfl, rfl, Nat.le_refl _, fun _ _ _ => rfl⟩
theorem Grow.of_grownBy {w w' : World} {row : Option Nat} (h : w.grownBy w' row) : Grow row.toList w w' :=
  ⟨h.os, h.tape, h.output, h.size, fun k hk hn => h.block k hk (fun e => hn (by simp [← e]))⟩

theorem Grow.up {X : List Nat} {w w' : World} {A : Nat → Prop} (h : Grow X w w') (hX : ∀ b ∈ X, A b) : Up A w w' :=
  ⟨h.size, fun k hk hA => h.block k hk (fun hx => hA (hX k hx))⟩

/-- A step that turns the part H1 of what is owned into H1'. -/
theorem StW.step {P : Program} [Gl P] {nt : Nat} {c : Cx P nt} {H1 H1' Hr : List Ch} {w w' : World} (h : StW c (H1 ++ Hr) w) (hg : Grow (hb H1) w w')
    (hnew : ∀ b ∈ hb H1', b ∈ hb H1 ∨ w.heap.size ≤ b) (hnd : (hb H1').Nodup)
    (hok : ∀ ch ∈ H1', ch.ok w' (c.av (H1' ++ Hr))) :
    StW c (H1' ++ Hr) w' ∧ (∀ s v, SOk w (c.av (H1 ++ Hr)) s v → SOk w' (c.av (H1' ++ Hr)) s v) := by
  have happ : ∀ (X Y : List Ch), hb (X ++ Y) = hb X ++ hb Y := fun X Y => by simp [hb]
  have hnod := h.nodup
  rw [happ, List.nodup_append] at hnod
  obtain ⟨n1, n2, n3⟩ := hnod
  have hu : Up (c.av (H1 ++ Hr)) w w' := hg.up (fun b hb => .inr (by rw [happ]; exact List.mem_append.2 (.inl hb)))
  have hA : ∀ b, c.av (H1' ++ Hr) b → c.av (H1 ++ Hr) b ∨ w.heap.size ≤ b := by
    intro b hb
    rcases hb with hb | hb
    · exact .inl (.inl hb)
    · rw [happ] at hb
      rcases List.mem_append.1 hb with hb | hb
      · rcases hnew b hb with hb | hb
        · exact .inl (.inr (by rw [happ]; exact List.mem_append.2 (.inl hb)))
        · exact .inr hb
      · exact .inl (.inr (by rw [happ]; exact List.mem_append.2 (.inr hb)))
  refine ⟨⟨hg.os.trans h.os, hg.tape.trans h.tape, hg.output.trans h.output, Nat.le_trans h.size hg.size, ?_, ?_, ?_, ?_, Gl.up hu hA h.gl⟩, fun s v hs => sok_up hu hA s v hs⟩
  · intro k hk hX
    rw [hg.block k (Nat.lt_of_lt_of_le hk h.size) ?_]
    · exact h.block k hk hX
    · intro hk1
      rcases h.mine k (by rw [happ]; exact List.mem_append.2 (.inl hk1)) with h' | h'
      · exact hX h'
      · omega
  · intro ch hch
    rcases List.mem_append.1 hch with hch | hch
    · exact hok ch hch
    · refine Ch.up hu hA ?_ (h.ok ch (List.mem_append.2 (.inr hch)))
      intro b hbm
      have hbr : b ∈ hb Hr := List.mem_flatMap.2 ⟨ch, hch, hbm⟩
      exact hg.block b (h.lt b (by rw [happ]; exact List.mem_append.2 (.inr hbr))) (fun h1 => n3 b h1 b hbr rfl)
  · rw [happ, List.nodup_append]
    refine ⟨hnd, n2, ?_⟩
    intro a ha b hbr e
    subst e
    rcases hnew a ha with h1 | h1
    · exact n3 a h1 a hbr rfl
    · have := h.lt a (by rw [happ]; exact List.mem_append.2 (.inr hbr))
      omega
  · intro b hbm
    rw [happ] at hbm
    rcases List.mem_append.1 hbm with h1 | h1
    · rcases hnew b h1 with h1 | h1
      · exact h.mine b (by rw [happ]; exact List.mem_append.2 (.inl h1))
      · exact .inr (Nat.le_trans h.size h1)
    · exact h.mine b (by rw [happ]; exact List.mem_append.2 (.inr h1))

theorem StW.drop {P : Program} [Gl P] {nt : Nat} {c : Cx P nt} {H1 Hr : List Ch} {w : World} (h : StW c (H1 ++ Hr) w) : StW c Hr w ∧ (∀ s v, SOk w (c.av (H1 ++ Hr)) s v → SOk w (c.av Hr) s v) := by
  have := StW.step (H1' := []) h (Grow.refl _ _) (by simp [hb]) (by simp [hb]) (by simp)
  simpa using this

structure St {P : Program} [Gl P] {nt : Nat} (c : Cx P nt) (env : Env) (H : List Ch) (a : Act) (w : World) : Prop where
  size : a.tmps.size = nt
  defers : a.defers = []
  slots : ∀ i s, env.lookup i = some s → SOk w (c.av H) s (a.tmps.getD i undef)
  heap : StW c H w

theorem lookup_cons {env : Env} {d i : Nat} {s s' : S} (h : List.lookup i ((d, s) :: env) = some s') : (i = d ∧ s' = s) ∨ (i ≠ d ∧ List.lookup i env = some s') := by
  rw [List.lookup_cons] at h
  by_cases hid : i = d
  · subst hid
    simp at h
    exact .inl ⟨rfl, h.symm⟩
  · have hb : (i == d) = false := by simpa using hid
    rw [hb] at h
    exact .inr ⟨hid, h⟩

/-- The next state, behind an operation that leaves its value in slot d. -/
theorem St.next {P : Program} [Gl P] {nt : Nat} {c : Cx P nt} {env : Env} {H H' : List Ch} {a : Act} {w w' : World} {d : Nat} {s : S} {v : Value} (h : St c env H a w) (hd : d < nt)
    (hw : StW c H' w') (hs : SOk w' (c.av H') s v) (hk : ∀ s v, SOk w (c.av H) s v → SOk w' (c.av H') s v) : St c ((d, s) :: env) H' (a.put (some d) v) w' := by
  refine ⟨by simp [Act.put, h.size], h.defers, ?_, hw⟩
  intro i s' hi
  rcases lookup_cons hi with ⟨rfl, rfl⟩ | ⟨hid, hi⟩
  · simp only [Act.put]
    rw [Array.getD_eq_getD_getElem?, Array.getElem?_setIfInBounds]
    simp [h.size, hd]
    exact hs
  · simp only [Act.put]
    rw [Array.getD_eq_getD_getElem?, Array.getElem?_setIfInBounds, if_neg (by omega), ← Array.getD_eq_getD_getElem?]
    exact hk _ _ (h.slots i s' hi)

theorem St.next0 {P : Program} [Gl P] {nt : Nat} {c : Cx P nt} {env : Env} {H H' : List Ch} {a : Act} {w w' : World} {v : Value} (h : St c env H a w)
    (hw : StW c H' w') (hk : ∀ s v, SOk w (c.av H) s v → SOk w' (c.av H') s v) : St c env H' (a.put none v) w' :=
  ⟨h.size, h.defers, fun i s hi => hk _ _ (h.slots i s hi), hw⟩

/-- One operation. -/
def OpWp {P : Program} [Gl P] {nt : Nat} (c : Cx P nt) (o : Oper) (env : Env) (H : List Ch) (K : S → List Ch → Prop) : Prop :=
  ∀ a w, St c env H a w → ∀ (next : Act → World → Prop) Q,
    (∀ s H' v w', K s H' → StW c H' w' → SOk w' (c.av H') s v → (∀ s v, SOk w (c.av H) s v → SOk w' (c.av H') s v) → next (a.put o.dst v) w') → o.wp P a w next Q

/-- Operations, one behind the other. -/
def JL {P : Program} [Gl P] {nt : Nat} (c : Cx P nt) (ops : Array Oper) (Q : Exit → Act → World → Prop) (l : List Oper) (env : Env) (H : List Ch) : Prop :=
  ∀ a w, St c env H a w → wpList P ops Q l a w
def JC {P : Program} [Gl P] {nt : Nat} (c : Cx P nt) (code : Code) (Q : Exit → Act → World → Prop) (env : Env) (H : List Ch) : Prop :=
  ∀ a w, St c env H a w → code.wp P Q a w
/-- What is asked at an exit. -/
def JQ {P : Program} [Gl P] {nt : Nat} (c : Cx P nt) (Q : Exit → Act → World → Prop) (e : Exit) (env : Env) (H : List Ch) : Prop :=
  ∀ a w, St c env H a w → Q e a w

section
variable {P : Program} [Gl P] {nt : Nat} {c : Cx P nt} {ops : Array Oper} {Q : Exit → Act → World → Prop} {env : Env} {H : List Ch}

theorem jl_nil (h : JQ c Q .normal env H) : JL c ops Q [] env H := fun a w hs => h a w hs

theorem jl_op {l : List Oper} {d : Nat} {op : Op} {ty : TypeId} {pos : String} {af : Array Edge}
    (h : OpWp c ⟨some d, op, ty, pos, af, none⟩ env H (fun s H' => JL c ops Q l ((d, s) :: env) H')) (hd : d < nt) : JL c ops Q (⟨some d, op, ty, pos, af, none⟩ :: l) env H := by
  intro a w hs
  refine wpList_plain rfl fun K hK => ?_
  refine h a w hs _ _ ?_
  intro s H' v w' hJ hw' hv hk
  exact hK _ _ (hJ _ _ (hs.next hd hw' hv hk))

theorem jl_op0 {l : List Oper} {op : Op} {ty : TypeId} {pos : String} {af : Array Edge}
    (h : OpWp c ⟨none, op, ty, pos, af, none⟩ env H (fun _ H' => JL c ops Q l env H')) : JL c ops Q (⟨none, op, ty, pos, af, none⟩ :: l) env H := by
  intro a w hs
  refine wpList_plain rfl fun K hK => ?_
  refine h a w hs _ _ ?_
  intro s H' v w' hJ hw' _ hk
  exact hK _ _ (hJ _ _ (hs.next0 hw' hk))

theorem jc_region {id : Nat} {l : List Oper} (h : JL c l.toArray Q l env H) : JC c (.region id l.toArray false) Q env H :=
  fun a w hs => wp_region_lit (h a w hs)
theorem jc_seq {x y : Code} (h : JC c x (Exit.then (fun a w => y.wp P Q a w) Q) env H) : JC c (.seq x y) Q env H :=
  fun a w hs => wp_seq (h a w hs)
theorem jc_block {id : Nat} {x : Code} (h : JC c x (Exit.inBlock id Q) env H) : JC c (.block id x) Q env H :=
  fun a w hs => wp_block (h a w hs)
theorem jc_skip (h : JQ c Q .normal env H) : JC c .skip Q env H := fun a w hs => wp_skip (h a w hs)
theorem jc_ret (h : JQ c Q .ret env H) : JC c .ret Q env H := fun a w hs => wp_ret (h a w hs)
theorem jc_exit {id : Nat} (h : JQ c Q (.exit id) env H) : JC c (.exit id) Q env H := fun a w hs => wp_exit (h a w hs)

/-- At the end of the first of two codes. -/
theorem jq_then {y : Code} (h : JC c y Q env H) : JQ c (Exit.then (fun a w => y.wp P Q a w) Q) .normal env H := fun a w hs => h a w hs
theorem jq_then_ret {K : Act → World → Prop} (h : JQ c Q .ret env H) : JQ c (Exit.then K Q) .ret env H := fun a w hs => h a w hs
theorem jq_then_exit {K : Act → World → Prop} {id : Nat} (h : JQ c Q (.exit id) env H) : JQ c (Exit.then K Q) (.exit id) env H := fun a w hs => h a w hs
theorem jq_block {id : Nat} (h : JQ c Q .normal env H) : JQ c (Exit.inBlock id Q) .normal env H := fun a w hs => h a w hs
theorem jq_block_ret {id : Nat} (h : JQ c Q .ret env H) : JQ c (Exit.inBlock id Q) .ret env H := fun a w hs => h a w hs
theorem jq_block_exit {id : Nat} (h : JQ c Q .normal env H) : JQ c (Exit.inBlock id Q) (.exit id) env H := fun a w hs => by
  have := h a w hs
  simpa [Exit.inBlock] using this
/-- Operands. -/
def Env.ev (env : Env) : Operand → Option S
  | .tmp t => env.lookup t
  | .const v => if v.oneCell' then some (.cell (.val v)) else none
  | .func f => some (.cell (.val (.func (.func f) #[] #[])))
  | .global g => some (.cell (.val (.pointer (some ⟨g, 0, none⟩))))

theorem ev_ok {a : Act} {w : World} {x : Operand} {s : S} (h : St c env H a w) (hx : env.ev x = some s) : SOk w (c.av H) s (a.eval x) := by
  cases x with
  | tmp t => exact h.slots t s hx
  | const v =>
    simp only [Env.ev] at hx
    split at hx
    · cases hx; exact ⟨rfl, by assumption⟩
    · cases hx
  | func f => simp only [Env.ev] at hx; cases hx; exact ⟨rfl, rfl⟩
  | global g => simp only [Env.ev] at hx; cases hx; exact ⟨rfl, rfl⟩

theorem ev_val {a : Act} {w : World} {x : Operand} {v : Value} (h : St c env H a w) (hx : env.ev x = some (.cell (.val v))) : a.eval x = v := (ev_ok h hx).1

/-- Weaker states. -/
def Env.le : Env → Env → Prop
  | [], _ => True
  | (i, s) :: r, e => e.lookup i = some s ∧ Env.le r e

theorem Env.le_lookup : ∀ {e' e : Env}, Env.le e' e → ∀ i s, e'.lookup i = some s → e.lookup i = some s
  | [], _, _, _, _, h => by simp at h
  | (j, t) :: r, e, hl, i, s, h => by
    rcases lookup_cons h with ⟨rfl, rfl⟩ | ⟨_, h⟩
    · exact hl.1
    · exact Env.le_lookup hl.2 i s h

theorem St.weaken {env' : Env} {a : Act} {w : World} (h : St c env H a w) (hl : Env.le env' env) : St c env' H a w :=
  ⟨h.size, h.defers, fun i s hi => h.slots i s (Env.le_lookup hl i s hi), h.heap⟩
theorem St.perm {H' : List Ch} {a : Act} {w : World} (h : St c env H a w) (hp : H.Perm H') : St c env H' a w := by
  have hp' := hb_perm hp
  have hav : c.av H' = c.av H := by funext b; simp only [Cx.av]; rw [hp'.mem_iff]
  exact ⟨h.size, h.defers, fun i s hi => by rw [hav]; exact h.slots i s hi, h.heap.perm hp⟩
theorem St.drop {H1 Hr : List Ch} {a : Act} {w : World} (h : St c env (H1 ++ Hr) a w) : St c env Hr a w :=
  ⟨h.size, h.defers, fun i s hi => h.heap.drop.2 s _ (h.slots i s hi), h.heap.drop.1⟩

/-- Chunks by their places. -/
def pick : List Nat → List Ch → Option (List Ch × List Ch)
  | [], H => some ([], H)
  | i :: is, H => match H[i]? with
    | some ch => (pick is (H.eraseIdx i)).map fun p => (ch :: p.1, p.2)
    | none => none

theorem pick_perm : ∀ {is : List Nat} {H H1 Hr : List Ch}, pick is H = some (H1, Hr) → H.Perm (H1 ++ Hr)
  | [], H, H1, Hr, h => by simp only [pick, Option.some.injEq, Prod.mk.injEq] at h; obtain ⟨rfl, rfl⟩ := h; exact List.Perm.refl _
  | i :: is, H, H1, Hr, h => by
    simp only [pick] at h
    split at h
    · rename_i ch hi
      simp only [Option.map_eq_some_iff, Prod.mk.injEq, Prod.exists] at h
      obtain ⟨p, q, h1, rfl, rfl⟩ := h
      obtain ⟨hlt, hch⟩ := List.getElem?_eq_some_iff.1 hi
      have h2 : H.Perm (ch :: H.eraseIdx i) := by
        rw [← hch, List.eraseIdx_eq_take_drop_succ]
        have h3 : H = H.take i ++ H[i] :: H.drop (i + 1) := by rw [List.getElem_cons_drop, List.take_append_drop]
        exact (h3 ▸ List.perm_middle : H.Perm (H[i] :: (H.take i ++ H.drop (i + 1))))
      exact h2.trans (List.Perm.cons _ (pick_perm h1))
    · cases h
end
end Go.Vc
end

section
namespace Go.Vc
open Go.RowKit

/-- What is known of a type of the program. -/
class TI (P : Program) (t : TypeId) where
  u : TypeDesc
  hu : P.underlying t = some u
  i : TypeInfo
  hi : P.info? t = some i

def aggB : TypeDesc → Bool
  | .struct _ | .array _ _ => true
  | _ => false
def fieldsB : TypeDesc → Array Field
  | .struct fs => fs
  | _ => #[]
def structB : TypeDesc → Bool
  | .struct _ => true
  | _ => false

/-- A slice type, and its elements' type. -/
class SL (P : Program) (t : TypeId) where
  e : TypeId
  ie : TI P e
  hs : P.underlying t = some (.slice e)
instance SL.inst {P : Program} {t : TypeId} [h : SL P t] : TI P (SL.e P t) := h.ie

/-- What is known of a type of maps whose keys are of a plain kind. -/
class MK (P : Program) (t : TypeId) where
  k : TypeId
  e : TypeId
  d : TypeDesc
  hm : P.underlying t = some (.map k e)
  hk : P.underlying k = some d

theorem u_of_struct {u : TypeDesc} (h : structB u = true) : u = .struct (fieldsB u) := by cases u <;> simp_all [structB, fieldsB]

theorem run_isAgg {P : Program} (t : TypeId) [TI P t] (w : World) : (isAgg t).run P w = .ok (aggB (TI.u P t)) w := by
  unfold isAgg
  simp only [Sem.run_bind, run_underlying (TI.hu (P := P) (t := t)), Result.andThen_ok]
  cases TI.u P t <;> rfl

theorem run_sizeOf {P : Program} (t : TypeId) [TI P t] (w : World) : (sizeOf t).run P w = .ok (TI.i P t).size w := by
  simp [sizeOf, typeInfo, TI.hi (P := P) (t := t)]

theorem run_zeroValue {P : Program} (t : TypeId) [TI P t] {z : Value} (hz : (TI.i P t).zero = some z) (w : World) : (zeroValue t).run P w = .ok z w := by
  simp [zeroValue, typeInfo, TI.hi (P := P) (t := t), hz]

theorem run_elem {P : Program} (t : TypeId) [SL P t] (w : World) : (underlying t).run P w = .ok (.slice (SL.e P t)) w := run_underlying SL.hs w

theorem run_fields {P : Program} (t : TypeId) [TI P t] (hs : structB (TI.u P t) = true) (w : World) : (underlying t).run P w = .ok (.struct (fieldsB (TI.u P t))) w := by
  rw [run_underlying (TI.hu (P := P) (t := t)), ← u_of_struct hs]

/-- The places of a struct's fields. -/
class TS (P : Program) (t : TypeId) [TI P t] where
  pl : Array (Nat × Nat)
  hpl : ∀ w, ((fieldsB (TI.u P t)).mapM fun f => do pure (f.offset, ← sizeOf f.type) : Sem (Array (Nat × Nat))).run P w = .ok pl w

theorem run_sizeOf_cases {P : Program} (t : TypeId) (w : World) : (∃ n, (sizeOf t).run P w = .ok n w) ∨ ∃ h, (sizeOf t).run P w = .halt h w := by
  simp only [sizeOf, typeInfo, Sem.run_bind, run_program, Result.andThen_ok]
  cases P.info? t <;> simp

theorem places_get {P : Program} : ∀ (l : List Field) (pl : List (Nat × Nat)) (w w' : World), (l.mapM fun f => do pure (f.offset, ← sizeOf f.type) : Sem (List (Nat × Nat))).run P w = .ok pl w' →
    w' = w ∧ ∀ (i off size : Nat), pl[i]? = some (off, size) → ∃ fl : Field, l[(i : Nat)]? = some fl ∧ fl.offset = off ∧ (sizeOf fl.type).run P w = .ok size w
  | [], pl, w, w', h => by
    simp only [List.mapM_nil, Sem.run_pure, Result.ok.injEq] at h
    obtain ⟨rfl, rfl⟩ := h
    exact ⟨rfl, by simp⟩
  | f :: l, pl, w, w', h => by
    simp only [List.mapM_cons, Sem.run_bind] at h
    rcases run_sizeOf_cases (P := P) f.type w with ⟨n, hn⟩ | ⟨x, hn⟩
    · simp only [hn, Result.andThen_ok, Sem.run_pure] at h
      generalize hr : (l.mapM fun f => do pure (f.offset, ← sizeOf f.type) : Sem (List (Nat × Nat))).run P w = r at h
      cases r with
      | ok pl' w1 =>
        simp only [Result.andThen_ok, Result.ok.injEq] at h
        obtain ⟨rfl, rfl⟩ := h
        obtain ⟨rfl, h2⟩ := places_get l pl' w w1 hr
        refine ⟨rfl, fun i off size hi => ?_⟩
        cases i with
        | zero => simp only [List.getElem?_cons_zero, Option.some.injEq, Prod.mk.injEq] at hi; obtain ⟨rfl, rfl⟩ := hi; exact ⟨f, rfl, rfl, hn⟩
        | succ i => exact h2 i off size hi
      | halt x w1 => simp at h
    · simp [hn] at h

theorem ts_get {P : Program} {t : TypeId} [TI P t] [TS P t] {f off size : Nat} (h : (TS.pl P t)[f]? = some (off, size)) (w : World) : ∃ fl : Field, (fieldsB (TI.u P t))[f]? = some fl ∧ fl.offset = off ∧ (sizeOf fl.type).run P w = .ok size w := by
  have h0 := TS.hpl (P := P) (t := t) w
  rw [Array.mapM_eq_mapM_toList, Sem.run_map] at h0
  generalize hr : ((fieldsB (TI.u P t)).toList.mapM fun f => do pure (f.offset, ← sizeOf f.type) : Sem (List (Nat × Nat))).run P w = r at h0
  cases r with
  | ok pl w1 =>
    simp only [Result.andThen_ok, Result.ok.injEq] at h0
    obtain ⟨h1, _⟩ := h0
    obtain ⟨_, h2⟩ := places_get _ pl w w1 hr
    obtain ⟨fl, g1, g2, g3⟩ := h2 f off size (by rw [← h1] at h; simpa using h)
    exact ⟨fl, by simpa using g1, g2, g3⟩
  | halt x w1 => simp at h0

theorem add_at (b off n : Nat) : (⟨b, off, none⟩ : Addr).add n = ⟨b, off + n, none⟩ := by
  unfold Addr.add
  split
  · rename_i h; subst h; rfl
  · rfl

theorem cells_load {w : World} {b off : Nat} {vs : List Value} (h : Cells w b off vs) (P : Program) : (loadCells ⟨b, off, none⟩ vs.length).run P w = .ok vs.toArray w :=
  run_loadCells_list w ⟨b, off, none⟩ vs (fun j v hj => by rw [add_at]; exact h j v hj)

theorem cells_of_blk {w : World} {b : Nat} {cs : List Value} {t : TypeId} {f : Nat × Nat} (h : w.heap[b]? = some (.cells cs.toArray t f)) (o : Nat) : Cells w b o (cs.drop o) := by
  intro j v hj
  rw [List.getElem?_drop] at hj
  simp [World.cell?, h, hj]

theorem cells_take {w : World} {b off : Nat} {vs : List Value} (h : Cells w b off vs) (n : Nat) : Cells w b off (vs.take n) := by
  intro j v hj
  rw [List.getElem?_take] at hj
  split at hj
  · exact h j v hj
  · cases hj
theorem cells_drop {w : World} {b off : Nat} {vs : List Value} (h : Cells w b off vs) (n : Nat) : Cells w b (off + n) (vs.drop n) := by
  intro j v hj
  rw [List.getElem?_drop] at hj
  rw [Nat.add_assoc]
  exact h (n + j) v hj

/-- A load of one cell. -/
theorem run_loadVar1 {P : Program} (t : TypeId) [TI P t] (ha : aggB (TI.u P t) = false) {w : World} {a : Addr} {v : Value} (h : w.cell? a = some v) : (loadVar t a).run P w = .ok v w := by
  unfold loadVar
  simp only [Sem.run_bind, run_isAgg, ha, Result.andThen_ok, Bool.false_eq_true, if_false, run_load, h]
/-- A load of a struct. -/
theorem run_loadVarN {P : Program} (t : TypeId) [TI P t] (ha : aggB (TI.u P t) = true) {w : World} {b off : Nat} {vs : List Value} (hs : (TI.i P t).size = vs.length) (h : Cells w b off vs) :
    (loadVar t ⟨b, off, none⟩).run P w = .ok (.agg vs.toArray) w := by
  unfold loadVar
  simp only [Sem.run_bind, run_isAgg, ha, Result.andThen_ok, if_true, run_sizeOf, hs, cells_load h, Sem.run_pure]

section
variable {P : Program} [Gl P] {nt : Nat} {c : Cx P nt} {env : Env} {H : List Ch} {K : S → List Ch → Prop}

theorem ow_val {o : Oper} {s : S} (hrun : ∀ a w, St c env H a w → ∃ v, (execOp a.eval o).run P w = .ok (.value v) w ∧ SOk w (c.av H) s v) (hK : K s H) : OpWp c o env H K := by
  intro a w hs next Q hn
  obtain ⟨v, hr, hv⟩ := hrun a w hs
  unfold Oper.wp
  rw [hr]
  exact hn s H v w hK hs.heap hv (fun _ _ h => h)

theorem ow_valx {o : Oper} {v : Value} (h1 : v.oneCell' = true) (hrun : ∀ a w, St c env H a w → (execOp a.eval o).run P w = .ok (.value v) w) (hK : K (.cell (.val v)) H) : OpWp c o env H K :=
  ow_val (s := .cell (.val v)) (fun a w hs => ⟨v, hrun a w hs, ⟨rfl, h1⟩⟩) hK

variable {d : Option Tmp} {ty t t' : TypeId} {pos : String} {af : Array Edge} {g : Option (Nat × Bool)} {x y : Operand}

theorem ow_move {s : S} (hx : env.ev x = some s) (hK : K s H) : OpWp c ⟨d, .move x, ty, pos, af, g⟩ env H K :=
  ow_val (fun _ _ hs => ⟨_, rfl, ev_ok hs hx⟩) hK
theorem ow_assign {s : S} (hx : env.ev x = some s) (hK : K s H) : OpWp c ⟨d, .assign x, ty, pos, af, g⟩ env H K :=
  ow_val (fun _ _ hs => ⟨_, rfl, ev_ok hs hx⟩) hK

abbrev In (k : IntKind) (n : Int) : S := .cell (.val (.int k n))
abbrev Bl (b : Bool) : S := .cell (.val (.bool b))
abbrev Str (s : ByteArray) : S := .cell (.val (.string s))

section ints
variable {k : IntKind} {m n : Int}
theorem ow_add (hx : env.ev x = some (In k m)) (hy : env.ev y = some (In k n)) (hK : K (In k (k.wrap (m + n))) H) : OpWp c ⟨d, .binOp .add t x y t', ty, pos, af, g⟩ env H K :=
  ow_valx rfl (fun _ _ hs => by simp [execOp, ev_val hs hx, ev_val hs hy, eqGuard, binOp, Op.intArith]) hK
theorem ow_sub (hx : env.ev x = some (In k m)) (hy : env.ev y = some (In k n)) (hK : K (In k (k.wrap (m - n))) H) : OpWp c ⟨d, .binOp .sub t x y t', ty, pos, af, g⟩ env H K :=
  ow_valx rfl (fun _ _ hs => by simp [execOp, ev_val hs hx, ev_val hs hy, eqGuard, binOp, Op.intArith]) hK
theorem ow_mul (hx : env.ev x = some (In k m)) (hy : env.ev y = some (In k n)) (hK : K (In k (k.wrap (m * n))) H) : OpWp c ⟨d, .binOp .mul t x y t', ty, pos, af, g⟩ env H K :=
  ow_valx rfl (fun _ _ hs => by simp [execOp, ev_val hs hx, ev_val hs hy, eqGuard, binOp, Op.intArith]) hK
theorem ow_add64 (hx : env.ev x = some (In .i64 m)) (hy : env.ev y = some (In .i64 n)) (hr : -9223372036854775808 ≤ m + n ∧ m + n ≤ 9223372036854775807) (hK : K (In .i64 (m + n)) H) : OpWp c ⟨d, .binOp .add t x y t', ty, pos, af, g⟩ env H K :=
  ow_add hx hy (by rw [IntWalk.i64_in _ hr]; exact hK)
theorem ow_sub64 (hx : env.ev x = some (In .i64 m)) (hy : env.ev y = some (In .i64 n)) (hr : -9223372036854775808 ≤ m - n ∧ m - n ≤ 9223372036854775807) (hK : K (In .i64 (m - n)) H) : OpWp c ⟨d, .binOp .sub t x y t', ty, pos, af, g⟩ env H K :=
  ow_sub hx hy (by rw [IntWalk.i64_in _ hr]; exact hK)
theorem ow_mul64 (hx : env.ev x = some (In .i64 m)) (hy : env.ev y = some (In .i64 n)) (hr : -9223372036854775808 ≤ m * n ∧ m * n ≤ 9223372036854775807) (hK : K (In .i64 (m * n)) H) : OpWp c ⟨d, .binOp .mul t x y t', ty, pos, af, g⟩ env H K :=
  ow_mul hx hy (by rw [IntWalk.i64_in _ hr]; exact hK)
theorem ow_quo (hx : env.ev x = some (In k m)) (hy : env.ev y = some (In k n)) (h0 : n ≠ 0) (hK : K (In k (k.wrap (m.tdiv n))) H) : OpWp c ⟨d, .binOp .quo t x y t', ty, pos, af, g⟩ env H K :=
  ow_valx rfl (fun _ _ hs => by simp [execOp, ev_val hs hx, ev_val hs hy, eqGuard, binOp, Op.intDiv, h0]) hK
theorem ow_shr (hx : env.ev x = some (In k m)) {k' : IntKind} (hy : env.ev y = some (In k' n)) (h0 : 0 ≤ n) (hK : K (In k (m.fdiv (2 ^ (min n.toNat k.bits)))) H) : OpWp c ⟨d, .binOp .shr t x y t', ty, pos, af, g⟩ env H K :=
  ow_valx rfl (fun _ _ hs => by simp [execOp, ev_val hs hx, ev_val hs hy, eqGuard, binOp, Op.shift, show ¬ n < 0 by omega]) hK
theorem ow_lss (hx : env.ev x = some (In k m)) (hy : env.ev y = some (In k n)) (hK : K (Bl (decide (m < n))) H) : OpWp c ⟨d, .binOp .lss t x y t', ty, pos, af, g⟩ env H K :=
  ow_valx rfl (fun _ _ hs => by simp [execOp, ev_val hs hx, ev_val hs hy, eqGuard, binOp, Op.intCmp]) hK
theorem ow_leq (hx : env.ev x = some (In k m)) (hy : env.ev y = some (In k n)) (hK : K (Bl (decide (m ≤ n))) H) : OpWp c ⟨d, .binOp .leq t x y t', ty, pos, af, g⟩ env H K :=
  ow_valx rfl (fun _ _ hs => by simp [execOp, ev_val hs hx, ev_val hs hy, eqGuard, binOp, Op.intCmp]) hK
theorem ow_gtr (hx : env.ev x = some (In k m)) (hy : env.ev y = some (In k n)) (hK : K (Bl (decide (n < m))) H) : OpWp c ⟨d, .binOp .gtr t x y t', ty, pos, af, g⟩ env H K :=
  ow_valx rfl (fun _ _ hs => by simp [execOp, ev_val hs hx, ev_val hs hy, eqGuard, binOp, Op.intCmp]) hK
theorem ow_geq (hx : env.ev x = some (In k m)) (hy : env.ev y = some (In k n)) (hK : K (Bl (decide (n ≤ m))) H) : OpWp c ⟨d, .binOp .geq t x y t', ty, pos, af, g⟩ env H K :=
  ow_valx rfl (fun _ _ hs => by simp [execOp, ev_val hs hx, ev_val hs hy, eqGuard, binOp, Op.intCmp]) hK
theorem ow_eql (hx : env.ev x = some (In k m)) (hy : env.ev y = some (In k n)) (hK : K (Bl (decide (m = n))) H) : OpWp c ⟨d, .binOp .eql t x y t', ty, pos, af, g⟩ env H K :=
  ow_valx rfl (fun _ _ hs => by simp [execOp, ev_val hs hx, ev_val hs hy, eqGuard, binOp, Op.intCmp]; rfl) hK
theorem ow_neq (hx : env.ev x = some (In k m)) (hy : env.ev y = some (In k n)) (hK : K (Bl (decide (¬ m = n))) H) : OpWp c ⟨d, .binOp .neq t x y t', ty, pos, af, g⟩ env H K :=
  ow_valx rfl (fun _ _ hs => by simp [execOp, ev_val hs hx, ev_val hs hy, eqGuard, binOp, Op.intCmp]; by_cases h : m = n <;> simp [h]) hK
theorem ow_convInt [TI P t'] (hu : TI.u P t' = .int k) [TI P t] {k' : IntKind} (hs : TI.u P t = .int k') (hx : env.ev x = some (In k' m)) (hK : K (In k (k.wrap m)) H) : OpWp c ⟨d, .convert t t' x, ty, pos, af, g⟩ env H K :=
  ow_valx rfl (fun _ _ h => by simp [execOp, ev_val h hx, convert, run_underlying (TI.hu (P := P) (t := t')), run_underlying (TI.hu (P := P) (t := t)), hu, hs, Conv.intToInt]) hK
theorem wrap_u64 (n : Int) (h : 0 ≤ n ∧ n ≤ 18446744073709551615) : IntKind.u64.wrap n = n := by
  have e : IntKind.u64.wrap n = n % 18446744073709551616 := by simp [IntKind.wrap, IntKind.signed, IntKind.bits]
  rw [e]; omega
theorem ow_convU64 [TI P t'] [TI P t] {k' : IntKind} (hu : TI.u P t' = .int .u64) (hs : TI.u P t = .int k') (hx : env.ev x = some (In k' m)) (hr : 0 ≤ m ∧ m ≤ 18446744073709551615) (hK : K (In .u64 m) H) : OpWp c ⟨d, .convert t t' x, ty, pos, af, g⟩ env H K :=
  ow_convInt hu hs hx (by rw [wrap_u64 _ hr]; exact hK)
theorem ow_convI64 [TI P t'] [TI P t] {k' : IntKind} (hu : TI.u P t' = .int .i64) (hs : TI.u P t = .int k') (hx : env.ev x = some (In k' m)) (hr : -9223372036854775808 ≤ m ∧ m ≤ 9223372036854775807) (hK : K (In .i64 m) H) : OpWp c ⟨d, .convert t t' x, ty, pos, af, g⟩ env H K :=
  ow_convInt hu hs hx (by rw [IntWalk.i64_in _ hr]; exact hK)
end ints

theorem ow_not {b : Bool} (hx : env.ev x = some (Bl b)) (hK : K (Bl (!b)) H) : OpWp c ⟨d, .unOp .not t x, ty, pos, af, g⟩ env H K :=
  ow_valx rfl (fun _ _ hs => by simp [execOp, ev_val hs hx, Op.unary]) hK
theorem ow_notdec {p : Prop} [Decidable p] (hx : env.ev x = some (Bl (decide p))) (hK : K (Bl (decide (¬ p))) H) : OpWp c ⟨d, .unOp .not t x, ty, pos, af, g⟩ env H K :=
  ow_not hx (by simpa using hK)
theorem ow_pickT {z : Operand} {b : Bool} {sx : S} (hz : env.ev z = some (Bl b)) (hb : b = true) (hx : env.ev x = some sx) (h1 : K sx H) : OpWp c ⟨d, .pick z x y, ty, pos, af, g⟩ env H K := by
  subst hb
  exact ow_val (fun a w hs => ⟨a.eval x, by simp [execOp, ev_val hs hz, asBool], ev_ok hs hx⟩) h1
theorem ow_pickF {z : Operand} {b : Bool} {sy : S} (hz : env.ev z = some (Bl b)) (hb : b = false) (hy : env.ev y = some sy) (h1 : K sy H) : OpWp c ⟨d, .pick z x y, ty, pos, af, g⟩ env H K := by
  subst hb
  exact ow_val (fun a w hs => ⟨a.eval y, by simp [execOp, ev_val hs hz, asBool], ev_ok hs hy⟩) h1

theorem ow_len [SL P t] {rows : List (List C)} (hx : env.ev x = some (.cell (.list rows))) (hK : rows.length ≤ 9223372036854775807 → K (In .i64 rows.length) H) :
    OpWp c ⟨d, .call { callee := .builtin .len, args := #[x], argTypes := #[t] }, ty, pos, af, g⟩ env H K := by
  by_cases hm : rows.length ≤ 9223372036854775807
  · exact ow_valx rfl (fun a w hs => by
      obtain ⟨ad, cap, hv, _⟩ := ev_ok hs hx
      simp [execOp, resolve, invoke, builtin, Builtin.len_, run_elem t, hv, goInt]) (hK hm)
  · intro a w hs
    obtain ⟨ad, cap, hv, h1, h2, _⟩ := ev_ok hs hx
    unfold maxLen at h2
    omega
theorem own_len {w : World} {v : Value} {e : TypeId} {k n : Nat} {vs : List Value} (h : w.ownsRow 0 e k v n vs) : ∃ a cap, v = .slice a n cap := by
  rcases h.2 with ⟨rfl, rfl⟩ | ⟨g, cap, cur, rfl, _⟩
  · exact ⟨_, _, rfl⟩
  · exact ⟨_, _, rfl⟩
theorem ow_lenown [SL P t] {v : Value} {e : TypeId} {k : Nat} {rows : List (List C)} {Hr : List Ch} (j : Nat) (hx : env.ev x = some (.cell (.val v))) (hp : pick [j] H = some ([.own v e k rows], Hr)) (hK : rows.length ≤ 9223372036854775807 → K (In .i64 rows.length) H) :
    OpWp c ⟨d, .call { callee := .builtin .len, args := #[x], argTypes := #[t] }, ty, pos, af, g⟩ env H K := by
  by_cases hm : rows.length ≤ 9223372036854775807
  · exact ow_valx rfl (fun a w hs => by
      obtain ⟨vs, ho, _⟩ := hs.heap.ok (.own v e k rows) ((pick_perm hp).mem_iff.2 (by simp))
      obtain ⟨ad, cap, hv⟩ := own_len ho
      simp [execOp, resolve, invoke, builtin, Builtin.len_, run_elem t, ev_val hs hx, hv, goInt]) (hK hm)
  · intro a w hs
    obtain ⟨vs, ho, _⟩ := hs.heap.ok (.own v e k rows) ((pick_perm hp).mem_iff.2 (by simp))
    rcases ho.2 with ⟨_, h0⟩ | ⟨g, cap, cur, _, _, _, h1, h2, _⟩
    · omega
    · unfold maxLen at h2
      omega
theorem run_fieldAt {P : Program} (s : TypeId) [TI P s] [TS P s] (hs : structB (TI.u P s) = true) {f off size : Nat} (hf : (TS.pl P s)[f]? = some (off, size)) (hz : 0 < size) (b o : Nat) (w : World) :
    (Instr.fieldAt s (.pointer (some ⟨b, o, none⟩)) f).run P w = .ok (.pointer (some ⟨b, o + off, none⟩)) w := by
  obtain ⟨fl, h1, rfl, h3⟩ := ts_get hf w
  unfold Instr.fieldAt
  simp only [Sem.run_bind, run_fields s hs, Result.andThen_ok, h1, Instr.sureAddr, fieldPlace, Sem.run_pure, h3, if_neg (show ¬ size = 0 by omega), add_at]

/-- The field of a block of its own. -/
theorem ow_fieldAddr {b o f off size : Nat} [TI P t] [TS P t] (hs : structB (TI.u P t) = true) (hx : env.ev x = some (.cell (.val (.pointer (some ⟨b, o, none⟩))))) (hf : (TS.pl P t)[f]? = some (off, size))
    (hz : 0 < size) (hK : K (.cell (.val (.pointer (some ⟨b, o + off, none⟩)))) H) : OpWp c ⟨d, .fieldAddr t x f, ty, pos, af, g⟩ env H K :=
  ow_valx rfl (fun a w h => by simp only [execOp, ev_val h hx, Sem.run_bind, run_fieldAt t hs hf hz, Result.andThen_ok, Sem.run_pure]) hK

theorem place_sub {w : World} {A : Nat → Prop} {row : List C} {b off : Nat} {vs : List Value} (hb : ¬ A b) (hc : Cells w b off vs) (hr : RdRow w A row vs) (o n : Nat) (hp : 0 < ((row.drop o).take n).length) : Rd1 w A (.place ((row.drop o).take n)) (.pointer (some ⟨b, off + o, none⟩)) :=
  ⟨b, off + o, _, rfl, hb, hp, cells_take (cells_drop hc o) n, rdRow_take n (rdRow_drop o hr)⟩

theorem ow_fieldAddrPlace {row r : List C} {f off size : Nat} [TI P t] [TS P t] (hs : structB (TI.u P t) = true) (hx : env.ev x = some (.cell (.place row))) (hf : (TS.pl P t)[f]? = some (off, size))
    (hz : 0 < size) (hr : (row.drop off).take size = r) (hp : 0 < r.length) (hK : K (.cell (.place r)) H) : OpWp c ⟨d, .fieldAddr t x f, ty, pos, af, g⟩ env H K :=
  ow_val (fun a w h => by
    obtain ⟨b, o, vs, he, hb, _, hc, hrow⟩ := ev_ok h hx
    subst hr
    refine ⟨.pointer (some ⟨b, o + off, none⟩), ?_, place_sub hb hc hrow _ _ hp⟩
    simp only [execOp, he, Sem.run_bind, run_fieldAt t hs hf hz, Result.andThen_ok, Sem.run_pure]) hK

/-- Loads: of a place. -/
theorem ow_loadPlace [TI P t] (ha : aggB (TI.u P t) = false) {e : C} {r : List C} (hx : env.ev x = some (.cell (.place (e :: r)))) (hK : K (.cell e) H) : OpWp c ⟨d, .load t x, ty, pos, af, g⟩ env H K :=
  ow_val (fun a w h => by
    obtain ⟨b, off, vs, he, hb, _, hc, v, r', rfl, hv, _⟩ := ev_ok h hx
    have h0 := hc 0 v (by simp)
    refine ⟨v, ?_, hv⟩
    simp only [execOp, he, Instr.loadAt, Instr.sureAddr, Sem.run_bind, Sem.run_pure, Result.andThen_ok, run_loadVar1 t ha (by simpa using h0)]) hK
theorem ow_loadPlaceN [TI P t] (ha : aggB (TI.u P t) = true) {row : List C} (hx : env.ev x = some (.cell (.place row))) (hz : (TI.i P t).size = row.length) (hK : K (.row row) H) : OpWp c ⟨d, .load t x, ty, pos, af, g⟩ env H K :=
  ow_val (fun a w h => by
    obtain ⟨b, off, vs, he, hb, _, hc, hr⟩ := ev_ok h hx
    refine ⟨.agg vs.toArray, ?_, vs.toArray, rfl, by simpa using hr⟩
    simp only [execOp, he, Instr.loadAt, Instr.sureAddr, Sem.run_bind, Sem.run_pure, Result.andThen_ok, run_loadVarN t ha (by rw [hz, rdRow_length hr]) hc]) hK

theorem blk_ok {a : Act} {w : World} (h : St c env H a w) {is : List Nat} {ch : Ch} {Hr : List Ch} (hp : pick is H = some ([ch], Hr)) : ch.ok w (c.av H) :=
  h.heap.ok ch ((pick_perm hp).mem_iff.2 (by simp))

/-- Loads: of a block of its own, number j among those owned. -/
theorem ow_load {b o : Nat} {row : List C} {e : C} {bt : TypeId} {Hr : List Ch} [TI P t] (j : Nat) (ha : aggB (TI.u P t) = false) (hx : env.ev x = some (.cell (.val (.pointer (some ⟨b, o, none⟩))))) (hp : pick [j] H = some ([.blk b bt row], Hr))
    (he : row[o]? = some e) (hK : K (.cell e) H) : OpWp c ⟨d, .load t x, ty, pos, af, g⟩ env H K :=
  ow_val (fun a w h => by
    obtain ⟨cs, hh, hr⟩ := blk_ok h hp
    obtain ⟨v, hv, hrd⟩ := rdRow_get hr he
    refine ⟨v, ?_, hrd⟩
    simp only [execOp, ev_val h hx, Instr.loadAt, Instr.sureAddr, Sem.run_bind, Sem.run_pure, Result.andThen_ok, run_loadVar1 t ha (show w.cell? ⟨b, o, none⟩ = some v by simp [World.cell?, hh, hv])]) hK
theorem ow_loadN {b o : Nat} {row r : List C} {bt : TypeId} {Hr : List Ch} [TI P t] (j : Nat) (ha : aggB (TI.u P t) = true) (hx : env.ev x = some (.cell (.val (.pointer (some ⟨b, o, none⟩))))) (hp : pick [j] H = some ([.blk b bt row], Hr))
    (hr : (row.drop o).take (TI.i P t).size = r) (hz : (TI.i P t).size = r.length) (hK : K (.row r) H) : OpWp c ⟨d, .load t x, ty, pos, af, g⟩ env H K :=
  ow_val (fun a w h => by
    obtain ⟨cs, hh, hrd⟩ := blk_ok h hp
    have h1 := rdRow_take (TI.i P t).size (rdRow_drop o hrd)
    rw [hr] at h1
    have hc := cells_take (cells_of_blk hh o) (TI.i P t).size
    refine ⟨.agg ((cs.drop o).take (TI.i P t).size).toArray, ?_, _, rfl, by simpa using h1⟩
    simp only [execOp, ev_val h hx, Instr.loadAt, Instr.sureAddr, Sem.run_bind, Sem.run_pure, Result.andThen_ok, run_loadVarN t ha (hz.trans (rdRow_length h1).symm) hc]) hK

theorem ow_loadAll {b : Nat} {row : List C} {bt : TypeId} {Hr : List Ch} [TI P t] (j : Nat) (ha : aggB (TI.u P t) = true) (hx : env.ev x = some (.cell (.val (.pointer (some ⟨b, 0, none⟩))))) (hp : pick [j] H = some ([.blk b bt row], Hr))
    (hz : (TI.i P t).size = row.length) (hK : K (.row row) H) : OpWp c ⟨d, .load t x, ty, pos, af, g⟩ env H K :=
  ow_loadN (r := row) j ha hx hp (by simp [hz]) hz hK

theorem ow_indexAddr [SL P t] {rows : List (List C)} {m : Int} {row : List C} (hx : env.ev x = some (.cell (.list rows))) (hy : env.ev y = some (In .i64 m))
    (h0 : 0 ≤ m) (hrow : rows[m.toNat]? = some row) (hz : (TI.i P (SL.e P t)).size = row.length) (hp : 0 < row.length) (hK : K (.cell (.place row)) H) : OpWp c ⟨d, .indexAddr t x y, ty, pos, af, g⟩ env H K :=
  ow_val (fun a w h => by
    obtain ⟨hlt, _⟩ := List.getElem?_eq_some_iff.1 hrow
    obtain ⟨ad, cap, he, _, _, hb⟩ := ev_ok h hx
    rcases hb with hb | ⟨b, off, vs, k, rfl, hA, hc, hk, hr⟩
    · omega
    · obtain ⟨cs, h1, h2, h3⟩ := rdRows_get hr hc hrow
      have hkl : k = row.length := by rw [← h2, rdRow_length h1]
      refine ⟨.pointer (some ⟨b, off + m.toNat * k, none⟩), ?_, b, _, cs, rfl, hA, hp, h3, h1⟩
      have : 0 ≤ m ∧ m < ↑rows.length := ⟨h0, by omega⟩
      simp [execOp, he, ev_val h hy, Instr.indexAt, asIntOf, run_elem t, this, run_sizeOf, add_at, hz, hkl]) hK
/-- An element of a list that is a map of another one. -/
theorem ow_indexAddrMap [SL P t] {α : Type} {f : α → List C} {l : List α} {k : Nat} (hx : env.ev x = some (.cell (.list (l.map f)))) (hy : env.ev y = some (In .i64 (k : Int)))
    (hlt : k < l.length) (hz : (TI.i P (SL.e P t)).size = (f l[k]).length) (hp : 0 < (f l[k]).length) (hK : K (.cell (.place (f l[k]))) H) : OpWp c ⟨d, .indexAddr t x y, ty, pos, af, g⟩ env H K :=
  ow_indexAddr hx hy (by omega) (by simp [hlt]) hz hp hK

theorem ow_indexAddrMapE [SL P t] {α : Type} {f : α → List C} {l : List α} {k : Nat} {row : List C} (hx : env.ev x = some (.cell (.list (l.map f)))) (hy : env.ev y = some (In .i64 (k : Int)))
    (hlt : k < l.length) (hrow : f l[k] = row) (hz : (TI.i P (SL.e P t)).size = row.length) (hp : 0 < row.length) (hK : K (.cell (.place row)) H) : OpWp c ⟨d, .indexAddr t x y, ty, pos, af, g⟩ env H K := by
  subst hrow
  exact ow_indexAddrMap hx hy hlt hz hp hK

theorem ow_indexAddrMapI [SL P t] {α : Type} {f : α → List C} {l : List α} {m : Int} {row : List C} (hx : env.ev x = some (.cell (.list (l.map f)))) (hy : env.ev y = some (In .i64 m))
    (h0 : 0 ≤ m) (hlt : m.toNat < l.length) (hrow : f l[m.toNat] = row) (hz : (TI.i P (SL.e P t)).size = row.length) (hp : 0 < row.length) (hK : K (.cell (.place row)) H) : OpWp c ⟨d, .indexAddr t x y, ty, pos, af, g⟩ env H K := by
  subst hrow
  exact ow_indexAddr hx hy h0 (by simp [hlt]) hz hp hK

theorem hb_cons (ch : Ch) (H : List Ch) : hb (ch :: H) = ch.bs ++ hb H := rfl
theorem stw_alloc {w : World} (h : StW c H w) (row : List C) (cs : List Value) (bt : TypeId) (hr : RdRow w (c.av H) row cs) :
    StW c (.blk w.heap.size bt row :: H) (w.alloc (.cells cs.toArray bt)) ∧ (∀ s v, SOk w (c.av H) s v → SOk (w.alloc (.cells cs.toArray bt)) (c.av (.blk w.heap.size bt row :: H)) s v) := by
  have h' : StW c ([] ++ H) w := h
  have hg : Grow (hb []) w (w.alloc (.cells cs.toArray bt)) := ⟨rfl, rfl, rfl, by simp, fun k hk _ => Below.heap_alloc _ _ _ hk⟩
  have := StW.step (H1' := [.blk w.heap.size bt row]) h' hg (by simp [hb, Ch.bs]) (by simp [hb, Ch.bs]) ?_
  · exact this
  · intro ch hch
    simp only [List.mem_singleton] at hch
    subst hch
    refine ⟨cs, by show (w.heap.push _)[w.heap.size]? = _; simp, ?_⟩
    refine rdRow_up (A := c.av H) (hg.up (by simp [hb])) ?_ row cs hr
    intro b hb'
    rcases hb' with hb' | hb'
    · exact .inl (.inl hb')
    · simp only [List.singleton_append, hb_cons, Ch.bs, List.mem_cons] at hb'
      rcases hb' with rfl | hb'
      · exact .inr (Nat.le_refl _)
      · exact .inl (.inr hb')

theorem ow_new {o : Oper} (row : List C) (bt : TypeId) (hrun : ∀ a w, St c env H a w → ∃ cs : List Value, (execOp a.eval o).run P w = .ok (.value (.pointer (some ⟨w.heap.size, 0, none⟩))) (w.alloc (.cells cs.toArray bt)) ∧ RdRow w (c.av H) row cs)
    (hK : ∀ b, K (.cell (.val (.pointer (some ⟨b, 0, none⟩)))) (.blk b bt row :: H)) : OpWp c o env H K := by
  intro a w hs next Q hn
  obtain ⟨cs, hr, hv⟩ := hrun a w hs
  unfold Oper.wp
  rw [hr]
  obtain ⟨h1, h2⟩ := stw_alloc hs.heap row cs bt hv
  exact hn _ _ _ _ (hK w.heap.size) h1 ⟨rfl, rfl⟩ h2

def zeroRow (z : Value) : List C := z.cells.toList.map .val
theorem rdRow_zero {w : World} {A : Nat → Prop} : ∀ (l : List Value), (∀ v ∈ l, v.oneCell' = true) → RdRow w A (l.map .val) l
  | [], _ => rfl
  | v :: l, h => ⟨v, l, rfl, ⟨rfl, h v (by simp)⟩, rdRow_zero l (fun u hu => h u (by simp [hu]))⟩

theorem ow_alloc {e : TypeId} [TI P e] {z : Value} (hz : (TI.i P e).zero = some z) (h1 : z.cells.toList.all Value.oneCell' = true) (hK : ∀ b, K (.cell (.val (.pointer (some ⟨b, 0, none⟩)))) (.blk b e (zeroRow z) :: H)) : OpWp c ⟨d, .alloc e, ty, pos, af, g⟩ env H K :=
  ow_new (zeroRow z) e (fun a w _ => ⟨z.cells.toList, by
    simp [execOp, Instr.alloc, run_zeroValue e hz, newVar, newRow], rdRow_zero _ (List.all_eq_true.1 h1)⟩) hK
theorem ow_box {e : TypeId} {row : List C} (hx : env.ev x = some (.row row)) (hK : ∀ b, K (.cell (.val (.pointer (some ⟨b, 0, none⟩)))) (.blk b e row :: H)) : OpWp c ⟨d, .box e x, ty, pos, af, g⟩ env H K :=
  ow_new row e (fun a w h => by
    obtain ⟨cs, he, hr⟩ := ev_ok h hx
    exact ⟨cs.toList, by simp [execOp, Instr.box, he, newVar, newRow, Value.cells], hr⟩) hK
theorem cells_one {v : Value} (h : v.oneCell' = true) : v.cells = #[v] := by cases v <;> simp_all [Value.oneCell', Value.cells]
theorem ow_box1 {e : TypeId} {c1 : C} (hx : env.ev x = some (.cell c1)) (hK : ∀ b, K (.cell (.val (.pointer (some ⟨b, 0, none⟩)))) (.blk b e [c1] :: H)) : OpWp c ⟨d, .box e x, ty, pos, af, g⟩ env H K :=
  ow_new [c1] e (fun a w h => by
    have hr := ev_ok h hx
    exact ⟨[a.eval x], by simp [execOp, Instr.box, cells_one (rd1_one _ _ hr), newVar, newRow], _, _, rfl, hr, rfl⟩) hK
end
end Go.Vc
end

section
namespace Go.Vc
open Go.RowKit

section
variable {P : Program} [Gl P] {nt : Nat} {c : Cx P nt} {env : Env} {H : List Ch} {K : S → List Ch → Prop}
variable {d : Option Tmp} {ty t t' : TypeId} {pos : String} {af : Array Edge} {g : Option (Nat × Bool)} {x y : Operand}

theorem hb_app (X Y : List Ch) : hb (X ++ Y) = hb X ++ hb Y := by simp [hb]

/-- The cells of a slot's value. -/
def S.cells : S → Option (List C)
  | .cell c => some [c]
  | .row r => some r
  | _ => none

theorem cells_ok {w : World} {A : Nat → Prop} {s : S} {v : Value} {r : List C} (h : SOk w A s v) (hr : s.cells = some r) : RdRow w A r v.cells.toList := by
  cases s with
  | cell c1 =>
    simp only [S.cells, Option.some.injEq] at hr
    subst hr
    have h : Rd1 w A c1 v := h
    rw [cells_one (rd1_one _ _ h)]
    exact ⟨v, [], rfl, h, rfl⟩
  | row r' =>
    simp only [S.cells, Option.some.injEq] at hr
    subst hr
    obtain ⟨cs, rfl, h⟩ := h
    exact h
  | _ => simp [S.cells] at hr

theorem setRow_grow (w : World) (b : Nat) (cs : Array Value) : Grow [b] w (w.setRow b cs) :=
  ⟨rfl, rfl, rfl, by simp, fun k _ hX => setRow_other w b k cs (by simpa using hX)⟩

theorem stw_store {w : World} {b : Nat} {bt : TypeId} {row row' : List C} {cs cs' : List Value} {Hr : List Ch} (h : StW c (.blk b bt row :: Hr) w) (hh : w.heap[b]? = some (.cells cs.toArray bt (0, 0))) (hr : RdRow w (c.av (.blk b bt row :: Hr)) row' cs') :
    StW c (.blk b bt row' :: Hr) (w.setRow b cs'.toArray) ∧ (∀ s v, SOk w (c.av (.blk b bt row :: Hr)) s v → SOk (w.setRow b cs'.toArray) (c.av (.blk b bt row' :: Hr)) s v) := by
  have hg : Grow (hb [.blk b bt row]) w (w.setRow b cs'.toArray) := setRow_grow w b _
  refine StW.step (H1 := [.blk b bt row]) (H1' := [.blk b bt row']) h hg (by simp [hb, Ch.bs]) (by simp [hb, Ch.bs]) ?_
  intro ch hch
  simp only [List.mem_singleton] at hch
  subst hch
  refine ⟨cs', setRow_heap w b _ _ bt _ hh, ?_⟩
  refine rdRow_up (A := c.av (.blk b bt row :: Hr)) (hg.up ?_) ?_ row' cs' hr
  · intro b' hb'
    exact .inr (List.mem_append.2 (.inl hb'))
  · intro b' hb'
    exact .inl hb'

theorem ow_storeN {b o : Nat} {row r row' : List C} {s : S} {bt : TypeId} {Hr : List Ch} [TI P t] (j : Nat) (hx : env.ev x = some (.cell (.val (.pointer (some ⟨b, o, none⟩))))) (hy : env.ev y = some s) (hs : s.cells = some r) (hp : pick [j] H = some ([.blk b bt row], Hr))
    (hz : (TI.i P t).size = r.length) (hlen : o + r.length ≤ row.length) (hrow : row.take o ++ r ++ row.drop (o + r.length) = row') (hK : K .void (.blk b bt row' :: Hr)) : OpWp c ⟨d, .store t x y, ty, pos, af, g⟩ env H K := by
  intro a w h next Q hn
  have h' : StW c (.blk b bt row :: Hr) w := h.heap.perm (pick_perm hp)
  have hav : c.av (.blk b bt row :: Hr) = c.av H := av_perm c (pick_perm hp)
  obtain ⟨cs, hh, hr⟩ := blk_ok h hp
  have hcv := cells_ok (ev_ok h hy) hs
  have hlr := rdRow_length hr
  have hlv := rdRow_length hcv
  have hst := run_storeCells_at P b o bt (a.eval y).cells.toList 0 cs.toArray w hh (by simp only [Nat.add_zero, hlv, List.size_toArray]; omega) (rdRow_one hcv)
  simp only [Nat.add_zero] at hst
  have hrun : (execOp a.eval ⟨d, .store t x y, ty, pos, af, g⟩).run P w = .ok .skip (w.setRow b (cs.take o ++ (a.eval y).cells.toList ++ cs.drop (o + r.length)).toArray) := by
    have hsz : ¬ (a.eval y).cells.size ≠ (TI.i P t).size := by rw [hz, ← hlv]; simp
    simp only [execOp, ev_val h hx, Instr.storeAt, Instr.sureAddr, storeVar, Sem.run_bind, Sem.run_pure, Result.andThen_ok, run_sizeOf, if_neg hsz, hst]
    simp [hlv]
  have hnew : RdRow w (c.av (.blk b bt row :: Hr)) row' (cs.take o ++ (a.eval y).cells.toList ++ cs.drop (o + r.length)) := by
    subst hrow
    rw [hav]
    exact rdRow_append (rdRow_append (rdRow_take o hr) hcv) (rdRow_drop _ hr)
  obtain ⟨g1, g2⟩ := stw_store h' hh hnew
  unfold Oper.wp
  rw [hrun]
  exact hn .void _ undef _ hK g1 trivial (fun s v hs => g2 s v (by rw [hav]; exact hs))

theorem ow_storeAll {b : Nat} {row r : List C} {s : S} {bt : TypeId} {Hr : List Ch} [TI P t] (j : Nat) (hx : env.ev x = some (.cell (.val (.pointer (some ⟨b, 0, none⟩))))) (hy : env.ev y = some s) (hs : s.cells = some r) (hp : pick [j] H = some ([.blk b bt row], Hr))
    (hz : (TI.i P t).size = r.length) (hlen : row.length = r.length) (hK : K .void (.blk b bt r :: Hr)) : OpWp c ⟨d, .store t x y, ty, pos, af, g⟩ env H K :=
  ow_storeN j hx hy hs hp hz (by omega) (by simp [← hlen]) hK
theorem ow_store1 {b o : Nat} {row : List C} {c1 : C} {bt : TypeId} {Hr : List Ch} [TI P t] (j : Nat) (hx : env.ev x = some (.cell (.val (.pointer (some ⟨b, o, none⟩))))) (hy : env.ev y = some (.cell c1)) (hp : pick [j] H = some ([.blk b bt row], Hr))
    (hz : (TI.i P t).size = 1) (hlen : o < row.length) (hK : K .void (.blk b bt (row.set o c1) :: Hr)) : OpWp c ⟨d, .store t x y, ty, pos, af, g⟩ env H K :=
  ow_storeN (r := [c1]) j hx hy rfl hp hz hlen (by rw [List.set_eq_take_append_cons_drop]; simp [hlen]) hK

def fillC (pl : Array (Nat × Nat)) : List C → List (Nat × S) → Option (List C)
  | row, [] => some row
  | row, (i, s) :: rest =>
    match pl[i]?, s.cells with
    | some (off, size), some r => if r.length = size ∧ off + size ≤ row.length then fillC pl (row.take off ++ r ++ row.drop (off + size)) rest else none
    | _, _ => none

theorem foldl_set (off : Nat) : ∀ (l : List Value) (j : Nat) (cs : Array Value), off + j + l.length ≤ cs.size →
    (l.zipIdx j).foldl (fun cs (x : Value × Nat) => cs.setIfInBounds (off + x.2) x.1) cs = (cs.toList.take (off + j) ++ l ++ cs.toList.drop (off + j + l.length)).toArray
  | [], j, cs, _ => by simp
  | v :: l, j, cs, h => by
    simp only [List.length_cons] at h
    simp only [List.zipIdx_cons, List.foldl_cons]
    rw [foldl_set off l (j + 1) _ (by simp; omega)]
    apply Array.ext'
    simp only [Array.toList_setIfInBounds]
    have hlt : off + j < cs.toList.length := by simp; omega
    rw [show off + (j + 1) = off + j + 1 by omega, List.take_succ_eq_append_getElem (by simpa using hlt)]
    simp only [List.length_cons]
    rw [List.take_set_of_le (by omega), List.drop_set_of_lt (by omega)]
    simp only [List.getElem_set_self, List.append_assoc, List.cons_append, List.nil_append]
    rw [show off + j + 1 + l.length = off + j + (l.length + 1) by omega]

theorem foldl_set' (off : Nat) (vs : Array Value) (cs : Array Value) (h : off + vs.size ≤ cs.size) :
    vs.zipIdx.foldl (fun cs (x : Value × Nat) => cs.setIfInBounds (off + x.2) x.1) cs = (cs.toList.take off ++ vs.toList ++ cs.toList.drop (off + vs.size)).toArray := by
  have := foldl_set off vs.toList 0 cs (by simpa using h)
  simp only [Nat.add_zero, Array.length_toList] at this
  rw [← this, ← Array.foldl_toList]
  simp

def Parts (w : World) (A : Nat → Prop) : List (Nat × S) → List (Nat × Value) → Prop
  | [], vs => vs = []
  | (i, s) :: r, vs => ∃ v vr, vs = (i, v) :: vr ∧ SOk w A s v ∧ Parts w A r vr

theorem fill_ok {w : World} {A : Nat → Prop} {pl : Array (Nat × Nat)} : ∀ {ps : List (Nat × S)} {vs : List (Nat × Value)} {row row' : List C} {cs : List Value}, Parts w A ps vs → RdRow w A row cs → fillC pl row ps = some row' →
    ∃ cs' : List Value, Instr.fill (pl[·]?) cs.toArray vs = some cs'.toArray ∧ RdRow w A row' cs'
  | [], _, row, row', cs, hp, hr, hf => by
    simp only [Parts] at hp
    subst hp
    simp only [fillC, Option.some.injEq] at hf
    subst hf
    exact ⟨cs, rfl, hr⟩
  | (i, s) :: ps, _, row, row', cs, hp, hr, hf => by
    obtain ⟨v, vr, rfl, hv, hp⟩ := hp
    simp only [fillC] at hf
    split at hf
    · rename_i off size r h1 h2
      split at hf
      · rename_i hle
        obtain ⟨hrl, hle⟩ := hle
        have hc := cells_ok hv h2
        have hl := rdRow_length hc
        simp only [Array.length_toList] at hl
        have hl2 := rdRow_length hr
        obtain ⟨cs', g1, g2⟩ := fill_ok hp (rdRow_append (rdRow_append (rdRow_take off hr) hc) (rdRow_drop (off + size) hr)) hf
        refine ⟨cs', ?_, g2⟩
        simp only [Instr.fill, h1]
        have hn : ¬ (v.cells.size ≠ size || off + v.cells.size > cs.toArray.size) = true := by
          simp only [List.size_toArray, ne_eq, gt_iff_lt, Bool.or_eq_true, decide_eq_true_eq, not_or, Decidable.not_not]
          omega
        rw [if_neg hn, foldl_set' off v.cells cs.toArray (by simp only [List.size_toArray]; omega)]
        rw [show v.cells.size = size by omega]
        exact g1
      · cases hf
    · cases hf

def Env.parts (env : Env) : List (Nat × Operand) → Option (List (Nat × S))
  | [] => some []
  | (i, x) :: r => match env.ev x, Env.parts env r with
    | some s, some ss => some ((i, s) :: ss)
    | _, _ => none

theorem parts_ok {a : Act} {w : World} (h : St c env H a w) : ∀ {ps : List (Nat × Operand)} {ss : List (Nat × S)}, env.parts ps = some ss → Parts w (c.av H) ss (ps.map fun (i, x) => (i, a.eval x))
  | [], ss, hp => by simp only [Env.parts, Option.some.injEq] at hp; subst hp; rfl
  | (i, x) :: ps, ss, hp => by
    simp only [Env.parts] at hp
    split at hp
    · rename_i s ss' h1 h2
      simp only [Option.some.injEq] at hp
      subst hp
      exact ⟨_, _, rfl, ev_ok h h1, parts_ok h h2⟩
    · cases hp

theorem ow_build [TI P t] [TS P t] (hs : structB (TI.u P t) = true) {z : Value} (hz : (TI.i P t).zero = some z) (h1 : z.cells.toList.all Value.oneCell' = true) {ps : Array (Nat × Operand)} {ss : List (Nat × S)} (hp : env.parts ps.toList = some ss) {row : List C}
    (hf : fillC (TS.pl P t) (zeroRow z) ss = some row) (hK : K (.row row) H) : OpWp c ⟨d, .build t ps, ty, pos, af, g⟩ env H K :=
  ow_val (s := .row row) (fun a w h => by
    obtain ⟨cs, g1, g2⟩ := fill_ok (parts_ok h hp) (rdRow_zero _ (List.all_eq_true.1 h1)) hf
    refine ⟨.agg cs.toArray, ?_, cs.toArray, rfl, by simpa using g2⟩
    simp only [Array.toArray_toList] at g1
    simp only [execOp, Instr.build, Sem.run_bind, run_zeroValue t hz, run_fields t hs, Result.andThen_ok, TS.hpl, Array.toList_map, g1, Sem.run_pure]) hK

/-- A slice literal, each of whose elements is written out, in order. -/
def sliceRows (size : Nat) : Nat → List (Nat × S) → Option (List (List C))
  | _, [] => some []
  | n, (i, s) :: r => match s.cells with
    | some row => if i = n ∧ row.length = size then (sliceRows size (n + 1) r).map (row :: ·) else none
    | none => none

theorem fill_rows {w : World} {A : Nat → Prop} {size : Nat} : ∀ {ps : List (Nat × S)} {vs : List (Nat × Value)} {n : Nat} {rows : List (List C)} {pre post : List Value}, Parts w A ps vs → sliceRows size n ps = some rows → pre.length = n * size → post.length = rows.length * size →
    ∃ cs : List Value, Instr.fill (fun i => some (i * size, size)) (pre ++ post).toArray vs = some (pre ++ cs).toArray ∧ RdRows w A size rows cs
  | [], _, n, rows, pre, post, hp, hs, h1, h2 => by
    simp only [Parts] at hp
    subst hp
    simp only [sliceRows, Option.some.injEq] at hs
    subst hs
    have : post = [] := List.eq_nil_of_length_eq_zero (by simpa using h2)
    subst this
    exact ⟨[], rfl, rfl⟩
  | (i, s) :: ps, _, n, rows, pre, post, hp, hs, h1, h2 => by
    obtain ⟨v, vr, rfl, hv, hp⟩ := hp
    simp only [sliceRows] at hs
    split at hs
    · rename_i row hc
      split at hs
      · rename_i hi
        obtain ⟨rfl, hrl⟩ := hi
        obtain ⟨rows', hs', rfl⟩ := Option.map_eq_some_iff.1 hs
        have hcv := cells_ok hv hc
        have hl := rdRow_length hcv
        simp only [Array.length_toList] at hl
        simp only [List.length_cons, Nat.add_mul, Nat.one_mul] at h2
        obtain ⟨cs, g1, g2⟩ := fill_rows (pre := pre ++ v.cells.toList) (post := post.drop size) hp hs' (by simp [h1, Nat.add_mul]; omega) (by simp [h2])
        refine ⟨v.cells.toList ++ cs, ?_, v.cells.toList, cs, rfl, by simp; omega, hcv, g2⟩
        simp only [Instr.fill]
        have hn : ¬ (v.cells.size ≠ size || i * size + v.cells.size > (pre ++ post).toArray.size) = true := by
          simp only [List.size_toArray, List.length_append, ne_eq, gt_iff_lt, Bool.or_eq_true, decide_eq_true_eq, not_or, Decidable.not_not]
          omega
        rw [if_neg hn, foldl_set' (i * size) v.cells (pre ++ post).toArray (by simp only [List.size_toArray, List.length_append]; omega)]
        rw [← List.append_assoc, ← g1]
        congr 2
        rw [← h1]
        simp only [List.take_left']
        rw [List.drop_append]
        simp [show v.cells.size = size by omega]
      · cases hs
    · cases hs

omit [Gl P] in
theorem run_buildSlice [SL P t] {z : Value} (hz : (TI.i P (SL.e P t)).zero = some z) {w : World} {A : Nat → Prop} {size len : Nat} (hsz : (TI.i P (SL.e P t)).size = size) {ps : List (Nat × S)} {vs : List (Nat × Value)} {rows : List (List C)}
    (hp : Parts w A ps vs) (hs : sliceRows size 0 ps = some rows) (hl : rows.length = len) (hlim : len * size ≤ 16777216) :
    ∃ cs : List Value, (Instr.buildSlice t len vs.toArray).run P w = .ok (.slice (some ⟨w.heap.size, 0, none⟩) len len) (w.alloc (.cells cs.toArray (SL.e P t))) ∧ RdRows w A size rows cs := by
  subst hl
  have hpost : ∀ zz : Array Value, ((Array.range (rows.length * size)).map fun i => zz[i % zz.size]!).toList.length = rows.length * size := by intro zz; simp
  have hng : ¬ rows.length * size > 2 ^ 24 := by omega
  have key : ∀ zz : Array Value, ∃ cs : List Value, Instr.fill (fun i => some (i * size, size)) ((Array.range (rows.length * size)).map fun i => zz[i % zz.size]!) vs = some cs.toArray ∧ RdRows w A size rows cs := by
    intro zz
    obtain ⟨cs, g1, g2⟩ := fill_rows (pre := []) (post := ((Array.range (rows.length * size)).map fun i => zz[i % zz.size]!).toList) hp hs (by simp) (hpost zz)
    simp only [List.nil_append, Array.toArray_toList] at g1
    exact ⟨cs, g1, g2⟩
  by_cases h0 : rows.length * size = 0
  · obtain ⟨cs, g1, g2⟩ := key #[]
    refine ⟨cs, ?_, g2⟩
    simp only [Instr.buildSlice, Sem.run_bind, run_elem t, Result.andThen_ok, run_sizeOf, hsz, if_neg hng, if_pos h0, Sem.run_pure, g1, newRow, run_newObj, World.alloc_eq]
  · obtain ⟨cs, g1, g2⟩ := key z.cells
    refine ⟨cs, ?_, g2⟩
    simp only [Instr.buildSlice, Sem.run_bind, run_elem t, Result.andThen_ok, run_sizeOf, hsz, if_neg hng, if_neg h0, Sem.run_pure, run_zeroValue _ hz, g1, newRow, run_newObj, World.alloc_eq]

theorem rdRows_cells {w : World} {A : Nat → Prop} {k : Nat} {rows : List (List C)} {vs : List Value} {b : Nat} {e : TypeId} (h : RdRows w A k rows vs) (hk : 0 < k) (hh : w.heap[b]? = some (.cells vs.toArray e (0, 0))) (hb : ¬ A b) (cap : Nat) (h1 : rows.length ≤ cap) (h2 : cap ≤ maxLen) :
    Rd1 w A (.list rows) (.slice (some ⟨b, 0, none⟩) rows.length cap) :=
  ⟨_, cap, rfl, h1, h2, .inr ⟨b, 0, vs, k, rfl, hb, by simpa using cells_of_blk hh 0, hk, h⟩⟩

/-- As what is only read. -/
theorem ow_buildSlice [SL P t] {z : Value} (hz : (TI.i P (SL.e P t)).zero = some z) {ps : Array (Nat × Operand)} {ss : List (Nat × S)} (hp : env.parts ps.toList = some ss) {rows : List (List C)} {len : Nat}
    (hpos : 0 < (TI.i P (SL.e P t)).size) (hs : sliceRows (TI.i P (SL.e P t)).size 0 ss = some rows) (hl : rows.length = len) (hlim : len * (TI.i P (SL.e P t)).size ≤ 16777216) (hK : K (.cell (.list rows)) H) : OpWp c ⟨d, .buildSlice t len ps, ty, pos, af, g⟩ env H K := by
  intro a w h next Q hn
  obtain ⟨cs, g1, g2⟩ := run_buildSlice (P := P) (t := t) hz rfl (parts_ok h hp) hs hl hlim
  have hg : Grow (hb []) w (w.alloc (.cells cs.toArray (SL.e P t))) := ⟨rfl, rfl, rfl, by simp, fun k hk _ => Below.heap_alloc _ _ _ hk⟩
  have h' : StW c ([] ++ H) w := h.heap
  obtain ⟨s1, s2⟩ := StW.step (H1' := []) h' hg (by simp [hb]) (by simp [hb]) (by simp)
  have hav : ¬ c.av H w.heap.size := fun hx => by have := h.heap.avlt _ hx; omega
  have hr := rdRows_up (hg.up (A := c.av H) (by simp [hb])) (fun b hb => Or.inl hb) _ _ _ g2
  unfold Oper.wp
  have hrun : (execOp a.eval ⟨d, .buildSlice t len ps, ty, pos, af, g⟩).run P w = .ok (.value (.slice (some ⟨w.heap.size, 0, none⟩) len len)) (w.alloc (.cells cs.toArray (SL.e P t))) := by
    have : (ps.map fun (i, x) => (i, a.eval x)) = (ps.toList.map fun (i, x) => (i, a.eval x)).toArray := by apply Array.ext'; simp
    simp only [execOp, this, Sem.run_bind, g1, Result.andThen_ok, Sem.run_pure]
  rw [hrun]
  refine hn _ H _ _ hK s1 ?_ s2
  subst hl
  exact rdRows_cells (e := SL.e P t) hr hpos (by show (w.heap.push _)[w.heap.size]? = _; simp) hav _ (Nat.le_refl _) (by unfold maxLen; have : rows.length * 1 ≤ rows.length * (TI.i P (SL.e P t)).size := Nat.mul_le_mul_left _ hpos; omega)

/-- A slice whose block, if any, was made later. -/
def FreshN (n : Nat) (v : Value) : Prop := ∀ b, v.ownBlock = some b → n ≤ b
theorem FreshN.mono {n m : Nat} {v : Value} (h : FreshN m v) (hn : n ≤ m) : FreshN n v := fun b hb => Nat.le_trans hn (h b hb)
/-- .. since the function began. -/
def Cx.Fresh {P : Program} [Gl P] {nt : Nat} (c : Cx P nt) (v : Value) : Prop := FreshN c.B.heap.size v
/-- As a slice of one's own, that may grow. -/
theorem ow_buildSliceOwn [SL P t] {z : Value} (hz : (TI.i P (SL.e P t)).zero = some z) {ps : Array (Nat × Operand)} {ss : List (Nat × S)} (hp : env.parts ps.toList = some ss) {rows : List (List C)} {len : Nat}
    (hpos : 0 < (TI.i P (SL.e P t)).size) (hs : sliceRows (TI.i P (SL.e P t)).size 0 ss = some rows) (hl : rows.length = len) (hlim : len * (TI.i P (SL.e P t)).size ≤ 16777216)
    (hK : ∀ v, v.oneCell' = true → c.Fresh v → K (.cell (.val v)) (.own v (SL.e P t) (TI.i P (SL.e P t)).size rows :: H)) : OpWp c ⟨d, .buildSlice t len ps, ty, pos, af, g⟩ env H K := by
  intro a w h next Q hn
  obtain ⟨cs, g1, g2⟩ := run_buildSlice (P := P) (t := t) hz rfl (parts_ok h hp) hs hl hlim
  have hg : Grow (hb []) w (w.alloc (.cells cs.toArray (SL.e P t))) := ⟨rfl, rfl, rfl, by simp, fun k hk _ => Below.heap_alloc _ _ _ hk⟩
  have h' : StW c ([] ++ H) w := h.heap
  have hlen := rdRows_length g2
  subst hl
  have hmax : rows.length ≤ maxLen := by unfold maxLen; have : rows.length * 1 ≤ rows.length * (TI.i P (SL.e P t)).size := Nat.mul_le_mul_left _ hpos; omega
  obtain ⟨s1, s2⟩ := StW.step (H1' := [.own (.slice (some ⟨w.heap.size, 0, none⟩) rows.length rows.length) (SL.e P t) (TI.i P (SL.e P t)).size rows]) h' hg (by simp [hb, Ch.bs, Value.ownBlock]) (by simp [hb, Ch.bs, Value.ownBlock]) (by
    intro ch hch
    simp only [List.mem_singleton] at hch
    subst hch
    refine ⟨cs, ⟨hlen, .inr ⟨w.heap.size, rows.length, cs.toArray, rfl, Nat.zero_le _, by show (w.heap.push _)[w.heap.size]? = _; simp, Nat.le_refl _, hmax, by simpa using hlen, by simp [← hlen]⟩⟩, ?_, hpos⟩
    refine rdRows_up (hg.up (A := c.av H) (by simp [hb])) ?_ _ _ _ g2
    intro b hb'
    rcases hb' with hb' | hb'
    · exact .inl (.inl hb')
    · rw [hb_app] at hb'
      rcases List.mem_append.1 hb' with hb' | hb'
      · simp only [hb, Ch.bs, Value.ownBlock, List.flatMap_cons, List.flatMap_nil, List.append_nil, Option.mem_toList, Option.some.injEq] at hb'
        exact .inr (by omega)
      · exact .inl (.inr hb'))
  unfold Oper.wp
  have hrun : (execOp a.eval ⟨d, .buildSlice t rows.length ps, ty, pos, af, g⟩).run P w = .ok (.value (.slice (some ⟨w.heap.size, 0, none⟩) rows.length rows.length)) (w.alloc (.cells cs.toArray (SL.e P t))) := by
    have : (ps.map fun (i, x) => (i, a.eval x)) = (ps.toList.map fun (i, x) => (i, a.eval x)).toArray := by apply Array.ext'; simp
    simp only [execOp, this, Sem.run_bind, g1, Result.andThen_ok, Sem.run_pure]
  rw [hrun]
  exact hn _ _ _ _ (hK _ rfl (fun b hb => by simp only [Value.ownBlock, Option.some.injEq] at hb; have := h.heap.size; omega)) s1 ⟨rfl, rfl⟩ s2
end
end Go.Vc
end

section
namespace Go.Vc
open Go.RowKit

section
variable {P : Program} [Gl P] {nt : Nat} {c : Cx P nt} {env : Env} {H : List Ch} {K : S → List Ch → Prop}
variable {d : Option Tmp} {ty t t' : TypeId} {pos : String} {af : Array Edge} {g : Option (Nat × Bool)} {x y : Operand}

theorem ow_append0F {v : Value} {k : Nat} {rows rows2 : List (List C)} {Hr : List Ch} [SL P t] {z : Value} (j : Nat) (hz : (TI.i P (SL.e P t)).zero = some z)
    (hzs : z.cells.size = k) (hsz : (TI.i P (SL.e P t)).size = k) (hx : env.ev x = some (.cell (.val v))) (hy : env.ev y = some (.cell (.list rows2))) (hp : pick [j] H = some ([.own v (SL.e P t) k rows], Hr))
    (hrow : ∀ row ∈ rows2, row.length = k) (hlim : (rows.length + rows2.length) * (TI.i P (SL.e P t)).bytes ≤ 140737488355328) (hlim2 : rows.length + rows2.length ≤ 9223372036854775807)
    (hK : ∀ v', v'.oneCell' = true → (c.Fresh v → c.Fresh v') → K (.cell (.val v')) (.own v' (SL.e P t) k (rows ++ rows2) :: Hr)) :
    OpWp c ⟨d, .call { callee := .builtin .append, args := #[x, y], argTypes := #[t, t] }, ty, pos, af, g⟩ env H K := by
  intro a w h next Q hn
  have hperm := pick_perm hp
  have h' : StW c (.own v (SL.e P t) k rows :: Hr) w := h.heap.perm hperm
  have hav : c.av (.own v (SL.e P t) k rows :: Hr) = c.av H := av_perm c hperm
  obtain ⟨vs, ho, hr, hk⟩ := h'.ok (.own v (SL.e P t) k rows) (by simp)
  have h1x := ev_val h hx
  obtain ⟨ad, cap, hye, _, _, hcase⟩ := ev_ok h hy
  -- what a good outcome is
  have fin : ∀ v' w' vs2, (Builtin.append_ #[t, t] ty #[v, a.eval y]).run P w = .ok v' w' → w'.ownsRow 0 (SL.e P t) k v' (rows.length + rows2.length) (vs ++ vs2) → w.grownBy w' v.ownBlock → (∀ b, v'.ownBlock = some b → v.ownBlock = some b ∨ w.heap.size ≤ b) → RdRows w (c.av H) k rows2 vs2 →
      Oper.wp P ⟨d, .call { callee := .builtin .append, args := #[x, y], argTypes := #[t, t] }, ty, pos, af, g⟩ a w next Q := by
    intro v' w' vs2 hrun ho' hg hnew hr2
    have hgr : Grow (hb [.own v (SL.e P t) k rows]) w w' := by
      have := Grow.of_grownBy hg
      simpa [hb, Ch.bs] using this
    have hAold : ∀ b, c.av (.own v' (SL.e P t) k (rows ++ rows2) :: Hr) b → c.av H b ∨ w.heap.size ≤ b := by
      intro b hbm
      rcases hbm with hbm | hbm
      · exact .inl (.inl hbm)
      · simp only [hb_cons, Ch.bs, List.mem_append, Option.mem_toList] at hbm
        rw [← hav]
        rcases hbm with hbm | hbm
        · rcases hnew b hbm with h1 | h1
          · exact .inl (.inr (by simp [hb_cons, Ch.bs, h1]))
          · exact .inr h1
        · exact .inl (.inr (by simp only [hb_cons, List.mem_append]; exact .inr hbm))
    have hupA : Up (c.av H) w w' := by
      refine hgr.up (fun b hbm => ?_)
      rw [← hav]
      exact .inr (by simp only [hb, List.flatMap_cons, List.flatMap_nil, List.append_nil] at hbm; simp only [hb_cons, List.mem_append]; exact .inl hbm)
    obtain ⟨s1, s2⟩ := StW.step (H1 := [.own v (SL.e P t) k rows]) (H1' := [.own v' (SL.e P t) k (rows ++ rows2)]) h' hgr
      (by
        intro b hbm
        simp only [hb, Ch.bs, List.flatMap_cons, List.flatMap_nil, List.append_nil, Option.mem_toList] at hbm ⊢
        exact hnew b hbm)
      (by cases hv : v'.ownBlock <;> simp [hb, Ch.bs, hv])
      (by
        intro ch hch
        simp only [List.mem_singleton] at hch
        subst hch
        refine ⟨vs ++ vs2, ?_, ?_, hk⟩
        · rw [List.length_append]; exact ho'
        · refine rdRows_append (rdRows_up hupA hAold k rows vs (hav ▸ hr)) (rdRows_up hupA hAold k rows2 vs2 hr2))
    unfold Oper.wp
    have hex : (execOp a.eval ⟨d, .call { callee := .builtin .append, args := #[x, y], argTypes := #[t, t] }, ty, pos, af, g⟩).run P w = .ok (.value v') w' := by
      simp only [execOp, resolve, invoke, builtin, Sem.run_bind, Sem.run_pure, Result.andThen_ok, List.map_toArray, List.map_cons, List.map_nil, h1x, hrun]
    rw [hex]
    obtain ⟨al, ac, hv'⟩ := own_len ho'
    have h1' : v'.oneCell' = true := by rw [hv']; rfl
    exact hn _ _ _ _ (hK v' h1' (fun hf b hb => (hnew b hb).elim (hf b) (fun h => Nat.le_trans h'.size h))) s1 ⟨rfl, h1'⟩ (fun s v hs => s2 s v (by rw [List.singleton_append, hav]; exact hs))
  by_cases hzero : rows2.length = 0
  · have h0 : rows2 = [] := List.eq_nil_of_length_eq_zero hzero
    subst h0
    cases ad with
    | none =>
      have hrun : (Builtin.append_ #[t, t] ty #[v, a.eval y]).run P w = .ok v w := by
        obtain ⟨al, ac, hv⟩ := own_len ho
        have hacc : rows.length ≤ ac := by
          rcases ho.2 with ⟨rfl, h0⟩ | ⟨g', cap', cur, rfl, _, _, hle, _⟩
          · simp only [Value.slice.injEq] at hv; omega
          · simp only [Value.slice.injEq] at hv; omega
        rw [hye, hv]
        simp [Builtin.append_, run_elem t, run_sizeOf, Builtin.lenOf, Builtin.firstCells, hacc, storeCells]
        cases al <;> simp
      exact fin v w [] hrun (by simpa using ho) ⟨rfl, rfl, rfl, Nat.le_refl _, fun _ _ _ => rfl⟩ (fun b hb => .inl hb) rfl
    | some ad =>
      obtain ⟨v', w', hrun, ho', hg, _⟩ := run_append_own (P := P) w 0 t ty (SL.e P t) (TI.i P (SL.e P t)) z k _ SL.hs (TI.hi) hz hsz rfl hzs hk v rows.length vs ho ad 0 cap [] (by simp) (by simp) (by simp) (by unfold maxLen; simp at hlim2 ⊢; omega) (by simpa using hlim) (Nat.zero_le _)
      have hye' : a.eval y = .slice (some ad) 0 cap := hye
      rw [← hye'] at hrun
      refine fin v' w' [] hrun (by simpa using ho') hg ?_ rfl
      intro b hb
      by_cases hlt : b < w.heap.size
      · obtain ⟨al, ac, hv⟩ := own_len ho
        have hacc : rows.length ≤ ac := by
          rcases ho.2 with ⟨rfl, h0⟩ | ⟨g', cap', cur, rfl, _, _, hle, _⟩
          · simp only [Value.slice.injEq] at hv; omega
          · simp only [Value.slice.injEq] at hv; omega
        left
        rw [hye', hv] at hrun
        simp [Builtin.append_, run_elem t, run_sizeOf, Builtin.lenOf, Builtin.firstCells, hacc, loadCells, loadCellsFrom] at hrun
        cases al with
        | none =>
          simp at hrun
          rw [← hrun.1] at hb
          simp [Value.ownBlock] at hb
        | some al =>
          simp [storeCells] at hrun
          rw [← hrun.1] at hb
          rw [hv]
          exact hb
      · exact .inr (by omega)
  · rcases hcase with hcase | ⟨b, off, vs2, k2, rfl, hnA, hc2, hk2, hr2⟩
    · exact absurd hcase hzero
    · have hk2' : k2 = k := by
        match rows2, hr2, hrow, hzero with
        | r0 :: _, hr2, hrow, _ =>
          obtain ⟨c1, _, _, h1, h2, _⟩ := hr2
          rw [← h1, rdRow_length h2]
          exact hrow r0 (by simp)
      subst hk2'
      obtain ⟨v', w', hrun, ho', hg, _⟩ := run_append_own (P := P) w 0 t ty (SL.e P t) (TI.i P (SL.e P t)) z k2 _ SL.hs (TI.hi) hz hsz rfl hzs hk v rows.length vs ho ⟨b, off, none⟩ rows2.length cap vs2 (rdRows_length hr2) (by intro j u hj; rw [add_at]; exact hc2 j u hj) (rdRows_one hr2) (by unfold maxLen; omega) hlim (Nat.zero_le _)
      rw [← hye] at hrun
      refine fin v' w' vs2 hrun ho' hg ?_ hr2
      intro b' hb'
      by_cases hlt : b' < w.heap.size
      · left
        -- the row of v' is v's own, or new
        rcases ho.2 with ⟨rfl, h0⟩ | ⟨g', cap', cur, rfl, _, hh, hle, hcm, hcs, _⟩
        · exfalso
          have hr' := run_append_nil (P := P) w t ty (SL.e P t) (TI.i P (SL.e P t)) z SL.hs TI.hi hz ⟨b, off, none⟩ rows2.length cap vs2 (by rw [hsz]; exact rdRows_length hr2) (by intro j u hj; rw [add_at]; exact hc2 j u hj) (by omega) (by omega) (by have hbb := hlim; rw [h0] at hbb; simp only [Nat.zero_add] at hbb; omega)
          rw [hye, hr'] at hrun
          simp only [Result.ok.injEq] at hrun
          rw [← hrun.1] at hb'
          simp [Value.ownBlock] at hb'
          omega
        · by_cases hroom : rows.length + rows2.length ≤ cap'
          · have hfit : rows.length * k2 + vs2.length ≤ cur.size := by rw [rdRows_length hr2, hcs, ← Nat.add_mul]; exact Nat.mul_le_mul_right _ hroom
            have hr' := run_append_room (P := P) w t ty (SL.e P t) (TI.i P (SL.e P t)) SL.hs TI.hi g' rows.length cap' cur hh ⟨b, off, none⟩ rows2.length cap vs2 (by rw [hsz]; exact rdRows_length hr2) (by intro j u hj; rw [add_at]; exact hc2 j u hj) (rdRows_one hr2) hroom (by rw [hsz]; exact hfit)
            rw [hye, hr'] at hrun
            simp only [Result.ok.injEq] at hrun
            rw [← hrun.1] at hb'
            exact hb'
          · exfalso
            have holds : ∀ j u, vs[j]? = some u → w.cell? ((⟨g', 0, none⟩ : Addr).add j) = some u := ho.cells (g := g') rfl
            have hr' := run_append_grow (P := P) w t ty (SL.e P t) (TI.i P (SL.e P t)) z SL.hs TI.hi hz ⟨g', 0, none⟩ rows.length cap' vs (by rw [hsz]; exact ho.1) holds ⟨b, off, none⟩ rows2.length cap vs2 (by rw [hsz]; exact rdRows_length hr2) (by intro j u hj; rw [add_at]; exact hc2 j u hj) (by omega) (by omega) (growslice_fits (by omega) hlim)
            rw [hye, hr'] at hrun
            simp only [Result.ok.injEq] at hrun
            rw [← hrun.1] at hb'
            simp [Value.ownBlock] at hb'
            omega
      · exact .inr (by omega)

/-- Append, as it is met: the owned slice first. -/
theorem ow_append {v : Value} {e : TypeId} {k : Nat} {rows rows2 : List (List C)} {Hr : List Ch} [SL P t] {z : Value} (j : Nat) (hx : env.ev x = some (.cell (.val v))) (hp : pick [j] H = some ([.own v e k rows], Hr)) (hy : env.ev y = some (.cell (.list rows2)))
    (he : SL.e P t = e) (hz : (TI.i P (SL.e P t)).zero = some z) (hzs : z.cells.size = k) (hsz : (TI.i P (SL.e P t)).size = k)
    (hrow : ∀ row ∈ rows2, row.length = k) (hlim : (rows.length + rows2.length) * (TI.i P (SL.e P t)).bytes ≤ 140737488355328) (hlim2 : rows.length + rows2.length ≤ 9223372036854775807)
    (hK : ∀ v', v'.oneCell' = true → K (.cell (.val v')) (.own v' e k (rows ++ rows2) :: Hr)) :
    OpWp c ⟨d, .call { callee := .builtin .append, args := #[x, y], argTypes := #[t, t] }, ty, pos, af, g⟩ env H K := by
  subst he
  exact ow_append0F j hz hzs hsz hx hy hp hrow hlim hlim2 (fun v' h _ => hK v' h)
/-- .. where rows are what a function makes of other things. -/
theorem ow_appendM {α : Type} {f : α → List C} {v : Value} {e : TypeId} {k : Nat} {l1 l2 : List α} {Hr : List Ch} [SL P t] {z : Value} (j : Nat) (hx : env.ev x = some (.cell (.val v))) (hp : pick [j] H = some ([.own v e k (l1.map f)], Hr)) (hy : env.ev y = some (.cell (.list (l2.map f))))
    (he : SL.e P t = e) (hz : (TI.i P (SL.e P t)).zero = some z) (hzs : z.cells.size = k) (hsz : (TI.i P (SL.e P t)).size = k)
    (hrow : ∀ a, (f a).length = k) (hlim : (l1.length + l2.length) * (TI.i P (SL.e P t)).bytes ≤ 140737488355328) (hlim2 : l1.length + l2.length ≤ 9223372036854775807)
    (hK : ∀ v', v'.oneCell' = true → K (.cell (.val v')) (.own v' e k ((l1 ++ l2).map f) :: Hr)) :
    OpWp c ⟨d, .call { callee := .builtin .append, args := #[x, y], argTypes := #[t, t] }, ty, pos, af, g⟩ env H K :=
  ow_append j hx hp hy he hz hzs hsz (by intro r hr; obtain ⟨a, _, rfl⟩ := List.mem_map.1 hr; exact hrow a) (by simpa using hlim) (by simpa using hlim2) (by simpa using hK)
theorem ow_append1 {α : Type} {f : α → List C} {v : Value} {e : TypeId} {k : Nat} {l1 : List α} {Hr : List Ch} [SL P t] {z : Value} (j : Nat) (a : α) (hx : env.ev x = some (.cell (.val v))) (hp : pick [j] H = some ([.own v e k (l1.map f)], Hr)) (hy : env.ev y = some (.cell (.list [f a])))
    (he : SL.e P t = e) (hz : (TI.i P (SL.e P t)).zero = some z) (hzs : z.cells.size = k) (hsz : (TI.i P (SL.e P t)).size = k)
    (hrow : ∀ a, (f a).length = k) (hlim : (l1.length + 1) * (TI.i P (SL.e P t)).bytes ≤ 140737488355328) (hlim2 : l1.length + 1 ≤ 9223372036854775807)
    (hK : ∀ v', v'.oneCell' = true → K (.cell (.val v')) (.own v' e k ((l1 ++ [a]).map f) :: Hr)) :
    OpWp c ⟨d, .call { callee := .builtin .append, args := #[x, y], argTypes := #[t, t] }, ty, pos, af, g⟩ env H K :=
  ow_appendM (l2 := [a]) j hx hp hy he hz hzs hsz hrow (by simpa using hlim) (by simpa using hlim2) hK

/-- A nil slice of one's own: at any time. -/
theorem own_nil_ok (w : World) (A : Nat → Prop) (e : TypeId) (k : Nat) (hk : 0 < k) : (Ch.own (.slice none 0 0) e k []).ok w A := ⟨[], World.ownsRow_nil w 0 e k, rfl, hk⟩
theorem stw_ownNil {w : World} (h : StW c H w) (e : TypeId) (k : Nat) (hk : 0 < k) : StW c (.own (.slice none 0 0) e k [] :: H) w ∧ c.av (.own (.slice none 0 0) e k [] :: H) = c.av H := by
  have hbe : hb (.own (.slice none 0 0) e k [] :: H) = hb H := by simp [hb_cons, Ch.bs, Value.ownBlock]
  have hav : c.av (.own (.slice none 0 0) e k [] :: H) = c.av H := by funext b; simp only [Cx.av, hbe]
  refine ⟨⟨h.os, h.tape, h.output, h.size, h.block, ?_, by rw [hbe]; exact h.nodup, by rw [hbe]; exact h.mine, by rw [hav]; exact h.gl⟩, hav⟩
  intro ch hch
  rw [hav]
  rcases List.mem_cons.1 hch with rfl | hch
  · exact own_nil_ok w _ e k hk
  · exact h.ok ch hch
theorem st_ownNil {a : Act} {w : World} (h : St c env H a w) (e : TypeId) (k : Nat) (hk : 0 < k) : St c env (.own (.slice none 0 0) e k [] :: H) a w := by
  obtain ⟨h1, h2⟩ := stw_ownNil h.heap e k hk
  exact ⟨h.size, h.defers, fun i s hi => by rw [h2]; exact h.slots i s hi, h1⟩

/-- What is owned no longer: it is only read from here on. -/
theorem stw_freezeG {w : World} {v : Value} {e : TypeId} {k : Nat} {rows : List (List C)} {Hr : List Ch} (h : StW c (.own v e k rows :: Hr) w) (hX : ∀ b, v.ownBlock = some b → b ∉ hb Hr → b ∈ hb (.own v e k rows :: Hr) → ¬ c.A b) :
    StW c Hr w ∧ Rd1 w (c.av Hr) (.list rows) v ∧ (∀ s u, SOk w (c.av (.own v e k rows :: Hr)) s u → SOk w (c.av Hr) s u) := by
  have h' : StW c ([.own v e k rows] ++ Hr) w := h
  obtain ⟨d1, d2⟩ := h'.drop
  refine ⟨d1, ?_, d2⟩
  obtain ⟨vs, ho, hr, hk⟩ := h.ok (.own v e k rows) (by simp)
  have hnd := h.nodup
  rw [hb_cons, List.nodup_append] at hnd
  rcases ho.2 with ⟨rfl, h0⟩ | ⟨g', cap, cur, rfl, _, hh, hle, hcm, hcs, htk⟩
  · have : rows = [] := List.eq_nil_of_length_eq_zero h0
    subst this
    exact ⟨none, 0, rfl, Nat.le_refl _, Nat.zero_le _, .inl rfl⟩
  · have hgb : g' ∈ hb (.own (.slice (some ⟨g', 0, none⟩) rows.length cap) e k rows :: Hr) := by simp [hb_cons, Ch.bs, Value.ownBlock]
    have hgn : g' ∉ hb Hr := fun hx => hnd.2.2 g' (by simp [Ch.bs, Value.ownBlock]) g' hx rfl
    have hgA : ¬ c.av Hr g' := by
      intro hx
      rcases hx with hx | hx
      · exact hX g' rfl hgn hgb hx
      · exact hgn hx
    have hu : Up (c.av (.own (.slice (some ⟨g', 0, none⟩) rows.length cap) e k rows :: Hr)) w w := Up.refl _ _
    have hr' := rdRows_up hu (A' := c.av Hr) (fun b hb => .inl (by rcases hb with hb | hb; exact .inl hb; exact .inr (by rw [hb_cons]; exact List.mem_append.2 (.inr hb)))) k rows vs hr
    refine ⟨some ⟨g', 0, none⟩, cap, rfl, hle, hcm, .inr ⟨g', 0, vs, k, rfl, hgA, ?_, hk, hr'⟩⟩
    have hc : Cells w g' 0 cur.toList := by simpa using cells_of_blk (cs := cur.toList) (by simpa using hh) 0
    rw [← htk]
    exact cells_take hc _
theorem stw_freeze {w : World} {v : Value} {e : TypeId} {k : Nat} {rows : List (List C)} {Hr : List Ch} (h : StW c (.own v e k rows :: Hr) w) (hX : ∀ b ∈ c.X, b ∈ hb Hr) :
    StW c Hr w ∧ Rd1 w (c.av Hr) (.list rows) v ∧ (∀ s u, SOk w (c.av (.own v e k rows :: Hr)) s u → SOk w (c.av Hr) s u) :=
  stw_freezeG h (fun b _ hn hb hx => by
    rcases h.mine b hb with h1 | h1
    · exact hn (hX b h1)
    · have := c.bnd b hx; omega)
end
end Go.Vc
end

section
namespace Go.Vc
open Go.RowKit

/-- A function of the program that has a body: a call of it enters it. -/
class FI (P : Program) (f : FuncId) : Prop where
  hrun : ∀ args w, (callFunc f args).run P w = .ok (.enter f args) w

/-- What a function promises; n: how many blocks there were as it began. -/
def ConN (P : Program) [Gl P] (f : FuncId) (args : List S) (Hin : List Ch) (post : Nat → (S → List Ch → Prop) → Prop) : Prop :=
  ∀ (vs : List Value) (w : World) (A : Nat → Prop), (∀ b, A b → b < w.heap.size) → (∀ b ∈ hb Hin, A b) → (hb Hin).Nodup → SOks w A args vs → (∀ ch ∈ Hin, ch.ok w A) → Gl.ok P w A →
    Calls P f vs.toArray w (fun e w' => ∃ v s Hout, e = .returned v ∧ (∀ K, post w.heap.size K → K s Hout) ∧ SOk w' (fun b => A b ∨ b ∈ hb Hout) s v ∧ (∀ ch ∈ Hout, ch.ok w' (fun b => A b ∨ b ∈ hb Hout)) ∧
      (hb Hout).Nodup ∧ (∀ b ∈ hb Hout, b ∈ hb Hin ∨ w.heap.size ≤ b) ∧ Grow (hb Hin) w w')
def Con (P : Program) [Gl P] (f : FuncId) (args : List S) (Hin : List Ch) (post : (S → List Ch → Prop) → Prop) : Prop := ConN P f args Hin (fun _ => post)

def Env.evs (env : Env) : List Operand → Option (List S)
  | [] => some []
  | x :: r => match env.ev x, Env.evs env r with
    | some s, some ss => some (s :: ss)
    | _, _ => none

section
variable {P : Program} [Gl P] {nt : Nat} {c : Cx P nt} {env : Env} {H : List Ch} {K : S → List Ch → Prop}
variable {d : Option Tmp} {ty t t' : TypeId} {pos : String} {af : Array Edge} {g : Option (Nat × Bool)} {x y : Operand}

theorem evs_ok {a : Act} {w : World} (h : St c env H a w) : ∀ {xs : List Operand} {ss : List S}, env.evs xs = some ss → SOks w (c.av H) ss (xs.map a.eval)
  | [], ss, hp => by simp only [Env.evs, Option.some.injEq] at hp; subst hp; rfl
  | x :: xs, ss, hp => by
    simp only [Env.evs] at hp
    split at hp
    · rename_i s ss' h1 h2
      simp only [Option.some.injEq] at hp
      subst hp
      exact ⟨_, _, rfl, ev_ok h h1, evs_ok h h2⟩
    · cases hp

/-- The heart of a call. -/
theorem call_coreN {a : Act} {w : World} {is : List Nat} {Hin Hr : List Ch} {f : FuncId} {vs : List Value} {ss : List S} {post : Nat → (S → List Ch → Prop) → Prop} (h : St c env H a w) (con : ConN P f ss Hin post) (hvs : SOks w (c.av H) ss vs) (hp : pick is H = some (Hin, Hr))
    (hpost : ∀ m, c.B.heap.size ≤ m → post m (fun s Hout => K s (Hout ++ Hr))) {next : Act → World → Prop} {Q : Exit → Act → World → Prop} {o : Oper}
    (hn : ∀ s H' v w', K s H' → StW c H' w' → SOk w' (c.av H') s v → (∀ s v, SOk w (c.av H) s v → SOk w' (c.av H') s v) → next (a.put o.dst v) w')
    (hrun : (execOp a.eval o).run P w = .ok (.enter f vs.toArray) w) : o.wp P a w next Q := by
  have hperm := pick_perm hp
  have h' : StW c (Hin ++ Hr) w := h.heap.perm hperm
  have hav : c.av (Hin ++ Hr) = c.av H := av_perm c hperm
  have hnd := h'.nodup
  rw [hb_app, List.nodup_append] at hnd
  unfold Oper.wp
  rw [hrun, Oper.upon_enter]
  refine (con vs w (c.av H) (fun b hb => h.heap.avlt b hb) (fun b hb => by rw [← hav]; exact .inr (by rw [hb_app]; exact List.mem_append.2 (.inl hb))) hnd.1 hvs
    (fun ch hch => by rw [← hav]; exact h'.ok ch (List.mem_append.2 (.inl hch))) h.heap.gl).mono ?_
  rintro e w' ⟨v, s, Hout, rfl, hK, hs, hok, hnd', hnew, hg⟩
  have hA : ∀ b, c.av (Hout ++ Hr) b → c.av H b ∨ b ∈ hb Hout := by
    intro b hb
    rw [← hav]
    rcases hb with hb | hb
    · exact .inl (.inl hb)
    · rw [hb_app] at hb
      rcases List.mem_append.1 hb with hb | hb
      · exact .inr hb
      · exact .inl (.inr (by rw [hb_app]; exact List.mem_append.2 (.inr hb)))
  obtain ⟨s1, s2⟩ := StW.step h' hg hnew hnd' (fun ch hch => Ch.up (Up.refl _ _) (fun b hb => .inl (hA b hb)) (fun _ _ => rfl) (hok ch hch))
  exact hn s (Hout ++ Hr) v w' (hK (fun s Ho => K s (Ho ++ Hr)) (hpost _ h.heap.size)) s1 (sok_up (Up.refl _ _) (fun b hb => .inl (hA b hb)) s v hs) (fun s v hs => s2 s v (by rw [hav]; exact hs))

theorem call_core {a : Act} {w : World} {is : List Nat} {Hin Hr : List Ch} {f : FuncId} {vs : List Value} {ss : List S} {post : (S → List Ch → Prop) → Prop} (h : St c env H a w) (con : Con P f ss Hin post) (hvs : SOks w (c.av H) ss vs) (hp : pick is H = some (Hin, Hr))
    (hpost : post (fun s Hout => K s (Hout ++ Hr))) {next : Act → World → Prop} {Q : Exit → Act → World → Prop} {o : Oper}
    (hn : ∀ s H' v w', K s H' → StW c H' w' → SOk w' (c.av H') s v → (∀ s v, SOk w (c.av H) s v → SOk w' (c.av H') s v) → next (a.put o.dst v) w')
    (hrun : (execOp a.eval o).run P w = .ok (.enter f vs.toArray) w) : o.wp P a w next Q :=
  call_coreN h con hvs hp (fun _ _ => hpost) hn hrun

theorem ow_call {Hin Hr : List Ch} {f : FuncId} [FI P f] {xs : Array Operand} {at_ : Array TypeId} {ss : List S} {post : (S → List Ch → Prop) → Prop} (is : List Nat) (hx : env.evs xs.toList = some ss) (hp : pick is H = some (Hin, Hr)) (con : Con P f ss Hin post)
    (hpost : post (fun s Hout => K s (Hout ++ Hr))) : OpWp c ⟨d, .call { callee := .value (.func f), args := xs, argTypes := at_ }, ty, pos, af, g⟩ env H K := by
  intro a w h next Q hn
  refine call_core h con (evs_ok h hx) hp hpost hn ?_
  have e1 : (xs.map a.eval) = (xs.toList.map a.eval).toArray := by apply Array.ext'; simp
  simp only [execOp, resolve, invoke, Act.eval, Deferred.ofValue, Sem.run_bind, Sem.run_pure, Result.andThen_ok]
  rw [e1]
  simp [FI.hrun]

theorem ow_call1 {Hin Hr Hout : List Ch} {f : FuncId} [FI P f] {xs : Array Operand} {at_ : Array TypeId} {ss : List S} {s0 : S} (is : List Nat) (hx : env.evs xs.toList = some ss) (hp : pick is H = some (Hin, Hr)) (con : Con P f ss Hin (fun K => K s0 Hout))
    (hK : K s0 (Hout ++ Hr)) : OpWp c ⟨d, .call { callee := .value (.func f), args := xs, argTypes := at_ }, ty, pos, af, g⟩ env H K :=
  ow_call is hx hp con hK
/-- A pure function: it owns nothing and hands nothing over. -/
theorem ow_call0 {f : FuncId} [FI P f] {xs : Array Operand} {at_ : Array TypeId} {ss : List S} {s0 : S} (hx : env.evs xs.toList = some ss) (con : Con P f ss [] (fun K => K s0 []))
    (hK : K s0 H) : OpWp c ⟨d, .call { callee := .value (.func f), args := xs, argTypes := at_ }, ty, pos, af, g⟩ env H K :=
  ow_call [] hx rfl con hK
theorem ow_callP {Hin Hr : List Ch} {f : FuncId} [FI P f] {xs : Array Operand} {at_ : Array TypeId} {ss : List S} {ι : Type} {p : ι → Prop} {s0 : ι → S} {Hout : ι → List Ch} (is : List Nat) (hx : env.evs xs.toList = some ss) (hp : pick is H = some (Hin, Hr)) (con : Con P f ss Hin (fun K => ∀ i, p i → K (s0 i) (Hout i)))
    (hK : ∀ i, p i → K (s0 i) (Hout i ++ Hr)) : OpWp c ⟨d, .call { callee := .value (.func f), args := xs, argTypes := at_ }, ty, pos, af, g⟩ env H K :=
  ow_call is hx hp con hK

/-- A call of a function value. -/
theorem ow_callv {Hin Hr : List Ch} {f : FuncId} [FI P f] {z : Operand} {cap : Array Value} {cs : List S} {xs : Array Operand} {at_ : Array TypeId} {ss : List S} {post : (S → List Ch → Prop) → Prop} (is : List Nat) (hz : env.ev z = some (.cell (.val (.func (.func f) #[] cap)))) (hx : env.evs xs.toList = some ss)
    (hcap : ∀ w, StW c H w → SOks w (c.av H) cs cap.toList) (hp : pick is H = some (Hin, Hr)) (con : Con P f (ss ++ cs) Hin post)
    (hpost : post (fun s Hout => K s (Hout ++ Hr))) : OpWp c ⟨d, .call { callee := .value z, args := xs, argTypes := at_ }, ty, pos, af, g⟩ env H K := by
  intro a w h next Q hn
  have happ : ∀ {ss : List S} {vs : List Value}, SOks w (c.av H) ss vs → SOks w (c.av H) (ss ++ cs) (vs ++ cap.toList) := by
    intro ss
    induction ss with
    | nil => intro vs hv; simp only [SOks] at hv; subst hv; simpa using hcap w h.heap
    | cons s ss ih => intro vs hv; obtain ⟨v, r, rfl, h1, h2⟩ := hv; exact ⟨v, _, rfl, h1, ih h2⟩
  refine call_core h con (happ (evs_ok h hx)) hp hpost hn ?_
  simp only [execOp, resolve, invoke, ev_val h hz, Deferred.ofValue, Sem.run_bind, Sem.run_pure, Result.andThen_ok]
  have e1 : (xs.map a.eval) = (xs.toList.map a.eval).toArray := by apply Array.ext'; simp
  rw [e1]
  simp [FI.hrun, ← List.append_toArray]

theorem ow_callv0 {f : FuncId} [FI P f] {z : Operand} {xs : Array Operand} {at_ : Array TypeId} {ss : List S} {s0 : S} (hz : env.ev z = some (.cell (.val (.func (.func f) #[] #[])))) (hx : env.evs xs.toList = some ss) (con : Con P f ss [] (fun K => K s0 []))
    (hK : K s0 H) : OpWp c ⟨d, .call { callee := .value z, args := xs, argTypes := at_ }, ty, pos, af, g⟩ env H K :=
  ow_callv (cs := []) [] hz hx (fun _ _ => rfl) rfl (by simpa using con) hK

theorem jc_ownNil {Q : Exit → Act → World → Prop} {code : Code} (e : TypeId) (k : Nat) (hk : 0 < k) (h : JC c code Q env (.own (.slice none 0 0) e k [] :: H)) : JC c code Q env H :=
  fun a w hs => h a w (st_ownNil hs e k hk)
/-- What is owned becomes what is only read: slot i, chunk j. -/
theorem st_freeze {a : Act} {w : World} {i : Nat} {v : Value} {e : TypeId} {k j : Nat} {rows : List (List C)} {Hr : List Ch} (h : St c env H a w) (hi : env.lookup i = some (.cell (.val v))) (hp : pick [j] H = some ([.own v e k rows], Hr)) (hX : ∀ b ∈ c.X, b ∈ hb Hr) :
    St c ((i, .cell (.list rows)) :: env) Hr a w := by
  have h' : StW c (.own v e k rows :: Hr) w := h.heap.perm (pick_perm hp)
  have hav : c.av (.own v e k rows :: Hr) = c.av H := av_perm c (pick_perm hp)
  obtain ⟨f1, f2, f3⟩ := stw_freeze h' hX
  refine ⟨h.size, h.defers, ?_, f1⟩
  intro t s hl
  rcases lookup_cons hl with ⟨rfl, rfl⟩ | ⟨_, hl⟩
  · have : a.tmps.getD t undef = v := (h.slots t _ hi).1
    rw [this]
    exact f2
  · exact f3 _ _ (by rw [hav]; exact h.slots t s hl)
theorem jc_freeze {Q : Exit → Act → World → Prop} {code : Code} (i j : Nat) {v : Value} {e : TypeId} {k : Nat} {rows : List (List C)} {Hr : List Ch} (hi : env.lookup i = some (.cell (.val v))) (hp : pick [j] H = some ([.own v e k rows], Hr)) (hX : ∀ b ∈ c.X, b ∈ hb Hr)
    (h : JC c code Q ((i, .cell (.list rows)) :: env) Hr) : JC c code Q env H := fun a w hs => h a w (st_freeze hs hi hp hX)
theorem jl_freeze {ops : Array Oper} {Q : Exit → Act → World → Prop} {l : List Oper} (i j : Nat) {v : Value} {e : TypeId} {k : Nat} {rows : List (List C)} {Hr : List Ch} (hi : env.lookup i = some (.cell (.val v))) (hp : pick [j] H = some ([.own v e k rows], Hr)) (hX : ∀ b ∈ c.X, b ∈ hb Hr)
    (h : JL c ops Q l ((i, .cell (.list rows)) :: env) Hr) : JL c ops Q l env H := fun a w hs => h a w (st_freeze hs hi hp hX)
theorem jq_freeze {Q : Exit → Act → World → Prop} {ex : Exit} (i j : Nat) {v : Value} {e : TypeId} {k : Nat} {rows : List (List C)} {Hr : List Ch} (hi : env.lookup i = some (.cell (.val v))) (hp : pick [j] H = some ([.own v e k rows], Hr)) (hX : ∀ b ∈ c.X, b ∈ hb Hr)
    (h : JQ c Q ex ((i, .cell (.list rows)) :: env) Hr) : JQ c Q ex env H := fun a w hs => h a w (st_freeze hs hi hp hX)

/-- What is asked at its end. -/
def RR (c : Cx P nt) (post : (S → List Ch → Prop) → Prop) (e : Ending) (w' : World) : Prop :=
  ∃ v s Hout, e = .returned v ∧ (∀ K, post K → K s Hout) ∧ SOk w' (fun b => c.A b ∨ b ∈ hb Hout) s v ∧ (∀ ch ∈ Hout, ch.ok w' (fun b => c.A b ∨ b ∈ hb Hout)) ∧
      (hb Hout).Nodup ∧ (∀ b ∈ hb Hout, b ∈ c.X ∨ c.B.heap.size ≤ b) ∧ Grow c.X c.B w'

def enum : Nat → List S → Env
  | _, [] => []
  | n, s :: ss => (n, s) :: enum (n + 1) ss

theorem enum_lookup {w : World} {A : Nat → Prop} : ∀ {ss : List S} {vs : List Value} {n i : Nat} {s : S}, SOks w A ss vs → (enum n ss).lookup i = some s → ∃ v, n ≤ i ∧ vs[i - n]? = some v ∧ SOk w A s v
  | [], _, _, _, _, _, h => by simp [enum] at h
  | s0 :: ss, _, n, i, s, hs, h => by
    obtain ⟨v, r, rfl, h1, h2⟩ := hs
    rcases lookup_cons h with ⟨rfl, rfl⟩ | ⟨hne, h⟩
    · exact ⟨v, Nat.le_refl _, by simp, h1⟩
    · obtain ⟨v', g1, g2, g3⟩ := enum_lookup h2 h
      refine ⟨v', by omega, ?_, g3⟩
      rw [show i - n = (i - (n + 1)) + 1 by omega, List.getElem?_cons_succ]
      exact g2

theorem con_introN {f : FuncId} {fn : Func} {code : Code} {args : List S} {Hin : List Ch} {post : Nat → (S → List Ch → Prop) → Prop} (hf : P.funcs[f]? = some fn) (hbd : fn.body = some code) (hnt : fn.ntmps = nt) (hle : args.length ≤ nt)
    (h : ∀ c : Cx P nt, c.X = hb Hin → JC c code (bodyPost P fn (RR c (post c.B.heap.size))) (enum 0 args) Hin) : ConN P f args Hin post := by
  intro vs w A hA hHA hnd hvs hok hgl
  have hlen := soks_length hvs
  let c : Cx P nt := ⟨w, A, hb Hin, hA⟩
  have hav : ∀ b, c.av Hin b → A b := fun b hb => hb.elim id (hHA b)
  refine calls_of_wp hf hbd ?_
  refine h c rfl _ _ ⟨?_, rfl, ?_, ⟨rfl, rfl, rfl, Nat.le_refl _, fun _ _ _ => rfl, fun ch hch => Ch.up (Up.refl _ _) (fun b hb => .inl (hav b hb)) (fun _ _ => rfl) (hok ch hch), hnd, fun b hb => .inl hb, Gl.up (Up.refl _ _) (fun b hb => .inl (hav b hb)) hgl⟩⟩
  · simp only [Array.size_append, Array.size_replicate, List.size_toArray, hnt]
    omega
  · intro i s hi
    obtain ⟨v, _, h2, h3⟩ := enum_lookup hvs hi
    have hlt : i < vs.length := (List.getElem?_eq_some_iff.1 (by simpa using h2)).1
    rw [Array.getD_eq_getD_getElem?, Array.getElem?_append_left (by simpa using hlt)]
    simp only [List.getElem?_toArray]
    simp only [Nat.sub_zero] at h2
    rw [h2]
    exact sok_up (Up.refl _ _) (fun b hb => .inl (hav b hb)) s v h3

theorem con_intro {f : FuncId} {fn : Func} {code : Code} {args : List S} {Hin : List Ch} {post : (S → List Ch → Prop) → Prop} (hf : P.funcs[f]? = some fn) (hbd : fn.body = some code) (hnt : fn.ntmps = nt) (hle : args.length ≤ nt)
    (h : ∀ c : Cx P nt, c.X = hb Hin → JC c code (bodyPost P fn (RR c post)) (enum 0 args) Hin) : Con P f args Hin post :=
  con_introN hf hbd hnt hle h

theorem stw_grow {w : World} (h : StW c H w) : Grow c.X c.B w := ⟨h.os, h.tape, h.output, h.size, h.block⟩

/-- The results, out of slots and of blocks of one's own. -/
def ResOk (P : Program) [Gl P] (env : Env) (H : List Ch) : List ResultVar → List S → Prop
  | [], ss => ss = []
  | .tmp t :: r, ss => ∃ s sr, ss = s :: sr ∧ env.lookup t = some s ∧ ResOk P env H r sr
  | .cell a t :: r, ss => ∃ s sr b j bt row Hr, ss = s :: sr ∧ env.lookup a = some (.cell (.val (.pointer (some ⟨b, 0, none⟩)))) ∧ pick [j] H = some ([.blk b bt row], Hr) ∧
      (∀ w vs, RdRow w (c.av H) row vs → Cells w b 0 vs → ∃ v, (loadVar t ⟨b, 0, none⟩).run P w = .ok v w ∧ SOk w (c.av H) s v) ∧ ResOk P env H r sr

omit [Gl P] in
theorem res_row [TI P t] (ha : aggB (TI.u P t) = true) {row : List C} (hz : (TI.i P t).size = row.length) {b : Nat} : ∀ w vs, RdRow w (c.av H) row vs → Cells w b 0 vs → ∃ v, (loadVar t ⟨b, 0, none⟩).run P w = .ok v w ∧ SOk w (c.av H) (.row row) v :=
  fun w vs hr hc => ⟨_, run_loadVarN t ha (by rw [hz, rdRow_length hr]) hc, _, rfl, by simpa using hr⟩
def resOf (tmps : Array Value) : ResultVar → Sem Value
  | .tmp t => pure (tmps.getD t undef)
  | .cell x t => do loadVar t (← asAddr (tmps.getD x undef))
theorem results_eq (fn : Func) (tmps : Array Value) : results fn tmps = (do let vs ← fn.results.mapM (resOf tmps); pure (if h : vs.size = 1 then vs[0] else .tuple vs)) := rfl

theorem res_ok {a : Act} {w : World} (h : St c env H a w) : ∀ {rs : List ResultVar} {ss : List S}, ResOk (c := c) P env H rs ss → ∃ vs, (rs.mapM (resOf a.tmps)).run P w = .ok vs w ∧ SOks w (c.av H) ss vs
  | [], ss, hr => by simp only [ResOk] at hr; subst hr; exact ⟨[], by simp, rfl⟩
  | .tmp t :: r, ss, hr => by
    obtain ⟨s, sr, rfl, h1, h2⟩ := hr
    obtain ⟨vs, g1, g2⟩ := res_ok h h2
    exact ⟨_, by simp only [List.mapM_cons, resOf, Sem.run_bind, Sem.run_pure, Result.andThen_ok, g1], _, _, rfl, h.slots t s h1, g2⟩
  | .cell x t :: r, ss, hr => by
    obtain ⟨s, sr, b, j, bt, row, Hr, rfl, h1, hp, hl, h2⟩ := hr
    obtain ⟨vs, g1, g2⟩ := res_ok h h2
    have hx := h.slots x _ h1
    obtain ⟨cs, hh, hrow⟩ := blk_ok h hp
    obtain ⟨v, hv1, hv2⟩ := hl w cs hrow (by simpa using cells_of_blk hh 0)
    refine ⟨v :: vs, ?_, _, _, rfl, hv2, g2⟩
    have hx' : a.tmps.getD x undef = .pointer (some ⟨b, 0, none⟩) := hx.1
    have e1 : (resOf a.tmps (.cell x t)).run P w = .ok v w := by
      simp only [resOf, hx', asAddr, Sem.run_bind, Sem.run_pure, Result.andThen_ok, hv1]
    simp only [List.mapM_cons, Sem.run_bind, e1, Sem.run_pure, Result.andThen_ok, g1]

def resS : List S → S
  | [s] => s
  | ss => .tup ss

theorem jq_retG {fn : Func} {post : (S → List Ch → Prop) → Prop} {ss : List S} {is : List Nat} {Hout Hr : List Ch} {ex : Exit} (hex : ex = .ret ∨ ex = .normal) (hres : ResOk (c := c) P env H fn.results.toList ss) (hp : pick is H = some (Hout, Hr)) (hpost : ∀ K, post K → K (resS ss) Hout) :
    JQ c (bodyPost P fn (RR c post)) ex env H := by
  intro a w h
  obtain ⟨vs, g1, g2⟩ := res_ok h hres
  have hperm := pick_perm hp
  have h' : StW c (Hr ++ Hout) w := (h.heap.perm hperm).perm List.perm_append_comm
  obtain ⟨d1, d2⟩ := h'.drop
  have hav : c.av (Hr ++ Hout) = c.av H := (av_perm c List.perm_append_comm).trans (av_perm c hperm)
  have hlen := soks_length g2
  have key : ∃ v, (results fn a.tmps).run P w = .ok v w ∧ SOk w (c.av H) (resS ss) v := by
    have hm : (fn.results.mapM (resOf a.tmps)).run P w = .ok vs.toArray w := by
      rw [Array.mapM_eq_mapM_toList, Sem.run_map, g1]
      rfl
    rw [results_eq, Sem.run_bind, hm, Result.andThen_ok]
    match ss, vs, g2, hlen with
    | [], [], g2, _ => exact ⟨_, by simp, [], rfl, rfl⟩
    | [s], [v], g2, _ =>
      obtain ⟨_, _, he, h1, _⟩ := g2
      simp only [List.cons.injEq] at he
      obtain ⟨rfl, _⟩ := he
      exact ⟨v, by simp, h1⟩
    | s1 :: s2 :: sr, v1 :: v2 :: vr, g2, _ => exact ⟨_, by simp, _, rfl, g2⟩
    | [], _ :: _, _, hl => simp at hl
    | [_], [], _, hl => simp at hl
    | [_], _ :: _ :: _, _, hl => simp at hl
    | _ :: _ :: _, [], _, hl => simp at hl
    | _ :: _ :: _, [_], _, hl => simp at hl
  obtain ⟨v, hrun, hv⟩ := key
  have fin : RR c post (.returned v) w := ⟨v, resS ss, Hout, rfl, hpost, d2 _ _ (by rw [hav]; exact hv), d1.ok, d1.nodup, d1.mine, stw_grow d1⟩
  rcases hex with rfl | rfl
  · exact ⟨h.defers, v, hrun, fin⟩
  · exact ⟨h.defers, v, hrun, fin⟩

/-- One result. -/
theorem jq_ret1 {fn : Func} {post : (S → List Ch → Prop) → Prop} {t : Tmp} {s : S} (hres : fn.results = #[.tmp t]) (hl : env.lookup t = some s) (is : List Nat) {Hout Hr : List Ch} (hp : pick is H = some (Hout, Hr)) (hpost : ∀ K, post K → K s Hout) :
    JQ c (bodyPost P fn (RR c post)) .ret env H :=
  jq_retG (ss := [s]) (.inl rfl) (by rw [hres]; exact ⟨s, [], rfl, hl, rfl⟩) hp hpost
theorem jq_ret2 {fn : Func} {post : (S → List Ch → Prop) → Prop} {t u : Tmp} {s s' : S} (hres : fn.results = #[.tmp t, .tmp u]) (hl : env.lookup t = some s) (hl' : env.lookup u = some s') (is : List Nat) {Hout Hr : List Ch} (hp : pick is H = some (Hout, Hr)) (hpost : ∀ K, post K → K (.tup [s, s']) Hout) :
    JQ c (bodyPost P fn (RR c post)) .ret env H :=
  jq_retG (ss := [s, s']) (.inl rfl) (by rw [hres]; exact ⟨s, _, rfl, hl, s', _, rfl, hl', rfl⟩) hp hpost
theorem jq_retRow {fn : Func} {post : (S → List Ch → Prop) → Prop} {a : Tmp} [TI P t] {b : Nat} {bt : TypeId} {row : List C} {Hx : List Ch} (hres : fn.results = #[.cell a t]) (ha : aggB (TI.u P t) = true) (hz : (TI.i P t).size = row.length) (hl : env.lookup a = some (.cell (.val (.pointer (some ⟨b, 0, none⟩))))) (j : Nat) (hj : pick [j] H = some ([.blk b bt row], Hx)) (is : List Nat) {Hout Hr : List Ch} (hp : pick is H = some (Hout, Hr)) (hpost : ∀ K, post K → K (.row row) Hout) :
    JQ c (bodyPost P fn (RR c post)) .ret env H :=
  jq_retG (ss := [.row row]) (.inl rfl) (by rw [hres]; exact ⟨.row row, [], b, j, bt, row, Hx, rfl, hl, hj, res_row ha hz, rfl⟩) hp hpost

theorem jc_cond {Q : Exit → Act → World → Prop} {thn els : Code} {b : Bool} (hx : env.ev x = some (Bl b)) (h1 : b = true → JC c thn Q env H) (h2 : b = false → JC c els Q env H) : JC c (.cond x thn els) Q env H := by
  intro a w h
  have hv : a.eval x = .bool b := ev_val h hx
  cases b with
  | true => exact wp_cond_true hv (h1 rfl a w h)
  | false => exact wp_cond_false hv (h2 rfl a w h)
theorem jc_condd {Q : Exit → Act → World → Prop} {thn els : Code} {p : Prop} [Decidable p] (hx : env.ev x = some (Bl (decide p))) (h1 : p → JC c thn Q env H) (h2 : ¬ p → JC c els Q env H) : JC c (.cond x thn els) Q env H :=
  jc_cond hx (fun h => h1 (by simpa using h)) (fun h => h2 (by simpa using h))

def Env.only (env : Env) (ks : List Nat) : Env := ks.filterMap fun k => (env.lookup k).map fun s => (k, s)

/-- A loop: the slots 'ks' keep what they hold; 'ch' says what becomes of others; 'I' is what else holds. -/
theorem jc_loop {ι : Type} (ks : List Nat) (I : ι → Prop) (ch : ι → Env) (HH : ι → List Ch) (μ : ι → Nat) (i : ι) (is : List Nat) {Q : Exit → Act → World → Prop} {code : Code} {Hr : List Ch} (hI : I i) (hp : pick is H = some (HH i, Hr)) (hE : Env.le (ch i ++ env.only ks) env)
    (hbody : ∀ i, I i → JC c code (Exit.then (fun a w => ∃ j, I j ∧ μ j < μ i ∧ St c (ch j ++ env.only ks) (HH j) a w) Q) (ch i ++ env.only ks) (HH i)) : JC c (.loop code) Q env H := by
  intro a w h
  have h0 : St c (ch i ++ env.only ks) (HH i) a w := by
    have h1 := (h.perm (pick_perm hp)).perm List.perm_append_comm
    exact (h1.drop).weaken hE
  refine wp_loop_ghost (fun n a w => ∃ i, I i ∧ μ i = n ∧ St c (ch i ++ env.only ks) (HH i) a w) (μ i) ⟨i, hI, rfl, h0⟩ ?_
  rintro n a w ⟨i, hI, rfl, hs⟩
  refine Code.wp_mono ?_ (hbody i hI a w hs)
  intro e a w hq
  cases e with
  | normal =>
    obtain ⟨j, hI, hj, hs⟩ := hq
    exact ⟨μ j, hj, j, hI, rfl, hs⟩
  | _ => exact hq

/-- A cut: what holds behind the code at hand, where ways meet again. -/
theorem jc_cut {ι : Type} (ks : List Nat) (I : ι → Prop) (ch : ι → Env) (HH : ι → List Ch) {Q : Exit → Act → World → Prop} {x y : Code}
    (hx : JC c x (Exit.then (fun a w => ∃ i, I i ∧ St c (ch i ++ env.only ks) (HH i) a w) Q) env H) (hy : ∀ i, I i → JC c y Q (ch i ++ env.only ks) (HH i)) : JC c x (Exit.then (fun a w => y.wp P Q a w) Q) env H := by
  intro a w h
  refine Code.wp_mono ?_ (hx a w h)
  intro e a w hq
  cases e with
  | normal => obtain ⟨i, hI, hs⟩ := hq; exact hy i hI a w hs
  | _ => exact hq
theorem jq_cut {ι : Type} {I : ι → Prop} {E : ι → Env} {HH : ι → List Ch} {Q : Exit → Act → World → Prop} (i : ι) (is : List Nat) {Hr : List Ch} (hI : I i) (hp : pick is H = some (HH i, Hr)) (hE : Env.le (E i) env) :
    JQ c (Exit.then (fun a w => ∃ i, I i ∧ St c (E i) (HH i) a w) Q) .normal env H := by
  intro a w h
  have h1 := (h.perm (pick_perm hp)).perm List.perm_append_comm
  exact ⟨i, hI, (h1.drop).weaken hE⟩

/-- The end of a round. -/
theorem jq_again {ι : Type} {I : ι → Prop} {E : ι → Env} {HH : ι → List Ch} {μ : ι → Nat} {Q : Exit → Act → World → Prop} {i : ι} (j : ι) (is : List Nat) {Hr : List Ch} (hI : I j) (hμ : μ j < μ i) (hp : pick is H = some (HH j, Hr)) (hE : Env.le (E j) env) :
    JQ c (Exit.then (fun a w => ∃ j, I j ∧ μ j < μ i ∧ St c (E j) (HH j) a w) Q) .normal env H := by
  intro a w h
  have h1 := (h.perm (pick_perm hp)).perm List.perm_append_comm
  exact ⟨j, hI, hμ, (h1.drop).weaken hE⟩
end
end Go.Vc
end

section
namespace Go.Vc
open Go.RowKit

section
variable {P : Program} [Gl P] {nt : Nat} {c : Cx P nt} {H : List Ch}

def isAlloc (o : Oper) : Bool := match o.op, o.guard with
  | .alloc _, none => true
  | _, _ => false

def push (o : Oper) (s : S) (env : Env) : Env := if isAlloc o then env else match o.dst with
  | some d => (d, s) :: env
  | none => env

/-- One operation of a region whose order is drawn: it sees no more than what it looks at, and leaves what is owned as it was. (One that makes a block is met at the end.) -/
def OpOk (P : Program) [Gl P] (nt : Nat) (ops : Array Oper) (H : List Ch) (env : Env) (o : Oper) (s : S) : Prop :=
  isAlloc o = true ∨ match o.guard with
  | none => ∀ c : Cx P nt, OpWp c o (env.only (o.looksAt ops)) H (fun s' H' => s' = s ∧ H'.Perm H)
  | some (j, want) => (∃ b, env.ev (((ops[j]?).bind (·.dst)).elim (.const .nilFunc) .tmp) = some (Bl b) ∧ (b = want → ∀ c : Cx P nt, OpWp c o (env.only (o.looksAt ops)) H (fun s' H' => s' = s ∧ H'.Perm H)) ∧ (b ≠ want → s = .tup [])) ∨
      (env.ev (((ops[j]?).bind (·.dst)).elim (.const .nilFunc) .tmp) = some (.tup []) ∧ s = .tup [])

def AnyOk (P : Program) [Gl P] (nt : Nat) (ops : Array Oper) (H : List Ch) (K : Env → Prop) : List Oper → Env → Prop
  | [], env => K env
  | o :: rest, env => ∃ s, OpOk P nt ops H env o s ∧ AnyOk P nt ops H K rest (push o s env)

theorem any_nil {ops : Array Oper} {K : Env → Prop} {env : Env} (h : K env) : AnyOk P nt ops H K [] env := h
theorem any_alloc {ops : Array Oper} {K : Env → Prop} {env : Env} {l : List Oper} {d : Option Nat} {e ty : TypeId} {pos : String} {af : Array Edge} (h : AnyOk P nt ops H K l env) : AnyOk P nt ops H K (⟨d, .alloc e, ty, pos, af, none⟩ :: l) env := ⟨.void, .inl rfl, h⟩
theorem push_some {d : Nat} {op : Op} {ty : TypeId} {pos : String} {af : Array Edge} {g : Option (Nat × Bool)} {s : S} {env : Env} (h : isAlloc ⟨some d, op, ty, pos, af, g⟩ = false) : push ⟨some d, op, ty, pos, af, g⟩ s env = (d, s) :: env := by
  unfold push; rw [h]; rfl
theorem any_op {ops : Array Oper} {K : Env → Prop} {env : Env} {l : List Oper} {d : Nat} {op : Op} {ty : TypeId} {pos : String} {af : Array Edge} {s : S}
    (h : ∀ c : Cx P nt, OpWp c ⟨some d, op, ty, pos, af, none⟩ (env.only (Oper.looksAt ops ⟨some d, op, ty, pos, af, none⟩)) H (fun s' H' => s' = s ∧ H'.Perm H)) (hr : AnyOk P nt ops H K l ((d, s) :: env)) (ha : isAlloc ⟨some d, op, ty, pos, af, none⟩ = false := by rfl) : AnyOk P nt ops H K (⟨some d, op, ty, pos, af, none⟩ :: l) env :=
  ⟨s, .inr h, by rw [push_some ha]; exact hr⟩
theorem any_guardY {b : Bool} {ops : Array Oper} {K : Env → Prop} {env : Env} {l : List Oper} {d j : Nat} {want : Bool} {op : Op} {ty : TypeId} {pos : String} {af : Array Edge} {s : S}
    (hg : env.ev (((ops[j]?).bind (·.dst)).elim (.const .nilFunc) .tmp) = some (Bl b)) (hb : b = want)
    (h : ∀ c : Cx P nt, OpWp c ⟨some d, op, ty, pos, af, some (j, want)⟩ (env.only (Oper.looksAt ops ⟨some d, op, ty, pos, af, some (j, want)⟩)) H (fun s' H' => s' = s ∧ H'.Perm H)) (hr : AnyOk P nt ops H K l ((d, s) :: env)) (ha : isAlloc ⟨some d, op, ty, pos, af, some (j, want)⟩ = false := by rfl) : AnyOk P nt ops H K (⟨some d, op, ty, pos, af, some (j, want)⟩ :: l) env :=
  ⟨s, .inr (.inl ⟨b, hg, fun _ => h, fun h => absurd hb h⟩), by rw [push_some ha]; exact hr⟩
theorem any_guardN {b : Bool} {ops : Array Oper} {K : Env → Prop} {env : Env} {l : List Oper} {d j : Nat} {want : Bool} {op : Op} {ty : TypeId} {pos : String} {af : Array Edge}
    (hg : env.ev (((ops[j]?).bind (·.dst)).elim (.const .nilFunc) .tmp) = some (Bl b)) (hb : b = !want)
    (hr : AnyOk P nt ops H K l ((d, .tup []) :: env)) (ha : isAlloc ⟨some d, op, ty, pos, af, some (j, want)⟩ = false := by rfl) : AnyOk P nt ops H K (⟨some d, op, ty, pos, af, some (j, want)⟩ :: l) env :=
  ⟨.tup [], .inr (.inl ⟨b, hg, fun h => by subst hb; cases want <;> simp at h, fun _ => rfl⟩), by rw [push_some ha]; exact hr⟩
/-- What it would wait for was passed over. -/
theorem any_guardU {ops : Array Oper} {K : Env → Prop} {env : Env} {l : List Oper} {d j : Nat} {want : Bool} {op : Op} {ty : TypeId} {pos : String} {af : Array Edge}
    (hg : env.ev (((ops[j]?).bind (·.dst)).elim (.const .nilFunc) .tmp) = some (.tup []))
    (hr : AnyOk P nt ops H K l ((d, .tup []) :: env)) (ha : isAlloc ⟨some d, op, ty, pos, af, some (j, want)⟩ = false := by rfl) : AnyOk P nt ops H K (⟨some d, op, ty, pos, af, some (j, want)⟩ :: l) env :=
  ⟨.tup [], .inr (.inr ⟨hg, rfl⟩), by rw [push_some ha]; exact hr⟩

/-- A guarded operation, in order. -/
theorem jl_guard {ops : Array Oper} {Q : Exit → Act → World → Prop} {env : Env} {l : List Oper} {d j : Nat} {want b : Bool} {op : Op} {ty : TypeId} {pos : String} {af : Array Edge}
    (hg : env.ev (((ops[j]?).bind (·.dst)).elim (.const .nilFunc) .tmp) = some (Bl b)) (hd : d < nt)
    (h : b = want → OpWp c ⟨some d, op, ty, pos, af, some (j, want)⟩ env H (fun s H' => JL c ops Q l ((d, s) :: env) H')) (hr : b ≠ want → JL c ops Q l ((d, .tup []) :: env) H) : JL c ops Q (⟨some d, op, ty, pos, af, some (j, want)⟩ :: l) env H := by
  intro a w hs
  refine wpList_step fun K hK => ?_
  have hval : yielded ops a.tmps j = some b := by
    cases hdd : (ops[j]?).bind (·.dst) with
    | none => rw [hdd] at hg; simp [Env.ev] at hg
    | some dj =>
      rw [hdd] at hg
      have hv : a.tmps.getD dj undef = .bool b := (hs.slots dj _ hg).1
      have hdlt : dj < a.tmps.size := by
        rcases Nat.lt_or_ge dj a.tmps.size with h' | h'
        · exact h'
        · rw [Array.getD_eq_getD_getElem?, Array.getElem?_eq_none h'] at hv
          cases hv
      rw [Array.getD_eq_getD_getElem?, Array.getElem?_eq_getElem hdlt] at hv
      unfold yielded
      simp only [Option.getD_some] at hv
      simp [hdd, hdlt, hv]
  by_cases hb : b = want
  · rw [if_pos (by simp [Region.wanted, hval, hb])]
    refine h hb a w hs _ _ ?_
    intro s H' v w' hJ hw' hv hk
    exact hK _ _ (hJ _ _ (hs.next hd hw' hv hk))
  · rw [if_neg (by simp [Region.wanted, hval, hb])]
    exact hK _ _ (hr hb _ _ (hs.next hd hs.heap ⟨[], rfl, rfl⟩ (fun _ _ h => h)))
/-- It comes up. -/
theorem jl_guardY {ops : Array Oper} {Q : Exit → Act → World → Prop} {env : Env} {l : List Oper} {d j : Nat} {want b : Bool} {op : Op} {ty : TypeId} {pos : String} {af : Array Edge}
    (hg : env.ev (((ops[j]?).bind (·.dst)).elim (.const .nilFunc) .tmp) = some (Bl b)) (hb : b = want) (hd : d < nt)
    (h : OpWp c ⟨some d, op, ty, pos, af, some (j, want)⟩ env H (fun s H' => JL c ops Q l ((d, s) :: env) H')) : JL c ops Q (⟨some d, op, ty, pos, af, some (j, want)⟩ :: l) env H :=
  jl_guard hg hd (fun _ => h) (fun h => absurd hb h)
/-- It is passed over. -/
theorem jl_guardN {ops : Array Oper} {Q : Exit → Act → World → Prop} {env : Env} {l : List Oper} {d j : Nat} {want b : Bool} {op : Op} {ty : TypeId} {pos : String} {af : Array Edge}
    (hg : env.ev (((ops[j]?).bind (·.dst)).elim (.const .nilFunc) .tmp) = some (Bl b)) (hb : b = !want) (hd : d < nt)
    (hr : JL c ops Q l ((d, .tup []) :: env) H) : JL c ops Q (⟨some d, op, ty, pos, af, some (j, want)⟩ :: l) env H :=
  jl_guard hg hd (fun h => by subst hb; cases want <;> simp at h) (fun _ => hr)
/-- It is passed over, as is what it would wait for. -/
theorem jl_guardU {ops : Array Oper} {Q : Exit → Act → World → Prop} {env : Env} {l : List Oper} {d j : Nat} {want : Bool} {op : Op} {ty : TypeId} {pos : String} {af : Array Edge}
    (hg : env.ev (((ops[j]?).bind (·.dst)).elim (.const .nilFunc) .tmp) = some (.tup [])) (hd : d < nt)
    (hr : JL c ops Q l ((d, .tup []) :: env) H) : JL c ops Q (⟨some d, op, ty, pos, af, some (j, want)⟩ :: l) env H := by
  intro a w hs
  refine wpList_step fun K hK => ?_
  have hval : yielded ops a.tmps j = none := by
    cases hdd : (ops[j]?).bind (·.dst) with
    | none => unfold yielded; simp [hdd]
    | some dj =>
      rw [hdd] at hg
      obtain ⟨vs, hv, hvs⟩ := hs.slots dj _ hg
      simp only [SOks] at hvs
      subst hvs
      unfold yielded
      rw [hdd]
      simp only [Option.bind_some]
      rw [Array.getD_eq_getD_getElem?] at hv
      cases h : a.tmps[dj]? with
      | none => rfl
      | some u =>
        rw [h] at hv
        simp only [Option.getD_some] at hv
        subst hv
        rfl
  rw [if_neg (by simp [Region.wanted, hval])]
  exact hK _ _ (hr _ _ (hs.next hd hs.heap ⟨[], rfl, rfl⟩ (fun _ _ h => h)))

def lexEnv : List Oper → List S → Env → Env
  | o :: l, s :: ss, env => lexEnv l ss (push o s env)
  | _, _, env => env

theorem any_extract {ops : Array Oper} {K : Env → Prop} : ∀ (l : List Oper) (env : Env), AnyOk P nt ops H K l env →
    ∃ ss : List S, ss.length = l.length ∧ (∀ i o s, l[i]? = some o → ss[i]? = some s → OpOk P nt ops H (lexEnv (l.take i) (ss.take i) env) o s) ∧ K (lexEnv l ss env)
  | [], env, h => ⟨[], rfl, by simp, h⟩
  | o :: l, env, ⟨s, h1, h2⟩ => by
    obtain ⟨ss, g1, g2, g3⟩ := any_extract l _ h2
    refine ⟨s :: ss, by simp [g1], ?_, g3⟩
    intro i o' s' hi hs
    cases i with
    | zero => simp at hi hs; subst hi; subst hs; exact h1
    | succ i => exact g2 i o' s' (by simpa using hi) (by simpa using hs)

theorem push_lookup {o : Oper} {s s' : S} {env : Env} {t : Nat} (h : (push o s env).lookup t = some s') : (isAlloc o = false ∧ o.dst = some t ∧ s' = s) ∨ ((isAlloc o = true ∨ o.dst ≠ some t) ∧ env.lookup t = some s') := by
  unfold push at h
  split at h
  · rename_i ha; exact .inr ⟨.inl ha, h⟩
  · rename_i ha
    split at h
    · rename_i d hd
      rcases lookup_cons h with ⟨rfl, rfl⟩ | ⟨hne, h⟩
      · exact .inl ⟨by simpa using ha, hd, rfl⟩
      · exact .inr ⟨.inr (by rw [hd]; simpa using fun e => hne e.symm), h⟩
    · rename_i hd
      exact .inr ⟨.inr (by rw [hd]; simp), h⟩

theorem lex_lookup : ∀ (l : List Oper) (ss : List S) (env : Env) (t : Nat) (s : S), ss.length = l.length → (lexEnv l ss env).lookup t = some s →
    (∃ (j : Nat) (o : Oper), l[j]? = some o ∧ isAlloc o = false ∧ o.dst = some t ∧ ss[j]? = some s) ∨ ((∀ (j : Nat) (o : Oper), l[j]? = some o → isAlloc o = true ∨ o.dst ≠ some t) ∧ env.lookup t = some s)
  | [], _, env, t, s, _, h => .inr ⟨by simp, h⟩
  | o :: l, [], env, t, s, hl, _ => by simp at hl
  | o :: l, s0 :: ss, env, t, s, hl, h => by
    rcases lex_lookup l ss _ t s (by simpa using hl) h with ⟨j, o', h1, h2, h3, h4⟩ | ⟨h1, h2⟩
    · exact .inl ⟨j + 1, o', by simpa using h1, h2, h3, by simpa using h4⟩
    · rcases push_lookup h2 with ⟨h3, h4, rfl⟩ | ⟨h3, h4⟩
      · exact .inl ⟨0, o, rfl, h3, h4, rfl⟩
      · refine .inr ⟨fun j o' hj => ?_, h4⟩
        cases j with
        | zero => simp at hj; subst hj; exact h3
        | succ j => exact h1 j o' (by simpa using hj)

def hasEdge (o : Oper) (j : Nat) : Bool := o.after.toList.any fun e => Region.binds .any e && e.on == j

/-- What an operation waits for, and what that waits for. -/
def direct (ops : Array Oper) (i : Nat) : List Nat := ((ops[i]?).map fun o => (o.after.toList.filter (Region.binds .any)).map (·.on)).getD []
def closure (ops : Array Oper) : Nat → List Nat → List Nat
  | 0, l => l
  | n + 1, l => closure ops n ((l ++ l.flatMap (direct ops)).eraseDups)

/-- What can be seen of a region: its first m operations come up in whatever order, the others behind all of them, one after the other; of the first ones number al makes a block that none of them looks at. -/
def anyChk (ops : Array Oper) (m : Nat) (al : Option Nat) (pre : List Nat := []) : Bool :=
  (decide (m ≤ ops.size) && al.all (fun i => decide (i < m))) && ops.toList.zipIdx.all fun (o, i) =>
    (o.after.toList.all fun e => !Region.binds .any e || decide (e.on < i)) &&
    if i < m then
      (isAlloc o == (al == some i)) &&
      ops.toList.zipIdx.all fun (o', j) => decide (m ≤ j) || i == j ||
        ((match o.dst with | some d => o'.dst != some d | none => true) &&
         (match o'.dst with | some d => !(o.looksAt ops).contains d || (!isAlloc o' && if j < i then hasEdge o j else hasEdge o' i) | none => true))
    else ((List.range m).all fun j => pre.contains j || hasEdge o j || (closure ops 12 (direct ops i)).contains j) && (i == m || hasEdge o (i - 1))

/-- .. whatever the order of the others. -/
def anyChkE (ops : Array Oper) (m : Nat) (al : Option Nat) (pre : List Nat := []) : Bool :=
  (decide (m ≤ ops.size) && al.all (fun i => decide (i < m))) && ops.toList.zipIdx.all fun (o, i) =>
    (o.after.toList.all fun e => !Region.binds .any e || decide (e.on < i)) &&
    if i < m then
      (isAlloc o == (al == some i)) &&
      ops.toList.zipIdx.all fun (o', j) => decide (m ≤ j) || i == j ||
        ((match o.dst with | some d => o'.dst != some d | none => true) &&
         (match o'.dst with | some d => !(o.looksAt ops).contains d || (!isAlloc o' && if j < i then hasEdge o j else hasEdge o' i) | none => true))
    else (List.range m).all fun j => pre.contains j || hasEdge o j || (closure ops 12 (direct ops i)).contains j
theorem chkE {ops : Array Oper} {m : Nat} {al : Option Nat} {pre : List Nat} (h : anyChk ops m al pre = true) : anyChkE ops m al pre = true := by
  unfold anyChk at h
  unfold anyChkE
  rw [Bool.and_eq_true] at h ⊢
  refine ⟨h.1, List.all_eq_true.2 fun x hx => ?_⟩
  have h1 := List.all_eq_true.1 h.2 x hx
  rw [Bool.and_eq_true] at h1 ⊢
  refine ⟨h1.1, ?_⟩
  have h2 := h1.2
  split
  · rename_i hlt
    rw [if_pos hlt] at h2
    exact h2
  · rename_i hlt
    rw [if_neg hlt, Bool.and_eq_true] at h2
    exact h2.1
theorem chk_after {ops : Array Oper} {m : Nat} {al : Option Nat} {pre : List Nat} (h : anyChkE ops m al pre = true) {i : Nat} {o : Oper} (hi : ops[i]? = some o) : ∀ e ∈ o.after, Region.binds .any e = true → e.on < i := by
  unfold anyChkE at h
  rw [Bool.and_eq_true] at h
  have h1 := List.all_eq_true.1 h.2 (o, i) (by rw [List.mem_zipIdx_iff_getElem?]; simpa using hi)
  simp only [Bool.and_eq_true] at h1
  intro e he hb
  have := List.all_eq_true.1 h1.1 e (by simpa using he)
  simpa [hb] using this
theorem chk_lateB {ops : Array Oper} {m : Nat} {al : Option Nat} {pre : List Nat} (h : anyChk ops m al pre = true) {i : Nat} {o : Oper} (hi : ops[i]? = some o) (hm : m ≤ i) : (∀ j, j < m → j ∈ pre ∨ hasEdge o j = true ∨ j ∈ closure ops 12 (direct ops i)) ∧ (m < i → hasEdge o (i - 1) = true) := by
  unfold anyChk at h
  rw [Bool.and_eq_true] at h
  have h1 := List.all_eq_true.1 h.2 (o, i) (by rw [List.mem_zipIdx_iff_getElem?]; simpa using hi)
  simp only [Bool.and_eq_true] at h1
  have h2 := h1.2
  rw [if_neg (by omega), Bool.and_eq_true, Bool.or_eq_true] at h2
  refine ⟨fun j hj => by
    have h3 := List.all_eq_true.1 h2.1 j (List.mem_range.2 hj)
    simp only [Bool.or_eq_true, List.contains_iff_mem] at h3
    exact h3.elim (fun h => h.elim .inl (fun h => .inr (.inl h))) (fun h => .inr (.inr h)), fun hlt => ?_⟩
  rcases h2.2 with h3 | h3
  · simp at h3; omega
  · exact h3
theorem chk_late {ops : Array Oper} {m : Nat} {al : Option Nat} {pre : List Nat} (h : anyChkE ops m al pre = true) {i : Nat} {o : Oper} (hi : ops[i]? = some o) (hm : m ≤ i) : ∀ j, j < m → j ∈ pre ∨ hasEdge o j = true ∨ j ∈ closure ops 12 (direct ops i) := by
  unfold anyChkE at h
  rw [Bool.and_eq_true] at h
  have h1 := List.all_eq_true.1 h.2 (o, i) (by rw [List.mem_zipIdx_iff_getElem?]; simpa using hi)
  simp only [Bool.and_eq_true] at h1
  have h2 := h1.2
  rw [if_neg (by omega)] at h2
  intro j hj
  have h3 := List.all_eq_true.1 h2 j (List.mem_range.2 hj)
  simp only [Bool.or_eq_true, List.contains_iff_mem] at h3
  exact h3.elim (fun h => h.elim .inl (fun h => .inr (.inl h))) (fun h => .inr (.inr h))
theorem chk_al {ops : Array Oper} {m : Nat} {al : Option Nat} {pre : List Nat} (h : anyChkE ops m al pre = true) {i : Nat} {o : Oper} (hi : ops[i]? = some o) (hm : i < m) : isAlloc o = true ↔ al = some i := by
  unfold anyChkE at h
  rw [Bool.and_eq_true] at h
  have h1 := List.all_eq_true.1 h.2 (o, i) (by rw [List.mem_zipIdx_iff_getElem?]; simpa using hi)
  simp only [Bool.and_eq_true] at h1
  have h2 := h1.2
  rw [if_pos hm] at h2
  simp only [Bool.and_eq_true, beq_iff_eq] at h2
  rw [h2.1]
  simp
theorem chk_pair {ops : Array Oper} {m : Nat} {al : Option Nat} {pre : List Nat} (h : anyChkE ops m al pre = true) {i j : Nat} {o o' : Oper} (hi : ops[i]? = some o) (hm : i < m) (hj : ops[j]? = some o') (hmj : j < m) (hne : i ≠ j) :
    (∀ d, o.dst = some d → o'.dst ≠ some d) ∧ (∀ d, o'.dst = some d → d ∈ o.looksAt ops → isAlloc o' = false ∧ if j < i then hasEdge o j = true else hasEdge o' i = true) := by
  unfold anyChkE at h
  rw [Bool.and_eq_true] at h
  have h1 := List.all_eq_true.1 h.2 (o, i) (by rw [List.mem_zipIdx_iff_getElem?]; simpa using hi)
  simp only [Bool.and_eq_true] at h1
  have h2 := h1.2
  rw [if_pos hm] at h2
  simp only [Bool.and_eq_true] at h2
  have h3 := List.all_eq_true.1 h2.2 (o', j) (by rw [List.mem_zipIdx_iff_getElem?]; simpa using hj)
  have hne' : (i == j) = false := by simpa using hne
  have hmj' : decide (m ≤ j) = false := by simpa using hmj
  simp only [hne', hmj', Bool.false_or, Bool.and_eq_true] at h3
  obtain ⟨h3, h4⟩ := h3
  refine ⟨fun d hd => ?_, fun d hd hmm => ?_⟩
  · simp only [hd] at h3; simpa using h3
  · simp only [hd] at h4
    have hc : (o.looksAt ops).contains d = true := by simpa using hmm
    simp only [hc, Bool.not_true, Bool.false_or, Bool.and_eq_true, Bool.not_eq_true'] at h4
    refine ⟨h4.1, ?_⟩
    have h5 := h4.2
    split at h5 <;> rename_i hlt
    · rw [if_pos hlt]; exact h5
    · rw [if_neg hlt]; exact h5

theorem only_lookup {env : Env} {ks : List Nat} {t : Nat} {s : S} (h : (env.only ks).lookup t = some s) : t ∈ ks ∧ env.lookup t = some s := by
  induction ks with
  | nil => simp [Env.only] at h
  | cons k ks ih =>
    unfold Env.only at h
    rw [List.filterMap_cons] at h
    cases hk : env.lookup k with
    | none =>
      simp only [hk, Option.map_none] at h
      obtain ⟨h1, h2⟩ := ih h
      exact ⟨List.mem_cons_of_mem _ h1, h2⟩
    | some s0 =>
      simp only [hk, Option.map_some] at h
      rcases lookup_cons h with ⟨rfl, rfl⟩ | ⟨_, h⟩
      · exact ⟨by simp, hk⟩
      · obtain ⟨h1, h2⟩ := ih h
        exact ⟨List.mem_cons_of_mem _ h1, h2⟩

theorem edge_spec {o : Oper} {j : Nat} (h : hasEdge o j = true) : ∃ e ∈ o.after, Region.binds .any e = true ∧ e.on = j := by
  obtain ⟨e, h1, h2⟩ := List.any_eq_true.1 h
  simp only [Bool.and_eq_true, beq_iff_eq] at h2
  exact ⟨e, by simpa using h1, h2⟩

theorem direct_done {ops : Array Oper} {done : Array Bool} (hclosed : ∀ j o, ops[j]? = some o → done.getD j true = true → ∀ e ∈ o.after, Region.binds .any e = true → done.getD e.on true = true) {i : Nat} (hi : done.getD i true = true) : ∀ j ∈ direct ops i, done.getD j true = true := by
  intro j hj
  unfold direct at hj
  cases ho : ops[i]? with
  | none => simp [ho] at hj
  | some o =>
    simp only [ho, Option.map_some, Option.getD_some, List.mem_map, List.mem_filter] at hj
    obtain ⟨e, ⟨he, hb⟩, rfl⟩ := hj
    exact hclosed i o ho hi e (by simpa using he) hb
theorem closure_done {ops : Array Oper} {done : Array Bool} (hclosed : ∀ j o, ops[j]? = some o → done.getD j true = true → ∀ e ∈ o.after, Region.binds .any e = true → done.getD e.on true = true) : ∀ (n : Nat) (l : List Nat), (∀ j ∈ l, done.getD j true = true) → ∀ j ∈ closure ops n l, done.getD j true = true
  | 0, l, h, j, hj => h j hj
  | n + 1, l, h, j, hj => closure_done hclosed n _ (fun k hk => by
      rw [List.mem_eraseDups] at hk
      rcases List.mem_append.1 hk with hk | hk
      · exact h k hk
      · obtain ⟨i, hi, hk⟩ := List.mem_flatMap.1 hk
        exact direct_done hclosed (h i hi) k hk) j hj

theorem getD_set_self {done : Array Bool} {i : Nat} : (done.setIfInBounds i true).getD i true = true := by
  rw [Array.getD_eq_getD_getElem?, Array.getElem?_setIfInBounds]
  by_cases h : i < done.size <;> simp [h]
theorem getD_set_other {done : Array Bool} {i j : Nat} (h : j ≠ i) : (done.setIfInBounds i true).getD j true = done.getD j true := by
  rw [Array.getD_eq_getD_getElem?, Array.getElem?_setIfInBounds, if_neg (by omega), ← Array.getD_eq_getD_getElem?]

theorem mem_ready' {md : Region.Mode} {ops : Array Oper} {listed : Array Bool} {i : Nat} : i ∈ Region.ready md ops listed ↔ listed.getD i true = false ∧ ∃ o, ops[i]? = some o ∧ ∀ e ∈ o.after, Region.binds md e = true → listed.getD e.on false = true := by
  unfold Region.ready
  rw [List.mem_filter, List.mem_range]
  constructor
  · rintro ⟨h1, h2⟩
    simp only [Bool.and_eq_true, Bool.not_eq_true'] at h2
    refine ⟨h2.1, ops[i], by simp [h1], ?_⟩
    have h3 := h2.2
    rw [Array.getElem?_eq_getElem h1] at h3
    simp only [Option.map_some, Option.getD_some] at h3
    intro e he hb
    have := Array.all_eq_true'.1 h3 e he
    simpa [hb] using this
  · rintro ⟨h1, o, h2, h3⟩
    refine ⟨(Array.getElem?_eq_some_iff.1 h2).1, ?_⟩
    rw [h1, h2]
    simp only [Bool.not_false, Bool.true_and, Option.map_some, Option.getD_some]
    rw [Array.all_eq_true']
    intro e he
    cases hb : Region.binds md e with
    | false => simp
    | true => simp [h3 e he hb]

theorem tail_done {done : Array Bool} {i : Nat} {b : Bool} (h : done.getD i false = true) : done.getD i b = true := by
  rw [Array.getD_eq_getD_getElem?] at h ⊢
  by_cases hlt : i < done.size
  · rw [Array.getElem?_eq_getElem hlt] at h ⊢; exact h
  · rw [Array.getElem?_eq_none (by omega)] at h; cases h

theorem stw_drew {w : World} (h : StW c H w) : StW c H { w with drawn := w.drawn + 1 } ∧ ∀ s v, SOk w (c.av H) s v → SOk { w with drawn := w.drawn + 1 } (c.av H) s v := by
  have := StW.step (H1 := []) (H1' := []) (Hr := H) (w' := { w with drawn := w.drawn + 1 }) h ⟨rfl, rfl, rfl, Nat.le_refl _, fun _ _ _ => rfl⟩ (by simp [hb]) (by simp [hb]) (by simp)
  exact this

/-- What the region has made so far. -/
def aCh (e : TypeId) (row : List C) : Option Nat → List Ch
  | some b => [.blk b e row]
  | none => []

/-- What holds when some of the first operations have come up. -/
structure AInv (c : Cx P nt) (ops : Array Oper) (H : List Ch) (env : Env) (ss : List S) (m : Nat) (al : Option Nat) (e : TypeId) (row : List C) (done : Array Bool) (ob : Option Nat) (a : Act) (w : World) : Prop where
  size : a.tmps.size = nt
  defers : a.defers = []
  heap : StW c (aCh e row ob ++ H) w
  dsize : done.size = ops.size
  late : ∀ k, m ≤ k → k < ops.size → done.getD k true = false
  made : ∀ i o d, al = some i → ops[i]? = some o → o.dst = some d → (done.getD i true = true → ∃ b, ob = some b ∧ a.tmps.getD d undef = .pointer (some ⟨b, 0, none⟩)) ∧ (done.getD i true = false → ob = none)
  none : al = none → ob = none
  old : ∀ t s, (∀ j o, ops[j]? = some o → o.dst = some t → done.getD j true = false) → env.lookup t = some s → SOk w (c.av (aCh e row ob ++ H)) s (a.tmps.getD t undef)
  new : ∀ (j : Nat) o t s, ops[j]? = some o → isAlloc o = false → o.dst = some t → ss[j]? = some s → done.getD j true = true → SOk w (c.av (aCh e row ob ++ H)) s (a.tmps.getD t undef)

section inv
variable {ops : Array Oper} {env : Env} {ss : List S} {m : Nat} {al : Option Nat} {e : TypeId} {row : List C} {done : Array Bool} {ob : Option Nat} {a : Act} {w : World} {pre : List Nat}

theorem a_inv_get (hc : anyChkE ops m al pre = true) (hl : ss.length = m) (h : AInv c ops H env ss m al e row done ob a w) {i : Nat} {o : Oper} (hi : ops[i]? = some o) (him : i < m) (hnd : done.getD i true = false)
    (hpre : ∀ e ∈ o.after, Region.binds .any e = true → done.getD e.on true = true) (hclosed : ∀ j o, ops[j]? = some o → done.getD j true = true → ∀ e ∈ o.after, Region.binds .any e = true → done.getD e.on true = true)
    {t : Nat} {s : S} (ht : t ∈ o.looksAt ops) (hlk : (lexEnv ((ops.toList.take m).take i) (ss.take i) env).lookup t = some s) : SOk w (c.av (aCh e row ob ++ H)) s (a.tmps.getD t undef) := by
  have hilt : i < ops.size := (Array.getElem?_eq_some_iff.1 hi).1
  rw [List.take_take, Nat.min_eq_left (Nat.le_of_lt him)] at hlk
  rcases lex_lookup _ _ _ _ _ (by simp [hl]; omega) hlk with ⟨j, oj, h1, hna, h2, h3⟩ | ⟨h1, h2⟩
  · have hji : j < i := by
      have := (List.getElem?_eq_some_iff.1 h1).1
      simp at this; omega
    have hoj : ops[j]? = some oj := by
      rw [List.getElem?_take] at h1
      simpa [hji] using h1
    have hsj : ss[j]? = some s := by
      rw [List.getElem?_take] at h3
      simpa [hji] using h3
    have he := ((chk_pair hc hi him hoj (by omega) (by omega)).2 t h2 ht).2
    rw [if_pos hji] at he
    obtain ⟨e, g1, g2, g3⟩ := edge_spec he
    exact h.new j oj t s hoj hna h2 hsj (g3 ▸ hpre e g1 g2)
  · refine h.old t s (fun j oj hj hd => ?_) h2
    have hjlt : j < ops.size := (Array.getElem?_eq_some_iff.1 hj).1
    by_cases hjm : m ≤ j
    · exact h.late j hjm hjlt
    · by_cases hji : j < i
      · rcases h1 j oj (by rw [List.getElem?_take]; simp [hji]; simpa using hj) with hna | hd'
        · have := ((chk_pair hc hi him hj (by omega) (by omega)).2 t hd ht).1
          rw [hna] at this
          cases this
        · exact absurd hd hd'
      · by_cases hje : j = i
        · subst hje; exact hnd
        · have he := ((chk_pair hc hi him hj (by omega) (by omega)).2 t hd ht).2
          rw [if_neg hji] at he
          obtain ⟨e, g1, g2, g3⟩ := edge_spec he
          cases hdj : done.getD j true with
          | false => rfl
          | true =>
            have := hclosed j oj hj hdj e g1 g2
            rw [g3, hnd] at this
            cases this

theorem put_other {o : Oper} {v : Value} (t : Nat) (ht : o.dst ≠ some t) : (a.put o.dst v).tmps.getD t undef = a.tmps.getD t undef := by
  cases hd : o.dst with
  | none => rfl
  | some d =>
    simp only [Act.put]
    rw [Array.getD_eq_getD_getElem?, Array.getElem?_setIfInBounds, if_neg (by rw [hd] at ht; simpa using ht), ← Array.getD_eq_getD_getElem?]
theorem put_self {o : Oper} {v : Value} (hs : a.tmps.size = nt) (hdn : ∀ d, o.dst = some d → d < nt) (t : Nat) (ht : o.dst = some t) : (a.put o.dst v).tmps.getD t undef = v := by
  rw [ht]
  simp only [Act.put]
  rw [Array.getD_eq_getD_getElem?, Array.getElem?_setIfInBounds]
  simp [hs, hdn t ht]
theorem put_size {o : Oper} {v : Value} : (a.put o.dst v).tmps.size = a.tmps.size := by cases o.dst <;> simp [Act.put]
theorem put_defers {o : Oper} {v : Value} : (a.put o.dst v).defers = a.defers := by cases o.dst <;> simp [Act.put]

/-- An operation has come up, and left its value. -/
theorem a_inv_next {w' : World} {i : Nat} {o : Oper} {s : S} {v : Value} (hc : anyChkE ops m al pre = true) (h : AInv c ops H env ss m al e row done ob a w) (hi : ops[i]? = some o) (him : i < m) (hna : isAlloc o = false) (hs : ss[i]? = some s) (hdn : ∀ d, o.dst = some d → d < nt)
    (hw : StW c (aCh e row ob ++ H) w') (hv : SOk w' (c.av (aCh e row ob ++ H)) s v) (hk : ∀ s v, SOk w (c.av (aCh e row ob ++ H)) s v → SOk w' (c.av (aCh e row ob ++ H)) s v) : AInv c ops H env ss m al e row (done.setIfInBounds i true) ob (a.put o.dst v) w' := by
  refine ⟨put_size.trans h.size, put_defers.trans h.defers, hw, by simp [h.dsize], ?_, ?_, h.none, ?_, ?_⟩
  · intro k hk1 hk2
    rw [getD_set_other (by omega)]; exact h.late k hk1 hk2
  · intro i' o' d hal ho' hd
    have hne : i' ≠ i := fun e => by subst e; rw [hi] at ho'; simp only [Option.some.injEq] at ho'; subst ho'; have := (chk_al hc hi him).2 hal; rw [hna] at this; cases this
    obtain ⟨g1, g2⟩ := h.made i' o' d hal ho' hd
    rw [getD_set_other hne]
    refine ⟨fun hdone => ?_, g2⟩
    obtain ⟨b, e1, e2⟩ := g1 hdone
    by_cases him' : i' < m
    · have hdd := ((chk_pair hc ho' him' hi him hne).1 d hd)
      exact ⟨b, e1, by rw [put_other d hdd]; exact e2⟩
    · have := h.late i' (by omega) (Array.getElem?_eq_some_iff.1 ho').1
      rw [this] at hdone; cases hdone
  · intro t s' hnone hlk
    have hne : o.dst ≠ some t := fun hd => by
      have := hnone i o hi hd
      rw [getD_set_self] at this
      cases this
    rw [put_other t hne]
    refine hk _ _ (h.old t s' (fun j oj hj hd => ?_) hlk)
    have h1 := hnone j oj hj hd
    by_cases hji : j = i
    · subst hji; rw [getD_set_self] at h1; cases h1
    · rwa [getD_set_other hji] at h1
  · intro j oj t s' hj hnaj hd hsj hdj
    by_cases hji : j = i
    · subst hji
      rw [hi] at hj
      simp only [Option.some.injEq] at hj
      subst hj
      rw [hs] at hsj
      simp only [Option.some.injEq] at hsj
      subst hsj
      rw [put_self h.size hdn t hd]
      exact hv
    · rw [getD_set_other hji] at hdj
      have hjm : j < m := by
        rcases Nat.lt_or_ge j m with h' | h'
        · exact h'
        · have := h.late j h' (Array.getElem?_eq_some_iff.1 hj).1
          rw [this] at hdj; cases hdj
      have hne : o.dst ≠ some t := (chk_pair hc hj hjm hi him hji).1 t hd
      rw [put_other t hne]
      exact hk _ _ (h.new j oj t s' hj hnaj hd hsj hdj)

/-- The block has been made. -/
theorem a_inv_made {w' : World} {i b : Nat} {o : Oper} (hc : anyChkE ops m al pre = true) (h : AInv c ops H env ss m al e row done none a w) (hi : ops[i]? = some o) (him : i < m) (hal : al = some i) (hdn : ∀ d, o.dst = some d → d < nt)
    (hw : StW c (.blk b e row :: H) w') (hk : ∀ s v, SOk w (c.av H) s v → SOk w' (c.av (.blk b e row :: H)) s v) : AInv c ops H env ss m al e row (done.setIfInBounds i true) (some b) (a.put o.dst (.pointer (some ⟨b, 0, none⟩))) w' := by
  refine ⟨put_size.trans h.size, put_defers.trans h.defers, hw, by simp [h.dsize], ?_, ?_, ?_, ?_, ?_⟩
  · intro k hk1 hk2
    rw [getD_set_other (by omega)]; exact h.late k hk1 hk2
  · intro i' o' d hal' ho' hd
    have hii : i' = i := by rw [hal] at hal'; simpa using hal'.symm
    subst hii
    rw [hi] at ho'
    simp only [Option.some.injEq] at ho'
    subst ho'
    exact ⟨fun _ => ⟨b, rfl, put_self h.size hdn d hd⟩, fun hf => by rw [getD_set_self] at hf; cases hf⟩
  · intro hn; rw [hal] at hn; cases hn
  · intro t s' hnone hlk
    have hne : o.dst ≠ some t := fun hd => by
      have := hnone i o hi hd
      rw [getD_set_self] at this
      cases this
    rw [put_other t hne]
    refine hk _ _ (h.old t s' (fun j oj hj hd => ?_) hlk)
    have h1 := hnone j oj hj hd
    by_cases hji : j = i
    · subst hji; rw [getD_set_self] at h1; cases h1
    · rwa [getD_set_other hji] at h1
  · intro j oj t s' hj hnaj hd hsj hdj
    have hji : j ≠ i := fun e => by
      subst e
      rw [hi] at hj
      simp only [Option.some.injEq] at hj
      subst hj
      have := (chk_al hc hi him).2 hal
      rw [hnaj] at this; cases this
    rw [getD_set_other hji] at hdj
    have hjm : j < m := by
      rcases Nat.lt_or_ge j m with h' | h'
      · exact h'
      · have := h.late j h' (Array.getElem?_eq_some_iff.1 hj).1
        rw [this] at hdj; cases hdj
    have hne : o.dst ≠ some t := (chk_pair hc hj hjm hi him hji).1 t hd
    rw [put_other t hne]
    exact hk _ _ (h.new j oj t s' hj hnaj hd hsj hdj)
end inv

/-- An operation that owns H alone, where more is owned. -/
theorem frame_step {o : Oper} {env' : Env} {E : List Ch} {s : S} {a : Act} {w : World} (hop : ∀ c : Cx P nt, OpWp c o env' H (fun s' H' => s' = s ∧ H'.Perm H)) (hsz : a.tmps.size = nt) (hdf : a.defers = []) (hw : StW c (E ++ H) w)
    (hslots : ∀ t s, env'.lookup t = some s → SOk w (c.av (E ++ H)) s (a.tmps.getD t undef)) {next : Act → World → Prop} {Q : Exit → Act → World → Prop}
    (hn : ∀ v w', StW c (E ++ H) w' → SOk w' (c.av (E ++ H)) s v → (∀ s v, SOk w (c.av (E ++ H)) s v → SOk w' (c.av (E ++ H)) s v) → next (a.put o.dst v) w') : o.wp P a w next Q := by
  let c' : Cx P nt := ⟨w, c.av (E ++ H), hb H, fun b hb => hw.avlt b hb⟩
  have hav : c'.av H = c.av (E ++ H) := by
    funext b
    refine propext ⟨fun hb => ?_, fun hb => .inl hb⟩
    rcases hb with hb | hb
    · exact hb
    · exact .inr (by rw [hb_app]; exact List.mem_append.2 (.inr hb))
  have hnd := hw.nodup
  rw [hb_app, List.nodup_append] at hnd
  have hst : St c' env' H a w := ⟨hsz, hdf, fun t s hl => by rw [hav]; exact hslots t s hl, rfl, rfl, rfl, Nat.le_refl _, fun _ _ _ => rfl, fun ch hch => by rw [hav]; exact hw.ok ch (List.mem_append.2 (.inr hch)), hnd.2.1, fun b hb => .inl hb, by rw [hav]; exact hw.gl⟩
  refine hop c' a w hst _ _ ?_
  rintro s' H' v w' ⟨rfl, hp⟩ hw' hv hk
  have hw2 := hw'.perm hp
  have hav' : c'.av H' = c'.av H := (av_perm c' hp).symm
  have hg : Grow (hb H) w w' := ⟨hw2.os, hw2.tape, hw2.output, hw2.size, hw2.block⟩
  have hwp : StW c (H ++ E) w := hw.perm List.perm_append_comm
  obtain ⟨s1, s2⟩ := StW.step (H1 := H) (H1' := H) (Hr := E) hwp hg (fun b hb => .inl hb) hnd.2.1 (fun ch hch => by
    have := hw2.ok ch hch
    rw [hav] at this
    rw [av_perm c (List.perm_append_comm (l₁ := E) (l₂ := H))]
    exact this)
  have hpe : c.av (H ++ E) = c.av (E ++ H) := av_perm c (List.perm_append_comm (l₁ := E) (l₂ := H))
  refine hn v w' (s1.perm List.perm_append_comm) ?_ ?_
  · rw [hav', hav] at hv; exact hv
  · intro s v hsv
    have := s2 s v (by rw [hpe]; exact hsv)
    rwa [hpe] at this

omit [Gl P] in
/-- The operations behind the first ones. -/
theorem wpAny_late {ops : Array Oper} {Q : Exit → Act → World → Prop} {m : Nat} {al : Option Nat} {pre : List Nat} (hc : anyChk ops m al pre = true) : ∀ (n k : Nat), k + n = ops.size → m ≤ k → ∀ (done : Array Bool) (a : Act) (w : World), done.size = ops.size →
    (∀ j, j < ops.size → (done.getD j true = true ↔ j < k)) → wpList P ops Q (ops.toList.drop k) a w → wpAny P .any ops Q n done a w
  | 0, k, hkn, hmk, done, a, w, hsz, hd, h => by
    rw [List.drop_of_length_le (by simp; omega)] at h
    refine ⟨?_, h⟩
    cases hr : Region.ready .any ops done with
    | nil => rfl
    | cons x xs =>
      obtain ⟨g1, ox, g2, _⟩ := mem_ready'.1 (show x ∈ Region.ready .any ops done by rw [hr]; simp)
      have hlt := (Array.getElem?_eq_some_iff.1 g2).1
      rw [(hd x hlt).2 (by omega)] at g1
      cases g1
  | n + 1, k, hkn, hmk, done, a, w, hsz, hd, h => by
    have hk : k < ops.size := by omega
    have hok : ops[k]? = some ops[k] := by simp [hk]
    have hready : k ∈ Region.ready .any ops done := mem_ready'.2 ⟨(by
        cases hdk : done.getD k true with
        | false => rfl
        | true => have := (hd k hk).1 hdk; omega), ops[k], hok, fun e he hb => by
        have hlt := chk_after (chkE hc) hok e he hb
        have h1 := (hd e.on (by omega)).2 hlt
        rw [Array.getD_eq_getD_getElem?] at h1 ⊢
        rw [Array.getElem?_eq_getElem (by omega)] at h1 ⊢
        exact h1⟩
    refine ⟨fun h0 => (by rw [h0] at hready; cases hready), fun i hi => ?_⟩
    obtain ⟨g1, o, g2, g3⟩ := mem_ready'.1 hi
    have hilt := (Array.getElem?_eq_some_iff.1 g2).1
    have hik : i = k := by
      by_cases hlt : i < k
      · rw [(hd i hilt).2 hlt] at g1; cases g1
      · by_cases he : i = k
        · exact he
        · obtain ⟨e, e1, e2, e3⟩ := edge_spec ((chk_lateB hc g2 (by omega)).2 (by omega))
          have := tail_done (b := true) (g3 e e1 e2)
          rw [e3] at this
          have := (hd (i - 1) (by omega)).1 this
          omega
    subst hik
    rw [hok] at g2
    simp only [Option.some.injEq] at g2
    have hdrop : ops.toList.drop i = ops[i] :: ops.toList.drop (i + 1) := by
      rw [List.drop_eq_getElem_cons (by simpa using hk)]
      simp
    rw [hdrop] at h
    have hrec : ∀ a w, wpList P ops Q (ops.toList.drop (i + 1)) a w → wpAny P .any ops Q n (done.setIfInBounds i true) a w := fun a w h =>
      wpAny_late hc n (i + 1) (by omega) (by omega) _ a w (by simp [hsz]) (fun j hj => by
        by_cases hji : j = i
        · subst hji; rw [getD_set_self]; simp
        · rw [getD_set_other hji, hd j hj]; omega) h
    unfold wpOp
    rw [hok]
    dsimp only
    unfold wpList at h
    split at h
    · rename_i hw
      rw [if_pos hw]
      rcases h with h | h
      · exact .inl (Oper.wp_mono hrec h)
      · exact .inr h
    · rename_i hw
      rw [if_neg hw]
      exact hrec _ _ h

/-- An operation that makes a block. -/
def AllocOk (P : Program) (o : Oper) (e : TypeId) (row : List C) : Prop :=
  ∃ cs : List Value, (∀ w A, RdRow w A row cs) ∧ ∀ ρ w, (execOp ρ o).run P w = .ok (.value (.pointer (some ⟨w.heap.size, 0, none⟩))) (w.alloc (.cells cs.toArray e))
omit [Gl P] in
theorem allocOk {d : Option Tmp} {ty e : TypeId} {pos : String} {af : Array Edge} {g : Option (Nat × Bool)} [TI P e] {z : Value} (hz : (TI.i P e).zero = some z) (h1 : z.cells.toList.all Value.oneCell' = true) : AllocOk P ⟨d, .alloc e, ty, pos, af, g⟩ e (zeroRow z) :=
  ⟨z.cells.toList, fun _ _ => rdRow_zero _ (List.all_eq_true.1 h1), fun ρ w => by simp [execOp, Instr.alloc, run_zeroValue e hz, newVar, newRow]⟩

/-- What is asked when the first operations have all come up: of whatever comes behind. -/
def AFinW (c : Cx P nt) (ops : Array Oper) (F : Act → World → Prop) (H : List Ch) (env : Env) : Option Nat → Prop
  | none => ∀ a w, St c env H a w → F a w
  | some i => ∃ o d e row, ops[i]? = some o ∧ o.dst = some d ∧ AllocOk P o e row ∧ ∀ b a w, St c ((d, .cell (.val (.pointer (some ⟨b, 0, none⟩)))) :: env) (.blk b e row :: H) a w → F a w

/-- What is asked when the first operations have all come up. -/
def AFin (c : Cx P nt) (ops : Array Oper) (Q : Exit → Act → World → Prop) (m : Nat) (H : List Ch) (env : Env) : Option Nat → Prop
  | none => JL c ops Q (ops.toList.drop m) env H
  | some i => ∃ o d e row, ops[i]? = some o ∧ o.dst = some d ∧ AllocOk P o e row ∧ ∀ b, JL c ops Q (ops.toList.drop m) ((d, .cell (.val (.pointer (some ⟨b, 0, none⟩)))) :: env) (.blk b e row :: H)

theorem afin_none {ops : Array Oper} {Q : Exit → Act → World → Prop} {m : Nat} {env : Env} (h : JL c ops Q (ops.toList.drop m) env H) : AFin c ops Q m H env none := h
theorem afin_some {ops : Array Oper} {Q : Exit → Act → World → Prop} {m i d : Nat} {ty e : TypeId} {pos : String} {af : Array Edge} {g : Option (Nat × Bool)} {env : Env} (hi : ops[i]? = some ⟨some d, .alloc e, ty, pos, af, g⟩) [TI P e] {z : Value} (hz : (TI.i P e).zero = some z) (h1 : z.cells.toList.all Value.oneCell' = true)
    (h : ∀ b, JL c ops Q (ops.toList.drop m) ((d, .cell (.val (.pointer (some ⟨b, 0, none⟩)))) :: env) (.blk b e (zeroRow z) :: H)) : AFin c ops Q m H env (some i) := ⟨_, d, e, _, hi, rfl, allocOk hz h1, h⟩

/-- Moves that may come up first, whatever is drawn. -/
def preChk (ops : Array Oper) (m : Nat) : Array Bool → List Nat → Bool
  | _, [] => true
  | done, i :: is => decide (i < m) && (match ops[i]? with
      | some o => (match o.op with | .move _ => true | .binOp .add _ _ _ _ => true | .binOp .sub _ _ _ _ => true | _ => false) && o.guard.isNone
      | none => false) && (Region.ready .any ops done).contains i && Region.free .any ops done i && preChk ops m (done.setIfInBounds i true) is

/-- What such operations make, by what is known of slots. -/
def preOp (o : Oper) (env : Env) : Option S := match o.op with
  | .move x => some ((env.ev x).getD .void)
  | .binOp .add _ x y _ => match env.ev x, env.ev y with
    | some (.cell (.val (.int k m))), some (.cell (.val (.int k' n))) => if k = k' then some (In k (k.wrap (m + n))) else none
    | _, _ => none
  | .binOp .sub _ x y _ => match env.ev x, env.ev y with
    | some (.cell (.val (.int k m))), some (.cell (.val (.int k' n))) => if k = k' then some (In k (k.wrap (m - n))) else none
    | _, _ => none
  | _ => none
def preRun (ops : Array Oper) : Env → List Nat → Bool
  | _, [] => true
  | env, i :: is => match ops[i]? with
    | some o => match o.dst, preOp o env with
      | some d, some s => preRun ops ((d, s) :: env) is
      | _, _ => false
    | none => false
omit [Gl P] in
theorem ev_okw {w : World} {A : Nat → Prop} {a : Act} {env : Env} (h : ∀ t s, env.lookup t = some s → SOk w A s (a.tmps.getD t undef)) {x : Operand} {s : S} (hx : env.ev x = some s) : SOk w A s (a.eval x) := by
  cases x with
  | tmp t => exact h t s hx
  | const v =>
    simp only [Env.ev] at hx
    split at hx
    · cases hx; exact ⟨rfl, by assumption⟩
    · cases hx
  | func f => simp only [Env.ev] at hx; cases hx; exact ⟨rfl, rfl⟩
  | global g => simp only [Env.ev] at hx; cases hx; exact ⟨rfl, rfl⟩
omit [Gl P] in
theorem preOp_ok {o : Oper} {env : Env} {s : S} (ho : preOp o env = some s) {w : World} {A : Nat → Prop} {a : Act} (h : ∀ t s, env.lookup t = some s → SOk w A s (a.tmps.getD t undef)) : ∃ v, (∀ w, (execOp a.eval o).run P w = .ok (.value v) w) ∧ SOk w A s v := by
  obtain ⟨d, op, ty, pos, af, g⟩ := o
  unfold preOp at ho
  split at ho
  · rename_i x hop
    simp only at hop
    subst hop
    cases ho
    refine ⟨a.eval x, fun w => rfl, ?_⟩
    cases hx : env.ev x with
    | none => exact trivial
    | some s => exact ev_okw h hx
  · rename_i t x y t' hop
    simp only at hop
    subst hop
    split at ho
    · rename_i k m k' n hx hy
      split at ho
      · rename_i hk
        subst hk
        cases ho
        have e1 : a.eval x = .int k m := (ev_okw h hx).1
        have e2 : a.eval y = .int k n := (ev_okw h hy).1
        exact ⟨.int k (k.wrap (m + n)), fun w => by simp [execOp, e1, e2, eqGuard, binOp, Op.intArith], rfl, rfl⟩
      · cases ho
    · cases ho
  · rename_i t x y t' hop
    simp only at hop
    subst hop
    split at ho
    · rename_i k m k' n hx hy
      split at ho
      · rename_i hk
        subst hk
        cases ho
        have e1 : a.eval x = .int k m := (ev_okw h hx).1
        have e2 : a.eval y = .int k n := (ev_okw h hy).1
        exact ⟨.int k (k.wrap (m - n)), fun w => by simp [execOp, e1, e2, eqGuard, binOp, Op.intArith], rfl, rfl⟩
      · cases ho
    · cases ho
  · cases ho

/-- A region whose order is drawn. -/
theorem any_coreW {id : Nat} {ops : Array Oper} {Q : Exit → Act → World → Prop} {env : Env} {F : Act → World → Prop} (m : Nat) (al : Option Nat) (pre : List Nat) (hpq : pre = [] ∨ (Region.noSelect ops = true ∧ ∀ ch a a' w, Q (.panic ch) a w → Q (.panic ch) a' w)) (hpc : preChk ops m (Array.replicate ops.size false) pre = true) (hpe : preRun ops env pre = true)
    (hlate : ∀ (done : Array Bool) (a : Act) (w : World), done.size = ops.size → (∀ j, j < ops.size → (done.getD j true = true ↔ j < m)) → F a w → wpAny P .any ops Q (ops.size - m) done a w)
    (hm : P.follows .mixedOrders = true) (hc : anyChkE ops m al pre = true) (hdn : ops.toList.all (fun o => o.dst.all (fun d => decide (d < nt))) = true)
    (h : AnyOk P nt ops H (fun env' => AFinW c ops F H env' al) (ops.toList.take m) env) : JC c (.region id ops true) Q env H := by
  intro a w hs
  obtain ⟨ss, hl, hok, hK⟩ := any_extract _ _ h
  obtain ⟨hmle, halm⟩ : m ≤ ops.size ∧ ∀ i, al = some i → i < m := by
    unfold anyChkE at hc
    rw [Bool.and_eq_true, Bool.and_eq_true] at hc
    refine ⟨by simpa using hc.1.1, fun i hi => ?_⟩
    have := hc.1.2
    rw [hi] at this
    simpa using this
  have hl' : ss.length = m := by simp [hl]; omega
  have hdn' : ∀ (i : Nat) o, ops[i]? = some o → ∀ d, o.dst = some d → d < nt := by
    intro i o hi d hd
    have := List.all_eq_true.1 hdn o (by rw [Array.mem_toList_iff]; exact Array.mem_of_getElem? hi)
    simpa [hd] using this
  -- what is made, if anything is
  obtain ⟨e, row, hmk, hfin⟩ : ∃ e row, (∀ i o, al = some i → ops[i]? = some o → AllocOk P o e row ∧ ∃ d, o.dst = some d) ∧
      (∀ ob a w, (al = none → ob = none) → (∀ i o d, al = some i → ops[i]? = some o → o.dst = some d → ∃ b, ob = some b ∧ a.tmps.getD d undef = .pointer (some ⟨b, 0, none⟩)) →
        a.tmps.size = nt → a.defers = [] → StW c (aCh e row ob ++ H) w → (∀ t s, (∀ i o, al = some i → ops[i]? = some o → o.dst ≠ some t) → (lexEnv (ops.toList.take m) ss env).lookup t = some s → SOk w (c.av (aCh e row ob ++ H)) s (a.tmps.getD t undef)) → F a w) := by
    cases al with
    | none => exact ⟨0, [], by simp, fun ob a w h1 _ h3 h4 h5 h6 => by have := h1 rfl; subst this; exact hK a w ⟨h3, h4, fun t s hl => h6 t s (by simp) hl, h5⟩⟩
    | some i =>
      obtain ⟨o, d, e, row, g1, g2, g3, g4⟩ := hK
      refine ⟨e, row, fun i' o' h1 h2 => by cases h1; rw [g1] at h2; cases h2; exact ⟨g3, d, g2⟩, fun ob a w _ h2 h3 h4 h5 h6 => ?_⟩
      obtain ⟨b, rfl, hb⟩ := h2 i o d rfl g1 g2
      refine g4 b a w ⟨h3, h4, ?_, h5⟩
      intro t s hlk
      rcases lookup_cons hlk with ⟨rfl, rfl⟩ | ⟨hne, hlk⟩
      · exact ⟨hb, rfl⟩
      · refine h6 t s (fun i' o' h1 h2 => ?_) hlk
        cases h1
        rw [g1] at h2
        cases h2
        rw [g2]
        simpa using fun e => hne e.symm
  refine wp_region_any hm ?_
  have allDone : ∀ done ob a w, AInv c ops H env ss m al e row done ob a w → (∀ j, j < m → done.getD j true = true) → wpAny P .any ops Q (ops.size - m) done a w := by
    intro done ob a w hinv hall
    refine hlate done a w hinv.dsize (fun j hj => ⟨fun hd => ?_, hall j⟩) (hfin ob a w hinv.none (fun i o d hal hi hd => (hinv.made i o d hal hi hd).1 (hall i (halm i hal))) hinv.size hinv.defers hinv.heap ?_)
    · rcases Nat.lt_or_ge j m with h' | h'
      · exact h'
      · rw [hinv.late j h' hj] at hd; cases hd
    · intro t s hnal hlk
      rcases lex_lookup _ _ _ _ _ hl hlk with ⟨j, o, h1, hna, h2, h3⟩ | ⟨h1, h2⟩
      · have hjm : j < m := by
          have := (List.getElem?_eq_some_iff.1 h1).1
          simp at this; omega
        have hj : ops[j]? = some o := by
          rw [List.getElem?_take] at h1
          simpa [hjm] using h1
        exact hinv.new j o t s hj hna h2 h3 (hall j hjm)
      · refine hinv.old t s (fun j o hj hd => ?_) h2
        have hjlt : j < ops.size := (Array.getElem?_eq_some_iff.1 hj).1
        by_cases hjm : j < m
        · exfalso
          rcases h1 j o (by rw [List.getElem?_take]; simp [hjm]; simpa using hj) with hna | hne
          · exact hnal j o ((chk_al hc hj hjm).1 hna) hj hd
          · exact hne hd
        · exact hinv.late j (by omega) hjlt
  have main : ∀ fuel done ob a w, AInv c ops H env ss m al e row done ob a w → (∀ j o, ops[j]? = some o → done.getD j true = true → ∀ e ∈ o.after, Region.binds .any e = true → done.getD e.on true = true) → (∀ j ∈ pre, done.getD j true = true) → (done.toList.filter (· == false)).length = fuel → wpAny P .any ops Q fuel done a w := by
    intro fuel
    induction fuel with
    | zero =>
      intro done ob a w hinv _ _ hcount
      have hall : ∀ j, j < ops.size → done.getD j true = true := by
        intro j hj
        cases hdj : done.getD j true with
        | true => rfl
        | false =>
          have hjd : j < done.size := by rw [hinv.dsize]; exact hj
          have : false ∈ done.toList.filter (· == false) := by
            rw [List.mem_filter]
            refine ⟨?_, rfl⟩
            rw [Array.getD_eq_getD_getElem?, Array.getElem?_eq_getElem hjd] at hdj
            have hdj' : done[j] = false := by simpa using hdj
            rw [← hdj']
            exact Array.mem_toList_iff.2 (Array.getElem_mem _)
          rw [List.eq_nil_of_length_eq_zero hcount] at this
          cases this
      have hms : m = ops.size := by
        rcases Nat.lt_or_ge m ops.size with h' | h'
        · have := hall m h'
          rw [hinv.late m (Nat.le_refl _) h'] at this
          cases this
        · omega
      have := allDone done ob a w hinv (fun j hj => hall j (by omega))
      rw [hms, Nat.sub_self] at this
      exact this
    | succ fuel ih =>
      intro done ob a w hinv hclosed hpd hcount
      by_cases hall : ∀ j, j < m → done.getD j true = true
      · have hcnt : ops.size - m = fuel + 1 := by
          have hsplit : done.toList = done.toList.take m ++ done.toList.drop m := (List.take_append_drop m done.toList).symm
          rw [hsplit, List.filter_append, List.length_append] at hcount
          have e1 : (done.toList.take m).filter (· == false) = [] := by
            rw [List.filter_eq_nil_iff]
            intro x hx
            obtain ⟨j, hj, rfl⟩ := List.getElem_of_mem hx
            simp only [List.length_take, Array.length_toList, hinv.dsize] at hj
            have := hall j (by omega)
            rw [Array.getD_eq_getD_getElem?, Array.getElem?_eq_getElem (by rw [hinv.dsize]; omega)] at this
            have h2 : done[j]'(by rw [hinv.dsize]; omega) = true := by simpa using this
            simp [h2]
          have e2 : (done.toList.drop m).filter (· == false) = done.toList.drop m := by
            rw [List.filter_eq_self]
            intro x hx
            obtain ⟨j, hj, rfl⟩ := List.getElem_of_mem hx
            simp only [List.length_drop, Array.length_toList, hinv.dsize] at hj
            have := hinv.late (m + j) (by omega) (by omega)
            rw [Array.getD_eq_getD_getElem?, Array.getElem?_eq_getElem (by rw [hinv.dsize]; omega)] at this
            have h2 : done[m + j]'(by rw [hinv.dsize]; omega) = false := by simpa using this
            simp [h2]
          rw [e1, e2] at hcount
          simp only [List.length_nil, List.length_drop, Array.length_toList, hinv.dsize] at hcount
          omega
        rw [← hcnt]
        exact allDone done ob a w hinv hall
      · have hex : ∃ j, j < m ∧ done.getD j true = false := by
          refine Classical.byContradiction fun hno => hall fun j hj => ?_
          cases hdj : done.getD j true with
          | true => rfl
          | false => exact absurd ⟨j, hj, hdj⟩ hno
        obtain ⟨j0, hj0, hd0⟩ := hex
        have hfirst : ∀ n j, j ≤ n → j < m → done.getD j true = false → ∃ i, i ∈ Region.ready .any ops done := by
          intro n
          induction n with
          | zero =>
            intro j hj hjm hdj
            have : j = 0 := by omega
            subst this
            exact ⟨0, mem_ready'.2 ⟨hdj, ops[0]'(by omega), by simp, fun e he hb => by
              have := chk_after hc (show ops[0]? = some (ops[0]'(by omega)) by simp) e he hb
              omega⟩⟩
          | succ n ihn =>
            intro j hj hjm hdj
            by_cases hall2 : ∀ e ∈ (ops[j]'(by omega)).after, Region.binds .any e = true → done.getD e.on true = true
            · exact ⟨j, mem_ready'.2 ⟨hdj, ops[j]'(by omega), by simp, fun e he hb => by
                have hlt := chk_after hc (show ops[j]? = some (ops[j]'(by omega)) by simp) e he hb
                have h1 := hall2 e he hb
                rw [Array.getD_eq_getD_getElem?] at h1 ⊢
                rw [Array.getElem?_eq_getElem (by rw [hinv.dsize]; omega)] at h1 ⊢
                exact h1⟩⟩
            · have : ∃ e, e ∈ (ops[j]'(by omega)).after ∧ Region.binds .any e = true ∧ done.getD e.on true = false := by
                refine Classical.byContradiction fun hno => hall2 fun e he hb => ?_
                cases hde : done.getD e.on true with
                | true => rfl
                | false => exact absurd ⟨e, he, hb, hde⟩ hno
              obtain ⟨e, he, hb, hde⟩ := this
              have hlt := chk_after hc (show ops[j]? = some (ops[j]'(by omega)) by simp) e he hb
              exact ihn e.on (by omega) (by omega) hde
        obtain ⟨i0, hi0⟩ := hfirst j0 j0 (Nat.le_refl _) hj0 hd0
        refine ⟨fun h0 => (by rw [h0] at hi0; cases hi0), fun i hi => ?_⟩
        obtain ⟨hnd, o, hio, hpre0⟩ := mem_ready'.1 hi
        have hpre : ∀ e ∈ o.after, Region.binds .any e = true → done.getD e.on true = true := fun e he hb => tail_done (hpre0 e he hb)
        have hilt : i < ops.size := (Array.getElem?_eq_some_iff.1 hio).1
        have him : i < m := by
          rcases Nat.lt_or_ge i m with h' | h'
          · exact h'
          · rcases chk_late hc hio h' j0 (by omega) with h1 | h1 | h1
            · rw [hpd j0 h1] at hd0; cases hd0
            · obtain ⟨e, e1, e2, e3⟩ := edge_spec h1
              have := hpre e e1 e2
              rw [e3, hd0] at this
              cases this
            · have hdir : ∀ j ∈ direct ops i, done.getD j true = true := by
                intro j hj
                unfold direct at hj
                simp only [hio, Option.map_some, Option.getD_some, List.mem_map, List.mem_filter] at hj
                obtain ⟨e, ⟨he, hb⟩, rfl⟩ := hj
                exact hpre e (by simpa using he) hb
              rw [closure_done hclosed _ _ hdir j0 h1] at hd0
              cases hd0
        have hpd' : ∀ j ∈ pre, (done.setIfInBounds i true).getD j true = true := by
          intro j hj
          by_cases hji : j = i
          · rw [hji]; exact getD_set_self
          · rw [getD_set_other hji]; exact hpd j hj
        have hclosed' : ∀ j oj, ops[j]? = some oj → (done.setIfInBounds i true).getD j true = true → ∀ e ∈ oj.after, Region.binds .any e = true → (done.setIfInBounds i true).getD e.on true = true := by
          intro j oj hj hdj e he hb
          by_cases hei : e.on = i
          · rw [hei]; exact getD_set_self
          · rw [getD_set_other hei]
            by_cases hji : j = i
            · subst hji
              rw [hio] at hj
              simp only [Option.some.injEq] at hj
              subst hj
              exact hpre e he hb
            · rw [getD_set_other hji] at hdj
              exact hclosed j oj hj hdj e he hb
        have hcount' : ((done.setIfInBounds i true).toList.filter (· == false)).length = fuel := by
          have hid : i < done.toList.length := by simp [hinv.dsize, hilt]
          have hdi : done.toList[i] = false := by
            rw [Array.getD_eq_getD_getElem?, Array.getElem?_eq_getElem (by rw [hinv.dsize]; exact hilt)] at hnd
            simpa using hnd
          have hsplit : done.toList = done.toList.take i ++ done.toList[i] :: done.toList.drop (i + 1) := by rw [List.getElem_cons_drop, List.take_append_drop]
          have e2 : (done.toList.filter (· == false)).length = ((done.toList.take i ++ done.toList[i] :: done.toList.drop (i + 1)).filter (· == false)).length := by rw [← hsplit]
          rw [Array.toList_setIfInBounds, List.set_eq_take_append_cons_drop, if_pos hid]
          rw [e2, hdi] at hcount
          simp only [List.filter_append, List.length_append, List.filter_cons] at hcount ⊢
          simp at hcount ⊢
          omega
        unfold wpOp
        rw [hio]
        dsimp only
        by_cases hal : isAlloc o = true
        · -- it makes the block
          have hali := (chk_al hc hio him).1 hal
          obtain ⟨⟨cs, hcs1, hcs2⟩, d, hd⟩ := hmk i o hali hio
          have hob := (hinv.made i o d hali hio hd).2 hnd
          subst hob
          have hg : o.guard = none := by
            unfold isAlloc at hal
            split at hal
            · assumption
            · cases hal
          rw [if_pos (by simp [Region.wanted, hg])]
          left
          unfold Oper.wp
          rw [hcs2]
          obtain ⟨s1, s2⟩ := stw_alloc (c := c) (H := H) hinv.heap row cs e (hcs1 w _)
          exact ih _ (some w.heap.size) _ _ (a_inv_made hc hinv hio him hali (hdn' i o hio) s1 s2) hclosed' hpd' hcount'
        · have hna : isAlloc o = false := by simpa using hal
          have hsi : ∃ s, ss[i]? = some s := ⟨ss[i]'(by omega), by simp [hl', him]⟩
          obtain ⟨s, hsi⟩ := hsi
          have hop := hok i o s (by rw [List.getElem?_take]; simp [him]; simpa using hio) hsi
          have hslots : ∀ t s, ((lexEnv ((ops.toList.take m).take i) (ss.take i) env).only (o.looksAt ops)).lookup t = some s → SOk w (c.av (aCh e row ob ++ H)) s (a.tmps.getD t undef) := by
            intro t s' hlk
            obtain ⟨g1, g2⟩ := only_lookup hlk
            exact a_inv_get hc hl' hinv hio him hnd hpre hclosed g1 g2
          have run : (∀ c : Cx P nt, OpWp c o ((lexEnv ((ops.toList.take m).take i) (ss.take i) env).only (o.looksAt ops)) H (fun s' H' => s' = s ∧ H'.Perm H)) → o.wp P a w (wpAny P .any ops Q fuel (done.setIfInBounds i true)) Q := by
            intro hop
            refine frame_step hop hinv.size hinv.defers hinv.heap hslots ?_
            intro v w' hw' hv hk
            exact ih _ ob _ _ (a_inv_next hc hinv hio him hna hsi (hdn' i o hio) hw' hv hk) hclosed' hpd' hcount'
          rcases hop with hop | hop
          · rw [hop] at hna; cases hna
          cases hg : o.guard with
          | none =>
            rw [hg] at hop
            rw [if_pos (by simp [Region.wanted, hg])]
            exact .inl (run hop)
          | some jw =>
            obtain ⟨j, want⟩ := jw
            rw [hg] at hop
            rcases hop with ⟨b, hb, h1, h2⟩ | ⟨hb, hsv⟩
            rotate_left
            · have hval : yielded ops a.tmps j = none := by
                cases hd : (ops[j]?).bind (·.dst) with
                | none => unfold yielded; simp [hd]
                | some dj =>
                  rw [hd] at hb
                  have hmem : dj ∈ o.looksAt ops := by
                    unfold Oper.looksAt
                    rw [hg]
                    simp [hd]
                  obtain ⟨vs, hv, hvs⟩ := a_inv_get hc hl' hinv hio him hnd hpre hclosed hmem hb
                  simp only [SOks] at hvs
                  subst hvs
                  unfold yielded
                  rw [hd]
                  simp only [Option.bind_some]
                  rw [Array.getD_eq_getD_getElem?] at hv
                  cases h : a.tmps[dj]? with
                  | none => rfl
                  | some u =>
                    rw [h] at hv
                    simp only [Option.getD_some] at hv
                    subst hv
                    rfl
              rw [if_neg (by simp [Region.wanted, hg, hval])]
              subst hsv
              exact ih _ ob _ _ (a_inv_next hc hinv hio him hna hsi (hdn' i o hio) hinv.heap ⟨[], rfl, rfl⟩ (fun _ _ h => h)) hclosed' hpd' hcount'
            have hval : yielded ops a.tmps j = some b := by
              cases hd : (ops[j]?).bind (·.dst) with
              | none => rw [hd] at hb; simp [Env.ev] at hb
              | some dj =>
                rw [hd] at hb
                have hmem : dj ∈ o.looksAt ops := by
                  unfold Oper.looksAt
                  rw [hg]
                  simp [hd]
                have hv := a_inv_get hc hl' hinv hio him hnd hpre hclosed hmem hb
                have hv : a.tmps.getD dj undef = .bool b := hv.1
                have hdlt : dj < a.tmps.size := by
                  rcases Nat.lt_or_ge dj a.tmps.size with h' | h'
                  · exact h'
                  · rw [Array.getD_eq_getD_getElem?, Array.getElem?_eq_none h'] at hv
                    cases hv
                rw [Array.getD_eq_getD_getElem?, Array.getElem?_eq_getElem hdlt] at hv
                unfold yielded
                simp only [Option.getD_some] at hv
                simp [hd, hdlt, hv]
            by_cases hbw : b = want
            · rw [if_pos (by simp [Region.wanted, hg, hval, hbw])]
              exact .inl (run (h1 hbw))
            · rw [if_neg (by simp [Region.wanted, hg, hval, hbw])]
              have hsv := h2 hbw
              subst hsv
              exact ih _ ob _ _ (a_inv_next hc hinv hio him hna hsi (hdn' i o hio) hinv.heap ⟨[], rfl, rfl⟩ (fun _ _ h => h)) hclosed' hpd' hcount'
  -- what comes up first
  have first : ∀ (is : List Nat) (done : Array Bool) (ob : Option Nat) (a : Act) (w : World) (envp : Env), preRun ops envp is = true → (∀ t s, envp.lookup t = some s → SOk w (c.av (aCh e row ob ++ H)) s (a.tmps.getD t undef)) → (is = [] ∨ (Region.noSelect ops = true ∧ ∀ ch a a' w, Q (.panic ch) a w → Q (.panic ch) a' w)) → preChk ops m done is = true → (∀ j ∈ pre, j ∈ is ∨ done.getD j true = true) → AInv c ops H env ss m al e row done ob a w →
      (∀ j o, ops[j]? = some o → done.getD j true = true → ∀ e ∈ o.after, Region.binds .any e = true → done.getD e.on true = true) → wpAny P .any ops Q (done.toList.filter (· == false)).length done a w := by
    intro is
    induction is with
    | nil => intro done ob a w _ _ _ _ _ hpd hinv hclosed; exact main _ done ob a w hinv hclosed (fun j hj => (hpd j hj).elim (fun h => by cases h) (fun h => h)) rfl
    | cons i is ih =>
      intro done ob a w envp hpr hep hq hck hpd hinv hclosed
      obtain ⟨hns, hqp⟩ := hq.resolve_left (by simp)
      simp only [preChk, Bool.and_eq_true, decide_eq_true_eq] at hck
      obtain ⟨⟨⟨⟨him, hop⟩, hrd⟩, hfr⟩, hck⟩ := hck
      cases hio : ops[i]? with
      | none => rw [hio] at hop; cases hop
      | some o =>
        rw [hio] at hop
        simp only [Bool.and_eq_true, Option.isNone_iff_eq_none] at hop
        obtain ⟨hmv, hg⟩ := hop
        unfold preRun at hpr
        rw [hio] at hpr
        obtain ⟨d, sp, hdst, hpo, hpr⟩ : ∃ d sp, o.dst = some d ∧ preOp o envp = some sp ∧ preRun ops ((d, sp) :: envp) is = true := by
          cases hd : o.dst with
          | none => simp only [hd] at hpr; cases hpr
          | some d =>
            cases hp : preOp o envp with
            | none => simp only [hd, hp] at hpr; cases hpr
            | some sp => exact ⟨d, sp, rfl, rfl, by simpa only [hd, hp] using hpr⟩
        obtain ⟨val, hexa, hvs⟩ := preOp_ok (P := P) hpo hep
        have hilt : i < ops.size := (Array.getElem?_eq_some_iff.1 hio).1
        have hrd' : i ∈ Region.ready .any ops done := by simpa using hrd
        obtain ⟨hnd, o', hio', hpre0⟩ := mem_ready'.1 hrd'
        rw [hio] at hio'
        simp only [Option.some.injEq] at hio'
        subst hio'
        have hpre : ∀ e ∈ o.after, Region.binds .any e = true → done.getD e.on true = true := fun e he hb => tail_done (hpre0 e he hb)
        have hna : isAlloc o = false := by
          unfold isAlloc
          cases hoo : o.op <;> rw [hoo] at hmv <;> first | rfl | (simp at hmv)
        have hexec : (execOp a.eval o).run P w = .ok (.value val) w := hexa w
        have hyield : Yields P ops o val a := .inl ⟨by simp [Region.wanted, hg], hexa⟩
        obtain ⟨s, hsi⟩ : ∃ s, ss[i]? = some s := ⟨ss[i]'(by omega), by simp [hl', him]⟩
        have hop := hok i o s (by rw [List.getElem?_take]; simp [him]; simpa using hio) hsi
        have hslots : ∀ t s, ((lexEnv ((ops.toList.take m).take i) (ss.take i) env).only (o.looksAt ops)).lookup t = some s → SOk w (c.av (aCh e row ob ++ H)) s (a.tmps.getD t undef) := by
          intro t s' hlk
          obtain ⟨g1, g2⟩ := only_lookup hlk
          exact a_inv_get hc hl' hinv hio him hnd hpre hclosed g1 g2
        have hinv' : AInv c ops H env ss m al e row (done.setIfInBounds i true) ob (a.put o.dst val) w := by
          rcases hop with hop | hop
          · rw [hna] at hop; cases hop
          rw [hg] at hop
          have := frame_step (Q := Q) (next := fun a' w' => AInv c ops H env ss m al e row (done.setIfInBounds i true) ob a' w') hop hinv.size hinv.defers hinv.heap hslots (fun v w' hw' hv hk => a_inv_next hc hinv hio him hna hsi (hdn' i o hio) hw' hv hk)
          unfold Oper.wp at this
          rw [hexec] at this
          exact this
        have hclosed' : ∀ j oj, ops[j]? = some oj → (done.setIfInBounds i true).getD j true = true → ∀ e ∈ oj.after, Region.binds .any e = true → (done.setIfInBounds i true).getD e.on true = true := by
          intro j oj hj hdj e he hb
          by_cases hei : e.on = i
          · rw [hei]; exact getD_set_self
          · rw [getD_set_other hei]
            by_cases hji : j = i
            · subst hji
              rw [hio] at hj
              simp only [Option.some.injEq] at hj
              subst hj
              exact hpre e he hb
            · rw [getD_set_other hji] at hdj
              exact hclosed j oj hj hdj e he hb
        have hdlt : d < nt := hdn' i o hio d hdst
        have hep' : ∀ t s, List.lookup t ((d, sp) :: envp) = some s → SOk w (c.av (aCh e row ob ++ H)) s ((a.put o.dst val).tmps.getD t undef) := by
          intro t s hlk
          rw [hdst]
          rcases lookup_cons hlk with ⟨rfl, rfl⟩ | ⟨hne, hlk⟩
          · simp only [Act.put]
            rw [Array.getD_eq_getD_getElem?, Array.getElem?_setIfInBounds]
            simp [hinv.size, hdlt]
            exact hvs
          · simp only [Act.put]
            rw [Array.getD_eq_getD_getElem?, Array.getElem?_setIfInBounds, if_neg (by omega), ← Array.getD_eq_getD_getElem?]
            exact hep t s hlk
        have hcnt : (done.toList.filter (· == false)).length = ((done.setIfInBounds i true).toList.filter (· == false)).length + 1 := by
          have hid : i < done.toList.length := by simp [hinv.dsize, hilt]
          have hdi : done.toList[i] = false := by
            rw [Array.getD_eq_getD_getElem?, Array.getElem?_eq_getElem (by rw [hinv.dsize]; exact hilt)] at hnd
            simpa using hnd
          have hsplit : done.toList = done.toList.take i ++ done.toList[i] :: done.toList.drop (i + 1) := by rw [List.getElem_cons_drop, List.take_append_drop]
          have e2 : (done.toList.filter (· == false)).length = ((done.toList.take i ++ done.toList[i] :: done.toList.drop (i + 1)).filter (· == false)).length := by rw [← hsplit]
          rw [Array.toList_setIfInBounds, List.set_eq_take_append_cons_drop, if_pos hid]
          rw [e2, hdi]
          simp only [List.filter_append, List.length_append, List.filter_cons]
          simp
          omega
        rw [hcnt]
        refine wpAny_take hio hns hfr hrd (fun ch a' w' hh => hqp ch _ _ w' hh) hyield ?_
        refine ih _ ob _ _ ((d, sp) :: envp) hpr hep' (.inr ⟨hns, hqp⟩) hck (fun j hj => ?_) hinv' hclosed'
        rcases hpd j hj with h1 | h1
        · rcases List.mem_cons.1 h1 with rfl | h1
          · exact .inr getD_set_self
          · exact .inl h1
        · by_cases hji : j = i
          · exact .inr (by rw [hji]; exact getD_set_self)
          · exact .inr (by rw [getD_set_other hji]; exact h1)
  obtain ⟨d1, d2⟩ := stw_drew hs.heap
  have hfalse : ∀ j, j < ops.size → (Array.replicate ops.size false).getD j true = false := by
    intro j hj
    simp [hj]
  have hsize : ((Array.replicate ops.size false).toList.filter (· == false)).length = ops.size := by simp
  have := first pre (Array.replicate ops.size false) none a { w with drawn := w.drawn + 1 } env hpe (fun t s hlk => d2 _ _ (hs.slots t s hlk)) hpq hpc (fun j hj => .inl hj) ⟨hs.size, hs.defers, d1, by simp, fun k _ hk => hfalse k hk, ?_, fun _ => rfl, ?_, ?_⟩ ?_
  · rw [hsize] at this; exact this
  · intro i o d hal hi _
    refine ⟨fun hd => ?_, fun _ => rfl⟩
    rw [hfalse i (Array.getElem?_eq_some_iff.1 hi).1] at hd
    cases hd
  · intro t s _ hlk
    exact d2 _ _ (hs.slots t s hlk)
  · intro j o t s hj _ _ _ hd
    rw [hfalse j (Array.getElem?_eq_some_iff.1 hj).1] at hd
    cases hd
  · intro j o hj hd
    rw [hfalse j (Array.getElem?_eq_some_iff.1 hj).1] at hd
    cases hd

/-- A region whose order is drawn. -/
theorem any_core {id : Nat} {ops : Array Oper} {Q : Exit → Act → World → Prop} {env : Env} (m : Nat) (al : Option Nat) (pre : List Nat) (hpq : pre = [] ∨ (Region.noSelect ops = true ∧ ∀ ch a a' w, Q (.panic ch) a w → Q (.panic ch) a' w)) (hpc : preChk ops m (Array.replicate ops.size false) pre = true) (hpe : preRun ops env pre = true)
    (hm : P.follows .mixedOrders = true) (hc : anyChk ops m al pre = true) (hdn : ops.toList.all (fun o => o.dst.all (fun d => decide (d < nt))) = true)
    (h : AnyOk P nt ops H (fun env' => AFin c ops Q m H env' al) (ops.toList.take m) env) : JC c (.region id ops true) Q env H :=
  any_coreW (F := fun a w => wpList P ops Q (ops.toList.drop m) a w) m al pre hpq hpc hpe
    (fun done a w hsz hd h => wpAny_late hc (ops.size - m) m (by
      have hc := hc
      unfold anyChk at hc
      rw [Bool.and_eq_true, Bool.and_eq_true] at hc
      have : m ≤ ops.size := by simpa using hc.1.1
      omega) (Nat.le_refl _) done a w hsz hd h) hm (chkE hc) hdn h

theorem jc_anyB {id : Nat} {ops : Array Oper} {Q : Exit → Act → World → Prop} {env : Env} (m : Nat) (al : Option Nat) (hm : P.follows .mixedOrders = true) (hc : anyChk ops m al = true) (hdn : ops.toList.all (fun o => o.dst.all (fun d => decide (d < nt))) = true)
    (h : AnyOk P nt ops H (fun env' => AFin c ops Q m H env' al) (ops.toList.take m) env) : JC c (.region id ops true) Q env H :=
  any_core m al [] (.inl rfl) rfl rfl hm hc hdn h

/-- No panics. -/
def np (Q : Exit → Act → World → Prop) (e : Exit) (a : Act) (w : World) : Prop := match e with
  | .panic _ => False
  | e => Q e a w
theorem jq_np {Q : Exit → Act → World → Prop} {env : Env} (h : JQ c Q .normal env H) : JQ c (np Q) .normal env H := fun a w hs => h a w hs
/-- .. some of whose moves may come up late. -/
theorem jc_anyF {id : Nat} {ops : Array Oper} {Q : Exit → Act → World → Prop} {env : Env} (m : Nat) (al : Option Nat) (pre : List Nat) (hm : P.follows .mixedOrders = true) (hpc : (Region.noSelect ops && preChk ops m (Array.replicate ops.size false) pre) = true) (hc : anyChk ops m al pre = true) (hdn : ops.toList.all (fun o => o.dst.all (fun d => decide (d < nt))) = true) (hpe : preRun ops env pre = true)
    (h : AnyOk P nt ops H (fun env' => AFin c ops (np Q) m H env' al) (ops.toList.take m) env) : JC c (.region id ops true) Q env H := by
  rw [Bool.and_eq_true] at hpc
  have := any_core (id := id) m al pre (.inr ⟨hpc.1, fun ch a a' w hh => hh.elim⟩) hpc.2 hpe hm hc hdn h
  intro a w hs
  refine Code.wp_mono ?_ (this a w hs)
  intro e a w hq
  cases e with
  | panic ch => exact hq.elim
  | _ => exact hq

/-- .. none of whose operations turns what is owned. -/
theorem jc_any {id : Nat} {l : List Oper} {Q : Exit → Act → World → Prop} {env : Env} (hpl : l.all (fun o => match o.op with | .store .. | .alloc _ | .box .. | .mapUpdate .. => false | .call { callee := .builtin .append, .. } => false | _ => true) = true) (hm : P.follows .mixedOrders = true) (hc : anyChk l.toArray l.length none = true)
    (hdn : l.all (fun o => o.dst.all (fun d => decide (d < nt))) = true)
    (h : AnyOk P nt l.toArray H (fun env' => JQ c Q .normal env' H) l env) : JC c (.region id l.toArray true) Q env H := by
  have _ := hpl
  refine jc_anyB l.length none hm hc hdn ?_
  have e : (fun env' => AFin c l.toArray Q l.length H env' none) = (fun env' => JQ c Q .normal env' H) := by
    funext env'
    show JL c l.toArray Q (l.drop l.length) env' H = _
    rw [List.drop_length]
    rfl
  rw [e]
  show AnyOk P nt l.toArray H _ (l.take l.length) env
  rw [List.take_length]
  exact h
end
end Go.Vc
end

section
namespace Go.Vc
open Go.RowKit

def CLe (c c' : C) : Prop := ∀ w A v, Rd1 w A c v → Rd1 w A c' v
def RowLe (r r' : List C) : Prop := ∀ w A vs, RdRow w A r vs → RdRow w A r' vs
theorem CLe.refl (c : C) : CLe c c := fun _ _ _ h => h
theorem CLe.ex {ι : Type} (f : ι → C) (i : ι) : CLe (f i) (.ex f) := fun _ _ _ h => ⟨i, h⟩
theorem CLe.any (c : C) : CLe c .any := fun _ _ _ h => rd1_one c _ h
theorem CLe.nil : CLe (.val (.slice none 0 0)) (.list []) := fun _ _ _ h => ⟨none, 0, h.1, Nat.le_refl _, Nat.zero_le _, .inl rfl⟩
theorem CLe.eq {c c' : C} (h : c = c') : CLe c c' := fun _ _ _ hh => h ▸ hh
theorem RowLe.refl (r : List C) : RowLe r r := fun _ _ _ h => h
theorem RowLe.nil : RowLe [] [] := RowLe.refl _
theorem RowLe.cons {c c' : C} {r r' : List C} (h : CLe c c') (hr : RowLe r r') : RowLe (c :: r) (c' :: r') :=
  fun w A _ ⟨v, q, e, h1, h2⟩ => ⟨v, q, e, h w A v h1, hr w A q h2⟩

section own
variable {P : Program} [Gl P] {nt : Nat} {c : Cx P nt} {env : Env} {H : List Ch} {K : S → List Ch → Prop}
variable {d : Option Tmp} {ty t t' : TypeId} {pos : String} {af : Array Edge} {g : Option (Nat × Bool)} {x y : Operand}
/-- An element of a slice of one's own. -/
theorem ow_indexOwn [SL P t] {v : Value} {e : TypeId} {k : Nat} {rows : List (List C)} {Hr : List Ch} {m : Int} (j : Nat) (hx : env.ev x = some (.cell (.val v))) (hp : pick [j] H = some ([.own v e k rows], Hr)) (hy : env.ev y = some (In .i64 m)) (h0 : 0 ≤ m) (hlt : m.toNat < rows.length)
    (hz : (TI.i P (SL.e P t)).size = k) (hK : K (.cell (.inn v (m.toNat * k))) H) : OpWp c ⟨d, .indexAddr t x y, ty, pos, af, g⟩ env H K :=
  ow_val (fun a w h => by
    obtain ⟨vs, ho, _, _⟩ := h.heap.ok (.own v e k rows) ((pick_perm hp).mem_iff.2 (by simp))
    rcases ho.2 with ⟨rfl, h0⟩ | ⟨b, cap, cur, rfl, _, _⟩
    · omega
    · refine ⟨.pointer (some ⟨b, m.toNat * k, none⟩), ?_, b, rows.length, cap, rfl, rfl⟩
      have : 0 ≤ m ∧ m < ↑rows.length := ⟨h0, by omega⟩
      simp [execOp, ev_val h hx, ev_val h hy, Instr.indexAt, asIntOf, run_elem t, this, run_sizeOf, add_at, hz]) hK
theorem rdRows_cell {w : World} {A : Nat → Prop} {k : Nat} {rows : List (List C)} {vs : List Value} {i o : Nat} {row : List C} {e : C} (h : RdRows w A k rows vs) (hi : rows[i]? = some row) (he : row[o]? = some e) : ∃ v, vs[i * k + o]? = some v ∧ Rd1 w A e v := by
  induction rows generalizing vs i with
  | nil => simp at hi
  | cons r0 rows ih =>
    obtain ⟨c0, r, rfl, h1, h2, h3⟩ := h
    cases i with
    | zero =>
      simp only [List.getElem?_cons_zero, Option.some.injEq] at hi
      subst hi
      obtain ⟨v, hv, hr⟩ := rdRow_get h2 he
      refine ⟨v, ?_, hr⟩
      rw [Nat.zero_mul, Nat.zero_add, List.getElem?_append_left (List.getElem?_eq_some_iff.1 hv).1]
      exact hv
    | succ i =>
      obtain ⟨v, hv, hr⟩ := ih h3 (by simpa using hi)
      refine ⟨v, ?_, hr⟩
      rw [List.getElem?_append_right (by rw [Nat.add_mul]; omega)]
      rw [show (i + 1) * k + o - c0.length = i * k + o by rw [Nat.add_mul]; omega]
      exact hv
theorem ow_loadInn [TI P t] {v : Value} {e : TypeId} {k off : Nat} {rows : List (List C)} {Hr : List Ch} {row : List C} {e1 : C} (j i o : Nat) (ha : aggB (TI.u P t) = false) (hx : env.ev x = some (.cell (.inn v off))) (hp : pick [j] H = some ([.own v e k rows], Hr)) (hoff : off = i * k + o)
    (hi : rows[i]? = some row) (he : row[o]? = some e1) (hK : K (.cell e1) H) : OpWp c ⟨d, .load t x, ty, pos, af, g⟩ env H K :=
  ow_val (fun a w h => by
    obtain ⟨b, n, cap, hv, hxe⟩ := ev_ok h hx
    subst hv
    obtain ⟨vs, ho, hr, hk⟩ := h.heap.ok (.own (.slice (some ⟨b, 0, none⟩) n cap) e k rows) ((pick_perm hp).mem_iff.2 (by simp))
    obtain ⟨u, hu, hrd⟩ := rdRows_cell hr hi he
    refine ⟨u, ?_, hrd⟩
    have hcell := ho.cells (g := b) rfl (i * k + o) u hu
    rw [add_at, ← hoff, Nat.zero_add] at hcell
    simp only [execOp, hxe, Instr.loadAt, Instr.sureAddr, Sem.run_bind, Sem.run_pure, Result.andThen_ok, run_loadVar1 t ha hcell]) hK
/-- .. where elements are of one cell. -/
theorem ow_loadInn1 [TI P t] {v : Value} {e : TypeId} {off : Nat} {α : Type} {f : α → List C} {l : List α} {Hr : List Ch} {e1 : C} (j : Nat) (ha : aggB (TI.u P t) = false) (hx : env.ev x = some (.cell (.inn v off))) (hp : pick [j] H = some ([.own v e 1 (l.map f)], Hr))
    (hlt : off < l.length) (he : f l[off] = [e1]) (hK : K (.cell e1) H) : OpWp c ⟨d, .load t x, ty, pos, af, g⟩ env H K :=
  ow_loadInn (row := [e1]) j off 0 ha hx hp (by omega) (by simp [hlt, he]) rfl hK
end own

section
variable {P : Program} [Gl P] {nt : Nat} {c : Cx P nt} {env : Env} {H : List Ch}

/-- Another account of a block of one's own: true whenever the first is. -/
theorem st_row {a : Act} {w : World} {j : Nat} {b : Nat} {t : TypeId} {row row' : List C} {Hr : List Ch} (h : St c env H a w) (hp : pick [j] H = some ([.blk b t row], Hr))
    (hnew : Ch.ok w (c.av H) (.blk b t row')) : St c env (.blk b t row' :: Hr) a w := by
  have h1 := h.perm (pick_perm hp)
  have hav : c.av (.blk b t row :: Hr) = c.av H := av_perm c (pick_perm hp)
  have hav' : c.av (.blk b t row' :: Hr) = c.av H := by rw [← hav]; rfl
  refine ⟨h.size, h.defers, fun i s hi => by rw [hav']; exact h.slots i s hi, h.heap.os, h.heap.tape, h.heap.output, h.heap.size, h.heap.block, ?_, h1.heap.nodup, h1.heap.mine, by rw [hav']; exact h.heap.gl⟩
  intro ch hch
  rw [hav']
  rcases List.mem_cons.1 hch with rfl | hch
  · exact hnew
  · rw [← hav]
    exact h1.heap.ok ch (List.mem_cons_of_mem _ hch)

theorem jq_row {Q : Exit → Act → World → Prop} {ex : Exit} {b : Nat} {t : TypeId} {row : List C} {Hr : List Ch} (j : Nat) (row' : List C) (hp : pick [j] H = some ([.blk b t row], Hr)) (hle : RowLe row row')
    (h : JQ c Q ex env (.blk b t row' :: Hr)) : JQ c Q ex env H := fun a w hs => h a w (st_row hs hp (let ⟨cs, g1, g2⟩ := blk_ok hs hp; ⟨cs, g1, hle w _ cs g2⟩))

/-- What is some of a family is one of it. -/
def RowEx {ι : Type} (row : List C) (r : ι → List C) : Prop := ∀ w A vs, RdRow w A row vs → ∃ i, RdRow w A (r i) vs
theorem RowEx.here {ι : Type} {f : ι → C} {q : List C} : RowEx (.ex f :: q) (fun i => f i :: q) := fun _ _ _ ⟨v, r, e, ⟨i, h⟩, hr⟩ => ⟨i, v, r, e, h, hr⟩
theorem RowEx.there {ι : Type} {c0 : C} {q : List C} {r : ι → List C} (h : RowEx q r) : RowEx (c0 :: q) (fun i => c0 :: r i) := fun w A _ ⟨v, s, e, h1, hr⟩ => let ⟨i, hi⟩ := h w A s hr; ⟨i, v, s, e, h1, hi⟩

/-- A weaker account of a slot. -/
def SLe (s s' : S) : Prop := ∀ w A v, SOk w A s v → SOk w A s' v
theorem SLe.ex {ι : Type} (f : ι → S) (i : ι) : SLe (f i) (.ex f) := fun _ _ _ h => ⟨i, h⟩
theorem SLe.row {r r' : List C} (h : RowLe r r') : SLe (.row r) (.row r') := fun w A _ ⟨cs, e, hr⟩ => ⟨cs, e, h w A _ hr⟩
end
end Go.Vc
end

section
namespace Go.Vc
open Go.RowKit

section
variable {P : Program} [Gl P] {nt : Nat} {c : Cx P nt} {env : Env} {H : List Ch} {K : S → List Ch → Prop}
variable {d : Option Tmp} {ty t t' : TypeId} {pos : String} {af : Array Edge} {g : Option (Nat × Bool)} {x y : Operand}

def trimV (v : Value) (m : Nat) : Value := match v with
  | .slice p _ cap => .slice p m cap
  | v => v
theorem rdRows_take {w : World} {A : Nat → Prop} {k : Nat} : ∀ {rows : List (List C)} {vs : List Value} (m : Nat), RdRows w A k rows vs → m ≤ rows.length → RdRows w A k (rows.take m) (vs.take (m * k))
  | rows, vs, 0, _, _ => by simp [RdRows]
  | [], _, m + 1, _, hm => absurd hm (by simp)
  | r0 :: rows, _, m + 1, h, hm => by
    obtain ⟨c0, r, rfl, h1, h2, h3⟩ := h
    refine ⟨c0, r.take (m * k), ?_, h1, h2, rdRows_take m h3 (by simpa using hm)⟩
    rw [List.take_append, List.take_of_length_le (by rw [h1, Nat.add_mul]; omega), h1, Nat.add_mul, Nat.one_mul, Nat.add_sub_cancel]
theorem st_trim {a : Act} {w : World} {j : Nat} {v : Value} {e : TypeId} {k : Nat} {rows : List (List C)} {Hr : List Ch} (m : Nat) (h : St c env H a w) (hp : pick [j] H = some ([.own v e k rows], Hr)) (hm : m ≤ rows.length) :
    St c env (.own (trimV v m) e k (rows.take m) :: Hr) a w := by
  have h1 := h.perm (pick_perm hp)
  have hob : (trimV v m).ownBlock = v.ownBlock := by
    cases v
    case slice p _ _ => cases p <;> rfl
    all_goals rfl
  have hbe : hb (.own (trimV v m) e k (rows.take m) :: Hr) = hb (.own v e k rows :: Hr) := by simp [hb_cons, Ch.bs, hob]
  have hav' : c.av (.own (trimV v m) e k (rows.take m) :: Hr) = c.av (.own v e k rows :: Hr) := by funext b; simp only [Cx.av, hbe]
  have hav : c.av (.own v e k rows :: Hr) = c.av H := av_perm c (pick_perm hp)
  obtain ⟨vs, ho, hr, hk⟩ := h1.heap.ok (.own v e k rows) (by simp)
  refine ⟨h.size, h.defers, fun i s hi => by rw [hav', hav]; exact h.slots i s hi, h.heap.os, h.heap.tape, h.heap.output, h.heap.size, h.heap.block, ?_, by rw [hbe]; exact h1.heap.nodup, by rw [hbe]; exact h1.heap.mine, by rw [hav', hav]; exact h.heap.gl⟩
  intro ch hch
  rw [hav']
  rcases List.mem_cons.1 hch with rfl | hch
  · refine ⟨vs.take (m * k), ⟨?_, ?_⟩, rdRows_take m hr hm, hk⟩
    · have h5 := ho.1
      have h6 : m * k ≤ rows.length * k := Nat.mul_le_mul_right _ hm
      simp only [List.length_take]
      rw [Nat.min_eq_left hm, h5, Nat.min_eq_left h6]
    · have hl : (rows.take m).length = m := by simp; omega
      rw [hl]
      rcases ho.2 with ⟨rfl, h0⟩ | ⟨b, cap, cur, rfl, g1, g2, g3, g4, g5, g6⟩
      · left
        have : m = 0 := by omega
        subst this
        exact ⟨rfl, rfl⟩
      · refine .inr ⟨b, cap, cur, rfl, g1, g2, by omega, g4, g5, ?_⟩
        rw [← g6, List.take_take, Nat.min_eq_left (Nat.mul_le_mul_right _ hm)]
  · exact h1.heap.ok ch (List.mem_cons_of_mem _ hch)
end
end Go.Vc
end

section
namespace Go.Proofs.Ytpolnonbgaolkaa
open Go.Vc
instance gl : Gl Try.prog := Gl.triv _
noncomputable instance ti3 : TI Try.prog 3 := ⟨_, Try.underlying3, Try.t3, by kernel_rfl⟩
noncomputable instance ti4 : TI Try.prog 4 := ⟨_, Try.underlying4, Try.t4, by kernel_rfl⟩
noncomputable instance ti5 : TI Try.prog 5 := ⟨_, Try.underlying5, Try.t5, by kernel_rfl⟩
noncomputable instance ti9 : TI Try.prog 9 := ⟨_, Try.underlying9, Try.t9, by kernel_rfl⟩
noncomputable instance ti22 : TI Try.prog 22 := ⟨_, Try.underlying22, Try.t22, by kernel_rfl⟩
noncomputable instance ti23 : TI Try.prog 23 := ⟨_, Try.underlying23, Try.t23, by kernel_rfl⟩
noncomputable instance ti24 : TI Try.prog 24 := ⟨_, Try.underlying24, Try.t24, by kernel_rfl⟩
noncomputable instance ti25 : TI Try.prog 25 := ⟨_, Try.underlying25, Try.t25, by kernel_rfl⟩
noncomputable instance ti26 : TI Try.prog 26 := ⟨_, Try.underlying26, Try.t26, by kernel_rfl⟩
noncomputable instance ti28 : TI Try.prog 28 := ⟨_, Try.underlying28, Try.t28, by kernel_rfl⟩
noncomputable instance ti32 : TI Try.prog 32 := ⟨_, Try.underlying32, Try.t32, by kernel_rfl⟩
noncomputable instance ti33 : TI Try.prog 33 := ⟨_, Try.underlying33, Try.t33, by kernel_rfl⟩
noncomputable instance ti35 : TI Try.prog 35 := ⟨_, Try.underlying35, Try.t35, by kernel_rfl⟩
noncomputable instance ti42 : TI Try.prog 42 := ⟨_, Try.underlying42, Try.t42, by kernel_rfl⟩
noncomputable instance ti49 : TI Try.prog 49 := ⟨_, Try.underlying49, Try.t49, by kernel_rfl⟩
noncomputable instance ti59 : TI Try.prog 59 := ⟨_, Try.underlying59, Try.t59, by kernel_rfl⟩
noncomputable instance ti64 : TI Try.prog 64 := ⟨_, Try.underlying64, Try.t64, by kernel_rfl⟩
noncomputable instance ti66 : TI Try.prog 66 := ⟨_, Try.underlying66, Try.t66, by kernel_rfl⟩
noncomputable instance ti68 : TI Try.prog 68 := ⟨_, Try.underlying68, Try.t68, by kernel_rfl⟩
noncomputable instance ti69 : TI Try.prog 69 := ⟨_, Try.underlying69, Try.t69, by kernel_rfl⟩
noncomputable instance ti71 : TI Try.prog 71 := ⟨_, Try.underlying71, Try.t71, by kernel_rfl⟩
noncomputable instance ti85 : TI Try.prog 85 := ⟨_, Try.underlying85, Try.t85, by kernel_rfl⟩
noncomputable instance ti109 : TI Try.prog 109 := ⟨_, Try.underlying109, Try.t109, by kernel_rfl⟩
noncomputable instance sl22 : SL Try.prog 22 := ⟨64, inferInstance, Try.underlying22⟩
noncomputable instance sl23 : SL Try.prog 23 := ⟨66, inferInstance, Try.underlying23⟩
noncomputable instance sl24 : SL Try.prog 24 := ⟨35, inferInstance, Try.underlying24⟩
noncomputable instance sl25 : SL Try.prog 25 := ⟨33, inferInstance, Try.underlying25⟩
noncomputable instance sl26 : SL Try.prog 26 := ⟨42, inferInstance, Try.underlying26⟩
noncomputable instance sl32 : SL Try.prog 32 := ⟨59, inferInstance, Try.underlying32⟩
noncomputable instance sl33 : SL Try.prog 33 := ⟨3, inferInstance, Try.underlying33⟩
noncomputable instance sl44 : SL Try.prog 44 := ⟨49, inferInstance, Try.underlying44⟩
noncomputable instance sl68 : SL Try.prog 68 := ⟨4, inferInstance, Try.underlying68⟩
noncomputable instance sl69 : SL Try.prog 69 := ⟨68, inferInstance, Try.underlying69⟩
noncomputable instance mk115 : MK Try.prog 115 := ⟨3, 4, _, Try.underlying115, Try.underlying3⟩
noncomputable instance mke115 : TI Try.prog (MK.e Try.prog 115) := inferInstanceAs (TI Try.prog 4)
instance fi4 : FI Try.prog 4 := ⟨fun args w => by kernel_rfl⟩
instance fi5 : FI Try.prog 5 := ⟨fun args w => by kernel_rfl⟩
instance fi6 : FI Try.prog 6 := ⟨fun args w => by kernel_rfl⟩
instance fi7 : FI Try.prog 7 := ⟨fun args w => by kernel_rfl⟩
instance fi8 : FI Try.prog 8 := ⟨fun args w => by kernel_rfl⟩
instance fi9 : FI Try.prog 9 := ⟨fun args w => by kernel_rfl⟩
instance fi10 : FI Try.prog 10 := ⟨fun args w => by kernel_rfl⟩
instance fi11 : FI Try.prog 11 := ⟨fun args w => by kernel_rfl⟩
instance fi12 : FI Try.prog 12 := ⟨fun args w => by kernel_rfl⟩
instance fi13 : FI Try.prog 13 := ⟨fun args w => by kernel_rfl⟩
instance fi14 : FI Try.prog 14 := ⟨fun args w => by kernel_rfl⟩
instance fi15 : FI Try.prog 15 := ⟨fun args w => by kernel_rfl⟩
instance fi16 : FI Try.prog 16 := ⟨fun args w => by kernel_rfl⟩
instance fi17 : FI Try.prog 17 := ⟨fun args w => by kernel_rfl⟩
instance fi18 : FI Try.prog 18 := ⟨fun args w => by kernel_rfl⟩
instance fi19 : FI Try.prog 19 := ⟨fun args w => by kernel_rfl⟩
instance fi20 : FI Try.prog 20 := ⟨fun args w => by kernel_rfl⟩
instance fi21 : FI Try.prog 21 := ⟨fun args w => by kernel_rfl⟩
instance fi22 : FI Try.prog 22 := ⟨fun args w => by kernel_rfl⟩
instance fi23 : FI Try.prog 23 := ⟨fun args w => by kernel_rfl⟩
instance fi24 : FI Try.prog 24 := ⟨fun args w => by kernel_rfl⟩
instance fi25 : FI Try.prog 25 := ⟨fun args w => by kernel_rfl⟩
instance fi26 : FI Try.prog 26 := ⟨fun args w => by kernel_rfl⟩
instance fi27 : FI Try.prog 27 := ⟨fun args w => by kernel_rfl⟩
instance fi28 : FI Try.prog 28 := ⟨fun args w => by kernel_rfl⟩
instance fi29 : FI Try.prog 29 := ⟨fun args w => by kernel_rfl⟩
instance fi30 : FI Try.prog 30 := ⟨fun args w => by kernel_rfl⟩
instance fi31 : FI Try.prog 31 := ⟨fun args w => by kernel_rfl⟩
instance fi32 : FI Try.prog 32 := ⟨fun args w => by kernel_rfl⟩
instance fi33 : FI Try.prog 33 := ⟨fun args w => by kernel_rfl⟩
instance fi34 : FI Try.prog 34 := ⟨fun args w => by kernel_rfl⟩
instance fi35 : FI Try.prog 35 := ⟨fun args w => by kernel_rfl⟩
instance fi36 : FI Try.prog 36 := ⟨fun args w => by kernel_rfl⟩
instance fi37 : FI Try.prog 37 := ⟨fun args w => by kernel_rfl⟩
instance fi38 : FI Try.prog 38 := ⟨fun args w => by kernel_rfl⟩
instance fi39 : FI Try.prog 39 := ⟨fun args w => by kernel_rfl⟩
instance fi40 : FI Try.prog 40 := ⟨fun args w => by kernel_rfl⟩
instance fi41 : FI Try.prog 41 := ⟨fun args w => by kernel_rfl⟩
instance fi42 : FI Try.prog 42 := ⟨fun args w => by kernel_rfl⟩
instance fi43 : FI Try.prog 43 := ⟨fun args w => by kernel_rfl⟩
instance fi44 : FI Try.prog 44 := ⟨fun args w => by kernel_rfl⟩
instance fi45 : FI Try.prog 45 := ⟨fun args w => by kernel_rfl⟩
instance fi46 : FI Try.prog 46 := ⟨fun args w => by kernel_rfl⟩
instance fi47 : FI Try.prog 47 := ⟨fun args w => by kernel_rfl⟩
instance fi48 : FI Try.prog 48 := ⟨fun args w => by kernel_rfl⟩
instance fi49 : FI Try.prog 49 := ⟨fun args w => by kernel_rfl⟩
instance fi50 : FI Try.prog 50 := ⟨fun args w => by kernel_rfl⟩
instance fi51 : FI Try.prog 51 := ⟨fun args w => by kernel_rfl⟩
instance fi52 : FI Try.prog 52 := ⟨fun args w => by kernel_rfl⟩
instance fi53 : FI Try.prog 53 := ⟨fun args w => by kernel_rfl⟩
instance fi54 : FI Try.prog 54 := ⟨fun args w => by kernel_rfl⟩
instance fi55 : FI Try.prog 55 := ⟨fun args w => by kernel_rfl⟩
instance fi56 : FI Try.prog 56 := ⟨fun args w => by kernel_rfl⟩
instance fi57 : FI Try.prog 57 := ⟨fun args w => by kernel_rfl⟩
instance fi58 : FI Try.prog 58 := ⟨fun args w => by kernel_rfl⟩
instance fi59 : FI Try.prog 59 := ⟨fun args w => by kernel_rfl⟩
instance fi60 : FI Try.prog 60 := ⟨fun args w => by kernel_rfl⟩
instance fi61 : FI Try.prog 61 := ⟨fun args w => by kernel_rfl⟩
instance fi62 : FI Try.prog 62 := ⟨fun args w => by kernel_rfl⟩
instance fi63 : FI Try.prog 63 := ⟨fun args w => by kernel_rfl⟩
instance fi66 : FI Try.prog 66 := ⟨fun args w => by kernel_rfl⟩
instance fi68 : FI Try.prog 68 := ⟨fun args w => by kernel_rfl⟩
instance fi72 : FI Try.prog 72 := ⟨fun args w => by kernel_rfl⟩
instance fi73 : FI Try.prog 73 := ⟨fun args w => by kernel_rfl⟩
instance fi74 : FI Try.prog 74 := ⟨fun args w => by kernel_rfl⟩
instance fi75 : FI Try.prog 75 := ⟨fun args w => by kernel_rfl⟩
instance fi76 : FI Try.prog 76 := ⟨fun args w => by kernel_rfl⟩
instance fi77 : FI Try.prog 77 := ⟨fun args w => by kernel_rfl⟩
instance fi78 : FI Try.prog 78 := ⟨fun args w => by kernel_rfl⟩
instance fi79 : FI Try.prog 79 := ⟨fun args w => by kernel_rfl⟩
instance fi80 : FI Try.prog 80 := ⟨fun args w => by kernel_rfl⟩
instance fi81 : FI Try.prog 81 := ⟨fun args w => by kernel_rfl⟩
instance fi82 : FI Try.prog 82 := ⟨fun args w => by kernel_rfl⟩
instance fi83 : FI Try.prog 83 := ⟨fun args w => by kernel_rfl⟩
instance fi84 : FI Try.prog 84 := ⟨fun args w => by kernel_rfl⟩
instance fi85 : FI Try.prog 85 := ⟨fun args w => by kernel_rfl⟩
instance fi89 : FI Try.prog 89 := ⟨fun args w => by kernel_rfl⟩
instance fi90 : FI Try.prog 90 := ⟨fun args w => by kernel_rfl⟩
instance fi91 : FI Try.prog 91 := ⟨fun args w => by kernel_rfl⟩
instance fi92 : FI Try.prog 92 := ⟨fun args w => by kernel_rfl⟩
instance fi93 : FI Try.prog 93 := ⟨fun args w => by kernel_rfl⟩
instance fi94 : FI Try.prog 94 := ⟨fun args w => by kernel_rfl⟩
instance fi95 : FI Try.prog 95 := ⟨fun args w => by kernel_rfl⟩
instance fi96 : FI Try.prog 96 := ⟨fun args w => by kernel_rfl⟩
instance fi97 : FI Try.prog 97 := ⟨fun args w => by kernel_rfl⟩
instance fi98 : FI Try.prog 98 := ⟨fun args w => by kernel_rfl⟩
instance fi99 : FI Try.prog 99 := ⟨fun args w => by kernel_rfl⟩
instance fi100 : FI Try.prog 100 := ⟨fun args w => by kernel_rfl⟩
instance fi101 : FI Try.prog 101 := ⟨fun args w => by kernel_rfl⟩
noncomputable instance ts28 : TS Try.prog 28 := ⟨#[(0, 1), (1, 1), (2, 1), (3, 1), (4, 1), (5, 1), (6, 1), (7, 1)], fun w => by kernel_rfl⟩
noncomputable instance ts35 : TS Try.prog 35 := ⟨#[(0, 1), (1, 1), (2, 1)], fun w => by kernel_rfl⟩
noncomputable instance ts42 : TS Try.prog 42 := ⟨#[(0, 1), (1, 1)], fun w => by kernel_rfl⟩
noncomputable instance ts49 : TS Try.prog 49 := ⟨#[(0, 1), (1, 1), (2, 1), (3, 1), (4, 1)], fun w => by kernel_rfl⟩
noncomputable instance ts59 : TS Try.prog 59 := ⟨#[(0, 1), (1, 1), (2, 1), (3, 1), (4, 1)], fun w => by kernel_rfl⟩
noncomputable instance ts64 : TS Try.prog 64 := ⟨#[(0, 1), (1, 1), (2, 1)], fun w => by kernel_rfl⟩
noncomputable instance ts66 : TS Try.prog 66 := ⟨#[(0, 1), (1, 1)], fun w => by kernel_rfl⟩
noncomputable instance ts71 : TS Try.prog 71 := ⟨#[(0, 8), (8, 1), (9, 1), (10, 1)], fun w => by kernel_rfl⟩
end Go.Proofs.Ytpolnonbgaolkaa
end

section
namespace Go.Vc
open Go.RowKit
def RowsLe : List (List C) → List (List C) → Prop
  | [], rs => rs = []
  | r :: q, rs => ∃ r' q', rs = r' :: q' ∧ RowLe r r' ∧ RowsLe q q'
theorem RowsLe.nil : RowsLe [] [] := rfl
theorem RowsLe.cons {r r' : List C} {q q' : List (List C)} (h : RowLe r r') (hq : RowsLe q q') : RowsLe (r :: q) (r' :: q') := ⟨_, _, rfl, h, hq⟩
theorem RowsLe.len : ∀ {q q' : List (List C)}, RowsLe q q' → q'.length = q.length
  | [], _, h => by cases h; rfl
  | _ :: _, _, ⟨_, _, e, _, h⟩ => by subst e; simp [h.len]
theorem RowsLe.rd {w : World} {A : Nat → Prop} {k : Nat} : ∀ {q q' : List (List C)} {vs : List Value}, RowsLe q q' → RdRows w A k q vs → RdRows w A k q' vs
  | [], _, _, h, hr => by cases h; exact hr
  | _ :: _, _, _, ⟨_, _, e, h1, h2⟩, ⟨c, r, e2, g1, g2, g3⟩ => by subst e; exact ⟨c, r, e2, g1, h1 w A c g2, h2.rd g3⟩
theorem CLe.list {q q' : List (List C)} (h : RowsLe q q') : CLe (.list q) (.list q') := by
  intro w A v hv
  unfold Rd1 at hv ⊢
  rw [h.len]
  obtain ⟨ad, cap, g1, g2, g3, g4⟩ := hv
  refine ⟨ad, cap, g1, g2, g3, ?_⟩
  rcases g4 with g4 | ⟨b, off, vs, k, e1, e2, e3, e4, e5⟩
  · exact .inl g4
  · exact .inr ⟨b, off, vs, k, e1, e2, e3, e4, h.rd e5⟩
theorem SLe.cell {c c' : C} (h : CLe c c') : SLe (.cell c) (.cell c') := fun w A v hv => h w A v hv

section
variable {P : Program} [Gl P] {nt : Nat} {c : Cx P nt} {env : Env} {H : List Ch} {K : S → List Ch → Prop}
variable {d : Option Tmp} {ty t t' : TypeId} {pos : String} {af : Array Edge} {g : Option (Nat × Bool)} {x y : Operand}
end
end Go.Vc
end

section
namespace Go.Vc
open Go.RowKit

section
variable {P : Program} [Gl P] {nt : Nat} {c : Cx P nt} {env : Env} {H : List Ch} {K : S → List Ch → Prop}
variable {d : Option Tmp} {ty t t' : TypeId} {pos : String} {af : Array Edge} {g : Option (Nat × Bool)} {x y : Operand}

theorem ow_prefix [SL P t] {rows : List (List C)} {m : Int} (hx : env.ev x = some (.cell (.list rows))) (hy : env.ev y = some (In .i64 m)) (h0 : 0 ≤ m) (hle : m.toNat ≤ rows.length)
    (hK : K (.cell (.list (rows.take m.toNat))) H) : OpWp c ⟨d, .slice t x none (some y) none, ty, pos, af, g⟩ env H K :=
  ow_val (fun a w h => by
    obtain ⟨ad, cap, he, h1, h2, hb⟩ := ev_ok h hx
    refine ⟨.slice ad m.toNat cap, ?_, ?_⟩
    · have hb : 0 ≤ m ∧ m ≤ (cap : Int) := ⟨h0, by omega⟩
      simp [execOp, he, ev_val h hy, Instr.sliceAt, Instr.slice, Instr.sliceBounds, Instr.sliceBound, asIntOf, run_elem t, run_sizeOf, hb]
      intro _
      cases ad <;> simp [Addr.add]
    · have hlen : (rows.take m.toNat).length = m.toNat := by simp; omega
      refine ⟨ad, cap, by rw [hlen], by omega, h2, ?_⟩
      rcases hb with hb | ⟨b, off, vs, k, rfl, hA, hc, hk, hr⟩
      · exact .inl (by omega)
      · exact .inr ⟨b, off, vs.take (m.toNat * k), k, rfl, hA, cells_take hc _, hk, rdRows_take _ hr hle⟩) hK

abbrev Brow (n : Int) : List C := [.val (.int .u8 n)]
def bytesOf (l : List Int) : ByteArray := l.foldl (fun r n => r.push (UInt8.ofNat n.toNat)) ByteArray.empty
theorem wrap_u8 (n : Int) (h : 0 ≤ n ∧ n ≤ 255) : IntKind.u8.wrap n = n := by
  have e : IntKind.u8.wrap n = n % 256 := by simp [IntKind.wrap, IntKind.signed, IntKind.bits]
  rw [e]; omega
theorem ow_convU8 [TI P t'] [TI P t] {m : Int} {k' : IntKind} (hu : TI.u P t' = .int .u8) (hs : TI.u P t = .int k') (hx : env.ev x = some (In k' m)) (hr : 0 ≤ m ∧ m ≤ 255) (hK : K (In .u8 m) H) : OpWp c ⟨d, .convert t t' x, ty, pos, af, g⟩ env H K :=
  ow_convInt hu hs hx (by rw [wrap_u8 _ hr]; exact hK)
end

section
variable {P : Program} [Gl P] {nt : Nat} {c : Cx P nt} {env : Env} {H : List Ch}
end
end Go.Vc
end

section
namespace Go.Vc
open Go.RowKit

/-- Chunks that are among others, in whatever order. -/
def Sub (H H' : List Ch) : Prop := ∃ is Hr, pick is H = some (H', Hr)
theorem sub_end {H : List Ch} : Sub H [] := ⟨[], H, rfl⟩
theorem sub_step {H Hs : List Ch} {ch : Ch} (i : Nat) (h : H[i]? = some ch) (h2 : Sub (H.eraseIdx i) Hs) : Sub H (ch :: Hs) := by
  obtain ⟨is, Hr, h2⟩ := h2
  exact ⟨i :: is, Hr, by simp only [pick, h, h2, Option.map_some]⟩

section
variable {P : Program} [Gl P] {nt : Nat} {c : Cx P nt} {env : Env} {H : List Ch}
theorem jc_loopS {ι : Type} (ks : List Nat) (I : ι → Prop) (ch : ι → Env) (HH : ι → List Ch) (μ : ι → Nat) (i : ι) {Q : Exit → Act → World → Prop} {code : Code} (hI : I i) (hp : Sub H (HH i)) (hE : Env.le (ch i ++ env.only ks) env)
    (hbody : ∀ i, I i → JC c code (Exit.then (fun a w => ∃ j, I j ∧ μ j < μ i ∧ St c (ch j ++ env.only ks) (HH j) a w) Q) (ch i ++ env.only ks) (HH i)) : JC c (.loop code) Q env H :=
  let ⟨is, _, hp⟩ := hp
  jc_loop ks I ch HH μ i is hI hp hE hbody
theorem jq_cutS {ι : Type} {I : ι → Prop} {E : ι → Env} {HH : ι → List Ch} {Q : Exit → Act → World → Prop} (i : ι) (hI : I i) (hp : Sub H (HH i)) (hE : Env.le (E i) env) :
    JQ c (Exit.then (fun a w => ∃ i, I i ∧ St c (E i) (HH i) a w) Q) .normal env H :=
  let ⟨is, _, hp⟩ := hp
  jq_cut i is hI hp hE
theorem jq_againS {ι : Type} {I : ι → Prop} {E : ι → Env} {HH : ι → List Ch} {μ : ι → Nat} {Q : Exit → Act → World → Prop} {i : ι} (j : ι) (hI : I j) (hμ : μ j < μ i) (hp : Sub H (HH j)) (hE : Env.le (E j) env) :
    JQ c (Exit.then (fun a w => ∃ j, I j ∧ μ j < μ i ∧ St c (E j) (HH j) a w) Q) .normal env H :=
  let ⟨is, _, hp⟩ := hp
  jq_again j is hI hμ hp hE
theorem jq_ret1S {fn : Func} {post : (S → List Ch → Prop) → Prop} {t : Tmp} {s : S} {Hout : List Ch} (hres : fn.results = #[.tmp t]) (hl : env.lookup t = some s) (hpost : ∀ K, post K → K s Hout) (hp : Sub H Hout) :
    JQ c (bodyPost P fn (RR c post)) .ret env H :=
  let ⟨is, _, hp⟩ := hp
  jq_ret1 hres hl is hp hpost
theorem jq_retRowS {fn : Func} {post : (S → List Ch → Prop) → Prop} {a : Tmp} {b : Nat} {bt t : TypeId} [TI P t] {row : List C} {Hx Hout : List Ch} (hres : fn.results = #[.cell a t]) (ha : aggB (TI.u P t) = true) (hz : (TI.i P t).size = row.length) (hl : env.lookup a = some (.cell (.val (.pointer (some ⟨b, 0, none⟩))))) (j : Nat) (hj : pick [j] H = some ([.blk b bt row], Hx)) (hpost : ∀ K, post K → K (.row row) Hout) (hp : Sub H Hout) :
    JQ c (bodyPost P fn (RR c post)) .ret env H :=
  let ⟨is, _, hp⟩ := hp
  jq_retRow hres ha hz hl j hj is hp hpost
end
end Go.Vc
end

section
namespace Go.Vc
open Go.RowKit
section
variable {P : Program} [Gl P] {nt : Nat} {c : Cx P nt} {env : Env} {H : List Ch} {K : S → List Ch → Prop}
variable {d : Option Tmp} {ty t t' : TypeId} {pos : String} {af : Array Edge} {g : Option (Nat × Bool)} {x y : Operand}
/-- No more is looked at. -/
theorem jc_reset {Q : Exit → Act → World → Prop} {code : Code} (env' : Env) (H' : List Ch) (hE : Env.le env' env) (hp : Sub H H') (h : JC c code Q env' H') : JC c code Q env H := fun a w hs => by
  obtain ⟨is, Hr, hp⟩ := hp
  have h1 := (hs.perm (pick_perm hp)).perm List.perm_append_comm
  exact h a w ((h1.drop).weaken hE)
end
end Go.Vc
end

section
namespace Go.Vc
open Go.RowKit

/-- A string's byte. -/
def byteAt (s : ByteArray) (n : Nat) : Int := ((s.data.toList.getD n 0).toNat : Int)
/-- A set of strings, as a map. -/
abbrev setE (ks : List ByteArray) : List (Value × Value) := ks.map (fun k => (Value.string k, Value.bool true))

section
variable {P : Program} [Gl P] {nt : Nat} {c : Cx P nt} {env : Env} {H : List Ch} {K : S → List Ch → Prop}
variable {d : Option Tmp} {ty t t' : TypeId} {pos : String} {af : Array Edge} {g : Option (Nat × Bool)} {x y z : Operand}

theorem ow_indexStr [TI P t] (ht : TI.u P t = .string) {s : ByteArray} {k : IntKind} {i : Int} (hx : env.ev x = some (Str s)) (hy : env.ev y = some (In k i)) (h0 : 0 ≤ i) (hlt : i.toNat < s.size) (hK : K (In .u8 (byteAt s i.toNat)) H) : OpWp c ⟨d, .index t x y, ty, pos, af, g⟩ env H K :=
  ow_valx rfl (fun a w h => by
    have hu : P.underlying t = some .string := by rw [TI.hu (P := P) (t := t), ht]
    have hb : s[i.toNat]? = some (s.data.toList[i.toNat]'(by simpa using hlt)) := by
      rw [getElem?_pos s i.toNat hlt]
      rfl
    have hv : byteAt s i.toNat = ((s.data.toList[i.toNat]'(by simpa using hlt)).toNat : Int) := by
      unfold byteAt
      rw [List.getD_eq_getElem?_getD, List.getElem?_eq_getElem (by simpa using hlt)]
      rfl
    rw [hv]
    simp only [execOp, ev_val h hx, ev_val h hy, Instr.index, asIntOf, Sem.run_bind, Sem.run_pure, Result.andThen_ok, run_underlying hu, if_pos h0, hb]) hK

omit [Gl P] in
theorem soks_get {w : World} {A : Nat → Prop} : ∀ {ss : List S} {vs : List Value} {i : Nat} {s : S}, SOks w A ss vs → ss[i]? = some s → ∃ v, vs[i]? = some v ∧ SOk w A s v
  | [], _, _, _, _, h => by simp at h
  | s0 :: ss, vs, i, s, h, hi => by
    obtain ⟨v, r, rfl, h1, h2⟩ := h
    cases i with
    | zero => simp at hi; subst hi; exact ⟨v, by simp, h1⟩
    | succ i => simpa using soks_get h2 (by simpa using hi)
theorem ow_extract {l : List S} {i : Nat} {s : S} (hx : env.ev x = some (.tup l)) (hi : l[i]? = some s) (hK : K s H) : OpWp c ⟨d, .extract x i, ty, pos, af, g⟩ env H K :=
  ow_val (fun a w h => by
    obtain ⟨vs, he, hs⟩ := ev_ok h hx
    obtain ⟨v, hv, hr⟩ := soks_get hs hi
    have hv' : vs.toArray[i]? = some v := by simpa using hv
    exact ⟨v, by simp only [execOp, he, Instr.extract, hv', Sem.run_bind, Sem.run_pure, Result.andThen_ok], hr⟩) hK

theorem ow_quo64 {m n : Int} (hx : env.ev x = some (In .i64 m)) (hy : env.ev y = some (In .i64 n)) (hm : 0 ≤ m ∧ m ≤ 9223372036854775807) (h0 : 0 < n) (hK : K (In .i64 (m / n)) H) : OpWp c ⟨d, .binOp .quo t x y t', ty, pos, af, g⟩ env H K :=
  ow_quo hx hy (by omega) (by
    have h1 : m / n ≤ m := Int.ediv_le_self n hm.1
    have h2 : 0 ≤ m / n := Int.ediv_nonneg hm.1 (by omega)
    rw [Int.tdiv_eq_ediv_of_nonneg hm.1, IntWalk.i64_in _ (by omega)]; exact hK)
theorem ow_makeMap (hK : ∀ b, c.B.heap.size ≤ b → K (.cell (.val (.map (some b)))) (.mapc b (setE []) :: H)) : OpWp c ⟨d, .makeMap t none, ty, pos, af, g⟩ env H K := by
  intro a w h next Q hn
  have hg : Grow (hb []) w (w.alloc (.map #[] 0)) := ⟨rfl, rfl, rfl, by simp, fun k hk _ => (MapKept.heap_alloc w _).2 k hk⟩
  have h' : StW c ([] ++ H) w := h.heap
  obtain ⟨s1, s2⟩ := StW.step (H1' := [.mapc w.heap.size []]) h' hg (by simp [hb, Ch.bs]) (by simp [hb, Ch.bs]) (by
    intro ch hch
    simp only [List.mem_singleton] at hch
    subst hch
    exact ⟨#[], 0, (MapKept.heap_alloc w _).1, rfl⟩)
  unfold Oper.wp
  have hex : (execOp a.eval ⟨d, .makeMap t none, ty, pos, af, g⟩).run P w = .ok (.value (.map (some w.heap.size))) (w.alloc (.map #[] 0)) := by
    simp [execOp, Instr.makeMap]
  rw [hex]
  exact hn _ _ _ _ (hK _ h.heap.size) s1 ⟨rfl, rfl⟩ s2

end
end Go.Vc
end
