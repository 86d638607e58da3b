import Derived.WalkKit
namespace Go.Vc
open Go.RowKit

theorem nb {n m : Nat} (h : Nat.ble n m = true) : n ≤ m := Nat.le_of_ble_eq_true h

inductive C : Type 1
  | val (v : Value)
  | list (rows : List (List C))
  | place (row : List C)
  | ex {ι : Type} (f : ι → C)
  | any                              -- some value of one cell
  | map (es : List (Value × Value))  -- a map that is only read: its keys and elements
  | inn (v : Value) (off : Nat)      -- a pointer into the row of a slice of one's own

def Cells (w : World) (b off : Nat) (vs : List Value) : Prop := ∀ j v, vs[j]? = some v → w.cell? ⟨b, off + j, none⟩ = some v

mutual
def Rd1 (w : World) (A : Nat → Prop) : C → Value → Prop
  | .val v, x => x = v ∧ v.oneCell' = true
  | .list rows, x => ∃ a cap, x = .slice a rows.length cap ∧ rows.length ≤ cap ∧ cap ≤ maxLen ∧
      (rows.length = 0 ∨ ∃ b off vs k, a = some ⟨b, off, none⟩ ∧ ¬ A b ∧ Cells w b off vs ∧ 0 < k ∧ RdRows w A k rows vs)
  | .place row, x => ∃ b off vs, x = .pointer (some ⟨b, off, none⟩) ∧ ¬ A b ∧ 0 < row.length ∧ Cells w b off vs ∧ RdRow w A row vs
  | .ex f, x => ∃ i, Rd1 w A (f i) x
  | .any, x => x.oneCell' = true
  | .map es, x => ∃ b ents clock, x = .map (some b) ∧ ¬ A b ∧ w.heap[b]? = some (.map ents clock) ∧ ents.toList.map (fun e => (e.key, e.val)) = es
  | .inn v off, x => ∃ g n cap, v = .slice (some ⟨g, 0, none⟩) n cap ∧ x = .pointer (some ⟨g, off, none⟩)
def RdRow (w : World) (A : Nat → Prop) : List C → List Value → Prop
  | [], vs => vs = []
  | c :: cs, vs => ∃ v r, vs = v :: r ∧ Rd1 w A c v ∧ RdRow w A cs r
def RdRows (w : World) (A : Nat → Prop) (k : Nat) : List (List C) → List Value → Prop
  | [], vs => vs = []
  | row :: rows, vs => ∃ c r, vs = c ++ r ∧ c.length = k ∧ RdRow w A row c ∧ RdRows w A k rows r
end

/-- What is outside A stands in w' as it stood in w. -/
structure Up (A : Nat → Prop) (w w' : World) : Prop where
  size : w.heap.size ≤ w'.heap.size
  block : ∀ k, k < w.heap.size → ¬ A k → w'.heap[k]? = w.heap[k]?

theorem Up.refl (A : Nat → Prop) (w : World) : Up A w w := ⟨Nat.le_refl _, fun _ _ _ => rfl⟩
theorem Up.trans {A : Nat → Prop} {a b c : World} (h : Up A a b) (k : Up A b c) : Up A a c :=
  ⟨Nat.le_trans h.size k.size, fun i hi hA => (k.block i (Nat.lt_of_lt_of_le hi h.size) hA).trans (h.block i hi hA)⟩

/-- What is known of package-level variables, and stays so. -/
class Gl (P : Program) where
  ok : World → (Nat → Prop) → Prop
  up : ∀ {w w' : World} {A A' : Nat → Prop}, Up A w w' → (∀ b, A' b → A b ∨ w.heap.size ≤ b) → ok w A → ok w' A'
/-- Nothing is known of them. -/
@[reducible] def Gl.triv (P : Program) : Gl P := ⟨fun _ _ => True, fun _ _ _ => trivial⟩

theorem cells_lt {w : World} {b off : Nat} {vs : List Value} (h : Cells w b off vs) (hp : 0 < vs.length) : b < w.heap.size := by
  have := h 0 vs[0] (by simp [hp])
  exact World.block_lt_of_cell? (a := ⟨b, off + 0, none⟩) w this

theorem cells_up {A : Nat → Prop} {w w' : World} {b off : Nat} {vs : List Value} (h : Cells w b off vs) (hu : Up A w w') (hA : ¬ A b) : Cells w' b off vs := by
  intro j v hj
  have h1 := h j v hj
  rw [World.cell?_of_block (w := w) (hu.block b (World.block_lt_of_cell? (a := ⟨b, off + j, none⟩) w h1) hA)]
  exact h1

theorem rdRow_length {w : World} {A : Nat → Prop} : ∀ {cs : List C} {vs : List Value}, RdRow w A cs vs → vs.length = cs.length
  | [], vs, h => by simp only [RdRow] at h; simp [h]
  | c :: cs, vs, h => by
    obtain ⟨v, r, rfl, _, h2⟩ := h
    simp [rdRow_length h2]

theorem rdRows_length {w : World} {A : Nat → Prop} {k : Nat} : ∀ {cs : List (List C)} {vs : List Value}, RdRows w A k cs vs → vs.length = cs.length * k
  | [], vs, h => by simp only [RdRows] at h; simp [h]
  | c :: cs, vs, h => by
    obtain ⟨v, r, rfl, h1, _, h2⟩ := h
    simp [rdRows_length h2, h1, Nat.add_mul]; omega

mutual
theorem rd1_up {w w' : World} {A A' : Nat → Prop} (hu : Up A w w') (hA : ∀ b, A' b → A b ∨ w.heap.size ≤ b) : ∀ (c : C) (v : Value), Rd1 w A c v → Rd1 w' A' c v
  | .val _, _, h => h
  | .list rows, x, h => by
    obtain ⟨a, cap, rfl, h1, h2, h3⟩ := h
    refine ⟨a, cap, rfl, h1, h2, ?_⟩
    rcases h3 with h3 | ⟨b, off, vs, k, rfl, hb, hc, hk, hr⟩
    · exact .inl h3
    · by_cases h0 : rows.length = 0
      · exact .inl h0
      · have hl := rdRows_length hr
        have hlt := cells_lt hc (by rw [hl]; exact Nat.mul_pos (by omega) hk)
        exact .inr ⟨b, off, vs, k, rfl, fun h' => (hA b h').elim hb (by omega), cells_up hc hu hb, hk, rdRows_up hu hA k rows vs hr⟩
  | .place row, x, h => by
    obtain ⟨b, off, vs, rfl, hb, hp, hc, hr⟩ := h
    have hlt := cells_lt hc (by rw [rdRow_length hr]; exact hp)
    exact ⟨b, off, vs, rfl, fun h' => (hA b h').elim hb (by omega), hp, cells_up hc hu hb, rdRow_up hu hA row vs hr⟩
  | .ex f, x, h => by
    obtain ⟨i, h⟩ := h
    exact ⟨i, rd1_up hu hA (f i) x h⟩
  | .any, _, h => h
  | .map es, x, h => by
    obtain ⟨b, ents, clock, rfl, hb, hh, he⟩ := h
    have hlt : b < w.heap.size := (Array.getElem?_eq_some_iff.1 hh).1
    exact ⟨b, ents, clock, rfl, fun h' => (hA b h').elim hb (by omega), by rw [hu.block b hlt hb]; exact hh, he⟩
  | .inn _ _, _, h => h
theorem rdRow_up {w w' : World} {A A' : Nat → Prop} (hu : Up A w w') (hA : ∀ b, A' b → A b ∨ w.heap.size ≤ b) : ∀ (cs : List C) (vs : List Value), RdRow w A cs vs → RdRow w' A' cs vs
  | [], _, h => h
  | c :: cs, vs, h => by
    obtain ⟨v, r, rfl, h1, h2⟩ := h
    exact ⟨v, r, rfl, rd1_up hu hA c v h1, rdRow_up hu hA cs r h2⟩
theorem rdRows_up {w w' : World} {A A' : Nat → Prop} (hu : Up A w w') (hA : ∀ b, A' b → A b ∨ w.heap.size ≤ b) (k : Nat) : ∀ (rows : List (List C)) (vs : List Value), RdRows w A k rows vs → RdRows w' A' k rows vs
  | [], _, h => h
  | row :: rows, vs, h => by
    obtain ⟨c, r, rfl, h1, h2, h3⟩ := h
    exact ⟨c, r, rfl, h1, rdRow_up hu hA row c h2, rdRows_up hu hA k rows r h3⟩
end

theorem rd1_one {w : World} {A : Nat → Prop} : ∀ (c : C) (v : Value), Rd1 w A c v → v.oneCell' = true
  | .val u, v, h => by obtain ⟨rfl, h⟩ := h; exact h
  | .list rows, v, h => by obtain ⟨a, cap, rfl, _⟩ := h; rfl
  | .place row, v, h => by obtain ⟨b, off, vs, rfl, _⟩ := h; rfl
  | .ex f, v, h => by obtain ⟨i, h⟩ := h; exact rd1_one (f i) v h
  | .any, _, h => h
  | .map _, v, h => by obtain ⟨b, ents, clock, rfl, _⟩ := h; rfl
  | .inn _ _, v, h => by obtain ⟨g, n, cap, _, rfl⟩ := h; rfl

/-- Element i of rows of k cells each. -/
theorem rdRows_get {w : World} {A : Nat → Prop} {k : Nat} : ∀ {rows : List (List C)} {vs : List Value} {b off : Nat} {i : Nat} {row : List C}, RdRows w A k rows vs → Cells w b off vs → rows[i]? = some row →
    ∃ c, RdRow w A row c ∧ c.length = k ∧ Cells w b (off + i * k) c
  | [], _, _, _, _, _, _, _, h => by simp at h
  | r0 :: rows, vs, b, off, i, row, h, hc, hi => by
    obtain ⟨c, r, rfl, h1, h2, h3⟩ := h
    cases i with
    | zero =>
      simp only [List.getElem?_cons_zero, Option.some.injEq] at hi
      subst hi
      refine ⟨c, h2, h1, fun j v hj => ?_⟩
      have := hc j v (by rw [List.getElem?_append_left (by have := List.getElem?_eq_some_iff.1 hj; obtain ⟨h, _⟩ := this; exact h)]; exact hj)
      simpa using this
    | succ i =>
      simp only [List.getElem?_cons_succ] at hi
      have hc' : Cells w b (off + k) r := fun j v hj => by
        have := hc (k + j) v (by rw [List.getElem?_append_right (by omega)]; rw [show k + j - c.length = j by omega]; exact hj)
        rw [show off + k + j = off + (k + j) by omega]; exact this
      obtain ⟨c', g1, g2, g3⟩ := rdRows_get h3 hc' hi
      refine ⟨c', g1, g2, ?_⟩
      rw [show off + (i + 1) * k = off + k + i * k by rw [Nat.add_mul]; omega]
      exact g3

/-- Part of a row. -/
theorem rdRow_get {w : World} {A : Nat → Prop} : ∀ {cs : List C} {vs : List Value} {i : Nat} {c : C}, RdRow w A cs vs → cs[i]? = some c → ∃ v, vs[i]? = some v ∧ Rd1 w A c v
  | [], _, _, _, _, h => by simp at h
  | c0 :: cs, vs, i, c, h, hi => by
    obtain ⟨v, r, rfl, h1, h2⟩ := h
    cases i with
    | zero => simp at hi; subst hi; exact ⟨v, by simp, h1⟩
    | succ i =>
      simp only [List.getElem?_cons_succ] at hi ⊢
      exact rdRow_get h2 hi

theorem rdRow_drop {w : World} {A : Nat → Prop} : ∀ {cs : List C} {vs : List Value} (n : Nat), RdRow w A cs vs → RdRow w A (cs.drop n) (vs.drop n)
  | _, _, 0, h => by simpa using h
  | [], vs, n + 1, h => by simp only [RdRow] at h; subst h; simp [RdRow]
  | c0 :: cs, vs, n + 1, h => by
    obtain ⟨v, r, rfl, h1, h2⟩ := h
    simpa using rdRow_drop n h2
theorem rdRow_take {w : World} {A : Nat → Prop} : ∀ {cs : List C} {vs : List Value} (n : Nat), RdRow w A cs vs → RdRow w A (cs.take n) (vs.take n)
  | _, _, 0, h => by simp [RdRow]
  | [], vs, n + 1, h => by simp only [RdRow] at h; subst h; simp [RdRow]
  | c0 :: cs, vs, n + 1, h => by
    obtain ⟨v, r, rfl, h1, h2⟩ := h
    exact ⟨v, r.take n, by simp, h1, rdRow_take n h2⟩
theorem rdRow_append {w : World} {A : Nat → Prop} : ∀ {cs ds : List C} {vs us : List Value}, RdRow w A cs vs → RdRow w A ds us → RdRow w A (cs ++ ds) (vs ++ us)
  | [], _, _, _, h, h' => by simp only [RdRow] at h; subst h; simpa using h'
  | c0 :: cs, _, _, _, h, h' => by
    obtain ⟨v, r, rfl, h1, h2⟩ := h
    exact ⟨v, _, by simp, h1, rdRow_append h2 h'⟩
theorem rdRow_set {w : World} {A : Nat → Prop} : ∀ {cs : List C} {vs : List Value} {i : Nat} {c : C} {v : Value}, RdRow w A cs vs → Rd1 w A c v → RdRow w A (cs.set i c) (vs.set i v)
  | [], _, _, _, _, h, _ => by simp only [RdRow] at h; subst h; simp [RdRow]
  | c0 :: cs, vs, i, c, v, h, hv => by
    obtain ⟨v0, r, rfl, h1, h2⟩ := h
    cases i with
    | zero => exact ⟨v, r, by simp, hv, h2⟩
    | succ i => exact ⟨v0, r.set i v, by simp, h1, rdRow_set h2 hv⟩
theorem rdRow_one {w : World} {A : Nat → Prop} : ∀ {cs : List C} {vs : List Value}, RdRow w A cs vs → ∀ v ∈ vs, v.oneCell' = true
  | [], _, h => by simp only [RdRow] at h; subst h; simp
  | c0 :: cs, _, h => by
    obtain ⟨v, r, rfl, h1, h2⟩ := h
    intro x hx
    rcases List.mem_cons.1 hx with rfl | hx
    · exact rd1_one c0 _ h1
    · exact rdRow_one h2 x hx
theorem rdRows_append {w : World} {A : Nat → Prop} {k : Nat} : ∀ {cs ds : List (List C)} {vs us : List Value}, RdRows w A k cs vs → RdRows w A k ds us → RdRows w A k (cs ++ ds) (vs ++ us)
  | [], _, _, _, h, h' => by simp only [RdRows] at h; subst h; simpa using h'
  | c0 :: cs, _, _, _, h, h' => by
    obtain ⟨v, r, rfl, h1, h2, h3⟩ := h
    exact ⟨v, _, by simp, h1, h2, rdRows_append h3 h'⟩
theorem rdRows_one {w : World} {A : Nat → Prop} {k : Nat} : ∀ {cs : List (List C)} {vs : List Value}, RdRows w A k cs vs → ∀ v ∈ vs, v.oneCell' = true
  | [], _, h => by simp only [RdRows] at h; subst h; simp
  | c0 :: cs, _, h => by
    obtain ⟨v, r, rfl, h1, h2, h3⟩ := h
    intro x hx
    rcases List.mem_append.1 hx with hx | hx
    · exact rdRow_one h2 x hx
    · exact rdRows_one h3 x hx
end Go.Vc
