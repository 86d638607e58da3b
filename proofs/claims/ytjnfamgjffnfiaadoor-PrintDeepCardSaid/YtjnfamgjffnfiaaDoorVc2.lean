import Derived.Test.YtjnfamgjffnfiaaDoorVc1
namespace Go.Vc
open Go.RowKit

/-- What the function at hand owns: a block each of whose cells is known; a slice that may grow. -/
inductive Ch : Type 1
  | blk (b : Nat) (t : TypeId) (row : List C)
  | own (v : Value) (e : TypeId) (k : Nat) (rows : List (List C))
  | mapc (b : Nat) (es : List (Value × Value))

def Ch.bs : Ch → List Nat
  | .blk b _ _ => [b]
  | .own v _ _ _ => v.ownBlock.toList
  | .mapc b _ => [b]
def hb (H : List Ch) : List Nat := H.flatMap Ch.bs

def Ch.ok (w : World) (A : Nat → Prop) : Ch → Prop
  | .blk b t row => ∃ cs : List Value, w.heap[b]? = some (.cells cs.toArray t (0, 0)) ∧ RdRow w A row cs
  | .own v e k rows => ∃ vs, w.ownsRow 0 e k v rows.length vs ∧ RdRows w A k rows vs ∧ 0 < k
  | .mapc b es => ∃ ents clock, w.heap[b]? = some (.map ents clock) ∧ ents.toList.map (fun e => (e.key, e.val)) = es

theorem Ch.lt {w : World} {A : Nat → Prop} {ch : Ch} (h : ch.ok w A) : ∀ b ∈ ch.bs, b < w.heap.size := by
  intro b hb
  cases ch with
  | blk b' t row =>
    obtain ⟨cs, h1, _⟩ := h
    simp only [Ch.bs, List.mem_singleton] at hb
    subst hb
    exact (Array.getElem?_eq_some_iff.1 h1).1
  | own v e k rows =>
    obtain ⟨vs, h1, _⟩ := h
    simp only [Ch.bs, Option.mem_toList] at hb
    exact (h1.lt b hb).2
  | mapc b' es =>
    obtain ⟨ents, clock, h1, _⟩ := h
    simp only [Ch.bs, List.mem_singleton] at hb
    subst hb
    exact (Array.getElem?_eq_some_iff.1 h1).1

theorem Ch.up {w w' : World} {A A' : Nat → Prop} {ch : Ch} (hu : Up A w w') (hA : ∀ b, A' b → A b ∨ w.heap.size ≤ b) (hb : ∀ b ∈ ch.bs, w'.heap[b]? = w.heap[b]?) (h : ch.ok w A) : ch.ok w' A' := by
  cases ch with
  | blk b t row =>
    obtain ⟨cs, h1, h2⟩ := h
    exact ⟨cs, by rw [hb b (by simp [Ch.bs])]; exact h1, rdRow_up hu hA row cs h2⟩
  | own v e k rows =>
    obtain ⟨vs, ⟨h1, h2⟩, h3, h4⟩ := h
    refine ⟨vs, ⟨h1, ?_⟩, rdRows_up hu hA k rows vs h3, h4⟩
    rcases h2 with h2 | ⟨g, cap, cur, rfl, hg, hh, r⟩
    · exact .inl h2
    · exact .inr ⟨g, cap, cur, rfl, hg, by rw [hb g (by simp [Ch.bs, Value.ownBlock])]; exact hh, r⟩
  | mapc b es =>
    obtain ⟨ents, clock, h1, h2⟩ := h
    exact ⟨ents, clock, by rw [hb b (by simp [Ch.bs])]; exact h1, h2⟩

/-- Slots. -/
inductive S : Type 1
  | void
  | cell (c : C)
  | row (r : List C)
  | tup (l : List S)
  | ex {ι : Type} (f : ι → S)

mutual
def SOk (w : World) (A : Nat → Prop) : S → Value → Prop
  | .void, _ => True
  | .cell c, v => Rd1 w A c v
  | .row r, v => ∃ cs, v = .agg cs ∧ RdRow w A r cs.toList
  | .tup l, v => ∃ vs : List Value, v = .tuple vs.toArray ∧ SOks w A l vs
  | .ex f, v => ∃ i, SOk w A (f i) v
def SOks (w : World) (A : Nat → Prop) : List S → List Value → Prop
  | [], vs => vs = []
  | s :: ss, vs => ∃ v r, vs = v :: r ∧ SOk w A s v ∧ SOks w A ss r
end

mutual
theorem sok_up {w w' : World} {A A' : Nat → Prop} (hu : Up A w w') (hA : ∀ b, A' b → A b ∨ w.heap.size ≤ b) : ∀ (s : S) (v : Value), SOk w A s v → SOk w' A' s v
  | .void, _, _ => trivial
  | .cell c, v, h => rd1_up hu hA c v h
  | .row r, v, h => by
    obtain ⟨cs, rfl, h⟩ := h
    exact ⟨cs, rfl, rdRow_up hu hA r _ h⟩
  | .tup l, v, h => by
    obtain ⟨vs, rfl, h⟩ := h
    exact ⟨vs, rfl, soks_up hu hA l _ h⟩
  | .ex f, v, h => by
    obtain ⟨i, h⟩ := h
    exact ⟨i, sok_up hu hA (f i) v h⟩
theorem soks_up {w w' : World} {A A' : Nat → Prop} (hu : Up A w w') (hA : ∀ b, A' b → A b ∨ w.heap.size ≤ b) : ∀ (s : List S) (v : List Value), SOks w A s v → SOks w' A' s v
  | [], _, h => h
  | s :: ss, vs, h => by
    obtain ⟨v, r, rfl, h1, h2⟩ := h
    exact ⟨v, r, rfl, sok_up hu hA s v h1, soks_up hu hA ss r h2⟩
end

theorem soks_length {w : World} {A : Nat → Prop} : ∀ {ss : List S} {vs : List Value}, SOks w A ss vs → vs.length = ss.length
  | [], vs, h => by simp only [SOks] at h; simp [h]
  | c :: cs, vs, h => by
    obtain ⟨v, r, rfl, _, h2⟩ := h
    simp [soks_length h2]

abbrev Env := List (Nat × S)

structure Cx (P : Program) (nt : Nat) where
  B : World
  A : Nat → Prop
  X : List Nat
  bnd : ∀ b, A b → b < B.heap.size

def Cx.av {P : Program} {nt : Nat} (c : Cx P nt) (H : List Ch) : Nat → Prop := fun b => c.A b ∨ b ∈ hb H

structure StW {P : Program} [Gl P] {nt : Nat} (c : Cx P nt) (H : List Ch) (w : World) : Prop where
  os : w.os = c.B.os
  tape : w.tape = c.B.tape
  output : w.output = c.B.output
  size : c.B.heap.size ≤ w.heap.size
  block : ∀ k, k < c.B.heap.size → k ∉ c.X → w.heap[k]? = c.B.heap[k]?
  ok : ∀ ch ∈ H, ch.ok w (c.av H)
  nodup : (hb H).Nodup
  mine : ∀ b ∈ hb H, b ∈ c.X ∨ c.B.heap.size ≤ b
  gl : Gl.ok P w (c.av H)

theorem StW.lt {P : Program} [Gl P] {nt : Nat} {c : Cx P nt} {H : List Ch} {w : World} (h : StW c H w) : ∀ b ∈ hb H, b < w.heap.size := by
  intro b hb
  obtain ⟨ch, h1, h2⟩ := List.mem_flatMap.1 hb
  exact Ch.lt (h.ok ch h1) b h2

theorem StW.avlt {P : Program} [Gl P] {nt : Nat} {c : Cx P nt} {H : List Ch} {w : World} (h : StW c H w) : ∀ b, c.av H b → b < w.heap.size := by
  intro b hb
  rcases hb with hb | hb
  · exact Nat.lt_of_lt_of_le (c.bnd b hb) h.size
  · exact h.lt b hb

theorem hb_perm {H H' : List Ch} (h : H.Perm H') : (hb H).Perm (hb H') := h.flatMap_right _

theorem av_perm {P : Program} [Gl P] {nt : Nat} (c : Cx P nt) {H H' : List Ch} (h : H.Perm H') : c.av H' = c.av H := by
  funext b
  simp only [Cx.av]
  rw [(hb_perm h).mem_iff]

theorem StW.perm {P : Program} [Gl P] {nt : Nat} {c : Cx P nt} {H H' : List Ch} {w : World} (h : StW c H w) (hp : H.Perm H') : StW c H' w := by
  have hp' := hb_perm hp
  have hav : c.av H' = c.av H := by funext b; simp only [Cx.av]; rw [hp'.mem_iff]
  exact ⟨h.os, h.tape, h.output, h.size, h.block, fun ch hch => by rw [hav]; exact h.ok ch (hp.mem_iff.2 hch), hp'.nodup_iff.1 h.nodup, fun b hb => h.mine b (hp'.mem_iff.2 hb), by rw [hav]; exact h.gl⟩

/-- The streams are as they were, and no block has turned but those named. -/
structure Grow (X : List Nat) (w w' : World) : Prop where
  os : w'.os = w.os
  tape : w'.tape = w.tape
  output : w'.output = w.output
  size : w.heap.size ≤ w'.heap.size
  block : ∀ k, k < w.heap.size → k ∉ X → w'.heap[k]? = w.heap[k]?

theorem Grow.refl (X : List Nat) (w : World) : Grow X w w := ⟨rfl, rfl, rfl, Nat.le_refl _, fun _ _ _ => rfl⟩
theorem Grow.of_grownBy {w w' : World} {row : Option Nat} (h : w.grownBy w' row) : Grow row.toList w w' :=
  ⟨h.os, h.tape, h.output, h.size, fun k hk hn => h.block k hk (fun e => hn (by simp [← e]))⟩

theorem Grow.up {X : List Nat} {w w' : World} {A : Nat → Prop} (h : Grow X w w') (hX : ∀ b ∈ X, A b) : Up A w w' :=
  ⟨h.size, fun k hk hA => h.block k hk (fun hx => hA (hX k hx))⟩

/-- A step that turns the part H1 of what is owned into H1'. -/
theorem StW.step {P : Program} [Gl P] {nt : Nat} {c : Cx P nt} {H1 H1' Hr : List Ch} {w w' : World} (h : StW c (H1 ++ Hr) w) (hg : Grow (hb H1) w w')
    (hnew : ∀ b ∈ hb H1', b ∈ hb H1 ∨ w.heap.size ≤ b) (hnd : (hb H1').Nodup)
    (hok : ∀ ch ∈ H1', ch.ok w' (c.av (H1' ++ Hr))) :
    StW c (H1' ++ Hr) w' ∧ (∀ s v, SOk w (c.av (H1 ++ Hr)) s v → SOk w' (c.av (H1' ++ Hr)) s v) := by
  have happ : ∀ (X Y : List Ch), hb (X ++ Y) = hb X ++ hb Y := fun X Y => by simp [hb]
  have hnod := h.nodup
  rw [happ, List.nodup_append] at hnod
  obtain ⟨n1, n2, n3⟩ := hnod
  have hu : Up (c.av (H1 ++ Hr)) w w' := hg.up (fun b hb => .inr (by rw [happ]; exact List.mem_append.2 (.inl hb)))
  have hA : ∀ b, c.av (H1' ++ Hr) b → c.av (H1 ++ Hr) b ∨ w.heap.size ≤ b := by
    intro b hb
    rcases hb with hb | hb
    · exact .inl (.inl hb)
    · rw [happ] at hb
      rcases List.mem_append.1 hb with hb | hb
      · rcases hnew b hb with hb | hb
        · exact .inl (.inr (by rw [happ]; exact List.mem_append.2 (.inl hb)))
        · exact .inr hb
      · exact .inl (.inr (by rw [happ]; exact List.mem_append.2 (.inr hb)))
  refine ⟨⟨hg.os.trans h.os, hg.tape.trans h.tape, hg.output.trans h.output, Nat.le_trans h.size hg.size, ?_, ?_, ?_, ?_, Gl.up hu hA h.gl⟩, fun s v hs => sok_up hu hA s v hs⟩
  · intro k hk hX
    rw [hg.block k (Nat.lt_of_lt_of_le hk h.size) ?_]
    · exact h.block k hk hX
    · intro hk1
      rcases h.mine k (by rw [happ]; exact List.mem_append.2 (.inl hk1)) with h' | h'
      · exact hX h'
      · omega
  · intro ch hch
    rcases List.mem_append.1 hch with hch | hch
    · exact hok ch hch
    · refine Ch.up hu hA ?_ (h.ok ch (List.mem_append.2 (.inr hch)))
      intro b hbm
      have hbr : b ∈ hb Hr := List.mem_flatMap.2 ⟨ch, hch, hbm⟩
      exact hg.block b (h.lt b (by rw [happ]; exact List.mem_append.2 (.inr hbr))) (fun h1 => n3 b h1 b hbr rfl)
  · rw [happ, List.nodup_append]
    refine ⟨hnd, n2, ?_⟩
    intro a ha b hbr e
    subst e
    rcases hnew a ha with h1 | h1
    · exact n3 a h1 a hbr rfl
    · have := h.lt a (by rw [happ]; exact List.mem_append.2 (.inr hbr))
      omega
  · intro b hbm
    rw [happ] at hbm
    rcases List.mem_append.1 hbm with h1 | h1
    · rcases hnew b h1 with h1 | h1
      · exact h.mine b (by rw [happ]; exact List.mem_append.2 (.inl h1))
      · exact .inr (Nat.le_trans h.size h1)
    · exact h.mine b (by rw [happ]; exact List.mem_append.2 (.inr h1))

theorem StW.drop {P : Program} [Gl P] {nt : Nat} {c : Cx P nt} {H1 Hr : List Ch} {w : World} (h : StW c (H1 ++ Hr) w) : StW c Hr w ∧ (∀ s v, SOk w (c.av (H1 ++ Hr)) s v → SOk w (c.av Hr) s v) := by
  have := StW.step (H1' := []) h (Grow.refl _ _) (by simp [hb]) (by simp [hb]) (by simp)
  simpa using this

structure St {P : Program} [Gl P] {nt : Nat} (c : Cx P nt) (env : Env) (H : List Ch) (a : Act) (w : World) : Prop where
  size : a.tmps.size = nt
  defers : a.defers = []
  slots : ∀ i s, env.lookup i = some s → SOk w (c.av H) s (a.tmps.getD i undef)
  heap : StW c H w

theorem lookup_cons {env : Env} {d i : Nat} {s s' : S} (h : List.lookup i ((d, s) :: env) = some s') : (i = d ∧ s' = s) ∨ (i ≠ d ∧ List.lookup i env = some s') := by
  rw [List.lookup_cons] at h
  by_cases hid : i = d
  · subst hid
    simp at h
    exact .inl ⟨rfl, h.symm⟩
  · have hb : (i == d) = false := by simpa using hid
    rw [hb] at h
    exact .inr ⟨hid, h⟩

/-- The next state, behind an operation that leaves its value in slot d. -/
theorem St.next {P : Program} [Gl P] {nt : Nat} {c : Cx P nt} {env : Env} {H H' : List Ch} {a : Act} {w w' : World} {d : Nat} {s : S} {v : Value} (h : St c env H a w) (hd : d < nt)
    (hw : StW c H' w') (hs : SOk w' (c.av H') s v) (hk : ∀ s v, SOk w (c.av H) s v → SOk w' (c.av H') s v) : St c ((d, s) :: env) H' (a.put (some d) v) w' := by
  refine ⟨by simp [Act.put, h.size], h.defers, ?_, hw⟩
  intro i s' hi
  rcases lookup_cons hi with ⟨rfl, rfl⟩ | ⟨hid, hi⟩
  · simp only [Act.put]
    rw [Array.getD_eq_getD_getElem?, Array.getElem?_setIfInBounds]
    simp [h.size, hd]
    exact hs
  · simp only [Act.put]
    rw [Array.getD_eq_getD_getElem?, Array.getElem?_setIfInBounds, if_neg (by omega), ← Array.getD_eq_getD_getElem?]
    exact hk _ _ (h.slots i s' hi)

theorem St.next0 {P : Program} [Gl P] {nt : Nat} {c : Cx P nt} {env : Env} {H H' : List Ch} {a : Act} {w w' : World} {v : Value} (h : St c env H a w)
    (hw : StW c H' w') (hk : ∀ s v, SOk w (c.av H) s v → SOk w' (c.av H') s v) : St c env H' (a.put none v) w' :=
  ⟨h.size, h.defers, fun i s hi => hk _ _ (h.slots i s hi), hw⟩

/-- One operation. -/
def OpWp {P : Program} [Gl P] {nt : Nat} (c : Cx P nt) (o : Oper) (env : Env) (H : List Ch) (K : S → List Ch → Prop) : Prop :=
  ∀ a w, St c env H a w → ∀ (next : Act → World → Prop) Q,
    (∀ s H' v w', K s H' → StW c H' w' → SOk w' (c.av H') s v → (∀ s v, SOk w (c.av H) s v → SOk w' (c.av H') s v) → next (a.put o.dst v) w') → o.wp P a w next Q

/-- Operations, one behind the other. -/
def JL {P : Program} [Gl P] {nt : Nat} (c : Cx P nt) (ops : Array Oper) (Q : Exit → Act → World → Prop) (l : List Oper) (env : Env) (H : List Ch) : Prop :=
  ∀ a w, St c env H a w → wpList P ops Q l a w
def JC {P : Program} [Gl P] {nt : Nat} (c : Cx P nt) (code : Code) (Q : Exit → Act → World → Prop) (env : Env) (H : List Ch) : Prop :=
  ∀ a w, St c env H a w → code.wp P Q a w
/-- What is asked at an exit. -/
def JQ {P : Program} [Gl P] {nt : Nat} (c : Cx P nt) (Q : Exit → Act → World → Prop) (e : Exit) (env : Env) (H : List Ch) : Prop :=
  ∀ a w, St c env H a w → Q e a w

section
variable {P : Program} [Gl P] {nt : Nat} {c : Cx P nt} {ops : Array Oper} {Q : Exit → Act → World → Prop} {env : Env} {H : List Ch}

theorem jl_nil (h : JQ c Q .normal env H) : JL c ops Q [] env H := fun a w hs => h a w hs

theorem jl_op {l : List Oper} {d : Nat} {op : Op} {ty : TypeId} {pos : String} {af : Array Edge}
    (h : OpWp c ⟨some d, op, ty, pos, af, none⟩ env H (fun s H' => JL c ops Q l ((d, s) :: env) H')) (hd : d < nt) : JL c ops Q (⟨some d, op, ty, pos, af, none⟩ :: l) env H := by
  intro a w hs
  refine wpList_plain rfl fun K hK => ?_
  refine h a w hs _ _ ?_
  intro s H' v w' hJ hw' hv hk
  exact hK _ _ (hJ _ _ (hs.next hd hw' hv hk))

theorem jl_op0 {l : List Oper} {op : Op} {ty : TypeId} {pos : String} {af : Array Edge}
    (h : OpWp c ⟨none, op, ty, pos, af, none⟩ env H (fun _ H' => JL c ops Q l env H')) : JL c ops Q (⟨none, op, ty, pos, af, none⟩ :: l) env H := by
  intro a w hs
  refine wpList_plain rfl fun K hK => ?_
  refine h a w hs _ _ ?_
  intro s H' v w' hJ hw' _ hk
  exact hK _ _ (hJ _ _ (hs.next0 hw' hk))

theorem jc_region {id : Nat} {l : List Oper} (h : JL c l.toArray Q l env H) : JC c (.region id l.toArray false) Q env H :=
  fun a w hs => wp_region_lit (h a w hs)
theorem jc_seq {x y : Code} (h : JC c x (Exit.then (fun a w => y.wp P Q a w) Q) env H) : JC c (.seq x y) Q env H :=
  fun a w hs => wp_seq (h a w hs)
theorem jc_block {id : Nat} {x : Code} (h : JC c x (Exit.inBlock id Q) env H) : JC c (.block id x) Q env H :=
  fun a w hs => wp_block (h a w hs)
theorem jc_skip (h : JQ c Q .normal env H) : JC c .skip Q env H := fun a w hs => wp_skip (h a w hs)
theorem jc_ret (h : JQ c Q .ret env H) : JC c .ret Q env H := fun a w hs => wp_ret (h a w hs)
theorem jc_exit {id : Nat} (h : JQ c Q (.exit id) env H) : JC c (.exit id) Q env H := fun a w hs => wp_exit (h a w hs)

/-- At the end of the first of two codes. -/
theorem jq_then {y : Code} (h : JC c y Q env H) : JQ c (Exit.then (fun a w => y.wp P Q a w) Q) .normal env H := fun a w hs => h a w hs
theorem jq_then_ret {K : Act → World → Prop} (h : JQ c Q .ret env H) : JQ c (Exit.then K Q) .ret env H := fun a w hs => h a w hs
theorem jq_then_exit {K : Act → World → Prop} {id : Nat} (h : JQ c Q (.exit id) env H) : JQ c (Exit.then K Q) (.exit id) env H := fun a w hs => h a w hs
theorem jq_block {id : Nat} (h : JQ c Q .normal env H) : JQ c (Exit.inBlock id Q) .normal env H := fun a w hs => h a w hs
theorem jq_block_ret {id : Nat} (h : JQ c Q .ret env H) : JQ c (Exit.inBlock id Q) .ret env H := fun a w hs => h a w hs
theorem jq_block_exit {id : Nat} (h : JQ c Q .normal env H) : JQ c (Exit.inBlock id Q) (.exit id) env H := fun a w hs => by
  have := h a w hs
  simpa [Exit.inBlock] using this
theorem jq_block_other {id j : Nat} (hne : (j == id) = false) (h : JQ c Q (.exit j) env H) : JQ c (Exit.inBlock id Q) (.exit j) env H := fun a w hs => by
  have h1 := h a w hs
  have hne : ¬ j = id := by simpa using hne
  simpa [Exit.inBlock, hne] using h1

/-- Operands. -/
def Env.ev (env : Env) : Operand → Option S
  | .tmp t => env.lookup t
  | .const v => if v.oneCell' then some (.cell (.val v)) else none
  | .func f => some (.cell (.val (.func (.func f) #[] #[])))
  | .global g => some (.cell (.val (.pointer (some ⟨g, 0, none⟩))))

theorem ev_ok {a : Act} {w : World} {x : Operand} {s : S} (h : St c env H a w) (hx : env.ev x = some s) : SOk w (c.av H) s (a.eval x) := by
  cases x with
  | tmp t => exact h.slots t s hx
  | const v =>
    simp only [Env.ev] at hx
    split at hx
    · cases hx; exact ⟨rfl, by assumption⟩
    · cases hx
  | func f => simp only [Env.ev] at hx; cases hx; exact ⟨rfl, rfl⟩
  | global g => simp only [Env.ev] at hx; cases hx; exact ⟨rfl, rfl⟩

theorem ev_val {a : Act} {w : World} {x : Operand} {v : Value} (h : St c env H a w) (hx : env.ev x = some (.cell (.val v))) : a.eval x = v := (ev_ok h hx).1

/-- Weaker states. -/
def Env.le : Env → Env → Prop
  | [], _ => True
  | (i, s) :: r, e => e.lookup i = some s ∧ Env.le r e

theorem Env.le_lookup : ∀ {e' e : Env}, Env.le e' e → ∀ i s, e'.lookup i = some s → e.lookup i = some s
  | [], _, _, _, _, h => by simp at h
  | (j, t) :: r, e, hl, i, s, h => by
    rcases lookup_cons h with ⟨rfl, rfl⟩ | ⟨_, h⟩
    · exact hl.1
    · exact Env.le_lookup hl.2 i s h

theorem St.weaken {env' : Env} {a : Act} {w : World} (h : St c env H a w) (hl : Env.le env' env) : St c env' H a w :=
  ⟨h.size, h.defers, fun i s hi => h.slots i s (Env.le_lookup hl i s hi), h.heap⟩
theorem St.perm {H' : List Ch} {a : Act} {w : World} (h : St c env H a w) (hp : H.Perm H') : St c env H' a w := by
  have hp' := hb_perm hp
  have hav : c.av H' = c.av H := by funext b; simp only [Cx.av]; rw [hp'.mem_iff]
  exact ⟨h.size, h.defers, fun i s hi => by rw [hav]; exact h.slots i s hi, h.heap.perm hp⟩
theorem St.drop {H1 Hr : List Ch} {a : Act} {w : World} (h : St c env (H1 ++ Hr) a w) : St c env Hr a w :=
  ⟨h.size, h.defers, fun i s hi => h.heap.drop.2 s _ (h.slots i s hi), h.heap.drop.1⟩

/-- Chunks by their places. -/
def pick : List Nat → List Ch → Option (List Ch × List Ch)
  | [], H => some ([], H)
  | i :: is, H => match H[i]? with
    | some ch => (pick is (H.eraseIdx i)).map fun p => (ch :: p.1, p.2)
    | none => none

theorem pick_perm : ∀ {is : List Nat} {H H1 Hr : List Ch}, pick is H = some (H1, Hr) → H.Perm (H1 ++ Hr)
  | [], H, H1, Hr, h => by simp only [pick, Option.some.injEq, Prod.mk.injEq] at h; obtain ⟨rfl, rfl⟩ := h; exact List.Perm.refl _
  | i :: is, H, H1, Hr, h => by
    simp only [pick] at h
    split at h
    · rename_i ch hi
      simp only [Option.map_eq_some_iff, Prod.mk.injEq, Prod.exists] at h
      obtain ⟨p, q, h1, rfl, rfl⟩ := h
      obtain ⟨hlt, hch⟩ := List.getElem?_eq_some_iff.1 hi
      have h2 : H.Perm (ch :: H.eraseIdx i) := by
        rw [← hch, List.eraseIdx_eq_take_drop_succ]
        have h3 : H = H.take i ++ H[i] :: H.drop (i + 1) := by rw [List.getElem_cons_drop, List.take_append_drop]
        exact (h3 ▸ List.perm_middle : H.Perm (H[i] :: (H.take i ++ H.drop (i + 1))))
      exact h2.trans (List.Perm.cons _ (pick_perm h1))
    · cases h
end
end Go.Vc
