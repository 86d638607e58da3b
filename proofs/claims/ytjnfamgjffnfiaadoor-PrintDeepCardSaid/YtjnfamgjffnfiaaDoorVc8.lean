import Derived.Test.YtjnfamgjffnfiaaDoorVc7
namespace Go.Vc
open Go.RowKit

def CLe (c c' : C) : Prop := ∀ w A v, Rd1 w A c v → Rd1 w A c' v
def RowLe (r r' : List C) : Prop := ∀ w A vs, RdRow w A r vs → RdRow w A r' vs
theorem CLe.refl (c : C) : CLe c c := fun _ _ _ h => h
theorem CLe.ex {ι : Type} (f : ι → C) (i : ι) : CLe (f i) (.ex f) := fun _ _ _ h => ⟨i, h⟩
theorem CLe.any (c : C) : CLe c .any := fun _ _ _ h => rd1_one c _ h
theorem CLe.nil : CLe (.val (.slice none 0 0)) (.list []) := fun _ _ _ h => ⟨none, 0, h.1, Nat.le_refl _, Nat.zero_le _, .inl rfl⟩
theorem CLe.eq {c c' : C} (h : c = c') : CLe c c' := fun _ _ _ hh => h ▸ hh
theorem RowLe.refl (r : List C) : RowLe r r := fun _ _ _ h => h
theorem RowLe.nil : RowLe [] [] := RowLe.refl _
theorem RowLe.cons {c c' : C} {r r' : List C} (h : CLe c c') (hr : RowLe r r') : RowLe (c :: r) (c' :: r') :=
  fun w A _ ⟨v, q, e, h1, h2⟩ => ⟨v, q, e, h w A v h1, hr w A q h2⟩

/-- From 'some of a family' to 'each of them'. -/
theorem con_exP {P : Program} [Gl P] {f : FuncId} {ss : List S} {Hin Hout : List Ch} {ι : Type} {p : ι → Prop} {g : ι → S} (h : Con P f ss Hin (fun K => K (.ex (fun i : {x // p x} => g i.1)) Hout)) : Con P f ss Hin (fun K => ∀ i, p i → K (g i) Hout) := by
  intro vs w A h1 h2 h3 h4 h5 h6
  refine (h vs w A h1 h2 h3 h4 h5 h6).mono ?_
  rintro e w' ⟨v, s, Ho, he, hK, hs, hrest⟩
  obtain ⟨rfl, rfl⟩ := hK (fun s' H' => s' = .ex (fun i : {x // p x} => g i.1) ∧ H' = Hout) ⟨rfl, rfl⟩
  obtain ⟨i, hi⟩ := hs
  exact ⟨v, g i.1, _, he, fun K hK' => hK' i.1 i.2, hi, hrest⟩

section own
variable {P : Program} [Gl P] {nt : Nat} {c : Cx P nt} {env : Env} {H : List Ch} {K : S → List Ch → Prop}
variable {d : Option Tmp} {ty t t' : TypeId} {pos : String} {af : Array Edge} {g : Option (Nat × Bool)} {x y : Operand}
/-- An element of a slice of one's own. -/
theorem ow_indexOwn [SL P t] {v : Value} {e : TypeId} {k : Nat} {rows : List (List C)} {Hr : List Ch} {m : Int} (j : Nat) (hx : env.ev x = some (.cell (.val v))) (hp : pick [j] H = some ([.own v e k rows], Hr)) (hy : env.ev y = some (In .i64 m)) (h0 : 0 ≤ m) (hlt : m.toNat < rows.length)
    (hz : (TI.i P (SL.e P t)).size = k) (hK : K (.cell (.inn v (m.toNat * k))) H) : OpWp c ⟨d, .indexAddr t x y, ty, pos, af, g⟩ env H K :=
  ow_val (fun a w h => by
    obtain ⟨vs, ho, _, _⟩ := h.heap.ok (.own v e k rows) ((pick_perm hp).mem_iff.2 (by simp))
    rcases ho.2 with ⟨rfl, h0⟩ | ⟨b, cap, cur, rfl, _, _⟩
    · omega
    · refine ⟨.pointer (some ⟨b, m.toNat * k, none⟩), ?_, b, rows.length, cap, rfl, rfl⟩
      have : 0 ≤ m ∧ m < ↑rows.length := ⟨h0, by omega⟩
      simp [execOp, ev_val h hx, ev_val h hy, Instr.indexAt, asIntOf, run_elem t, this, run_sizeOf, add_at, hz]) hK
theorem rdRows_cell {w : World} {A : Nat → Prop} {k : Nat} {rows : List (List C)} {vs : List Value} {i o : Nat} {row : List C} {e : C} (h : RdRows w A k rows vs) (hi : rows[i]? = some row) (he : row[o]? = some e) : ∃ v, vs[i * k + o]? = some v ∧ Rd1 w A e v := by
  induction rows generalizing vs i with
  | nil => simp at hi
  | cons r0 rows ih =>
    obtain ⟨c0, r, rfl, h1, h2, h3⟩ := h
    cases i with
    | zero =>
      simp only [List.getElem?_cons_zero, Option.some.injEq] at hi
      subst hi
      obtain ⟨v, hv, hr⟩ := rdRow_get h2 he
      refine ⟨v, ?_, hr⟩
      rw [Nat.zero_mul, Nat.zero_add, List.getElem?_append_left (List.getElem?_eq_some_iff.1 hv).1]
      exact hv
    | succ i =>
      obtain ⟨v, hv, hr⟩ := ih h3 (by simpa using hi)
      refine ⟨v, ?_, hr⟩
      rw [List.getElem?_append_right (by rw [Nat.add_mul]; omega)]
      rw [show (i + 1) * k + o - c0.length = i * k + o by rw [Nat.add_mul]; omega]
      exact hv
theorem ow_loadInn [TI P t] {v : Value} {e : TypeId} {k off : Nat} {rows : List (List C)} {Hr : List Ch} {row : List C} {e1 : C} (j i o : Nat) (ha : aggB (TI.u P t) = false) (hx : env.ev x = some (.cell (.inn v off))) (hp : pick [j] H = some ([.own v e k rows], Hr)) (hoff : off = i * k + o)
    (hi : rows[i]? = some row) (he : row[o]? = some e1) (hK : K (.cell e1) H) : OpWp c ⟨d, .load t x, ty, pos, af, g⟩ env H K :=
  ow_val (fun a w h => by
    obtain ⟨b, n, cap, hv, hxe⟩ := ev_ok h hx
    subst hv
    obtain ⟨vs, ho, hr, hk⟩ := h.heap.ok (.own (.slice (some ⟨b, 0, none⟩) n cap) e k rows) ((pick_perm hp).mem_iff.2 (by simp))
    obtain ⟨u, hu, hrd⟩ := rdRows_cell hr hi he
    refine ⟨u, ?_, hrd⟩
    have hcell := ho.cells (g := b) rfl (i * k + o) u hu
    rw [add_at, ← hoff, Nat.zero_add] at hcell
    simp only [execOp, hxe, Instr.loadAt, Instr.sureAddr, Sem.run_bind, Sem.run_pure, Result.andThen_ok, run_loadVar1 t ha hcell]) hK
/-- .. where elements are of one cell. -/
theorem ow_loadInn1 [TI P t] {v : Value} {e : TypeId} {off : Nat} {α : Type} {f : α → List C} {l : List α} {Hr : List Ch} {e1 : C} (j : Nat) (ha : aggB (TI.u P t) = false) (hx : env.ev x = some (.cell (.inn v off))) (hp : pick [j] H = some ([.own v e 1 (l.map f)], Hr))
    (hlt : off < l.length) (he : f l[off] = [e1]) (hK : K (.cell e1) H) : OpWp c ⟨d, .load t x, ty, pos, af, g⟩ env H K :=
  ow_loadInn (row := [e1]) j off 0 ha hx hp (by omega) (by simp [hlt, he]) rfl hK
end own

section
variable {P : Program} [Gl P] {nt : Nat} {c : Cx P nt} {env : Env} {H : List Ch}

/-- Another account of a block of one's own: true whenever the first is. -/
theorem st_row {a : Act} {w : World} {j : Nat} {b : Nat} {t : TypeId} {row row' : List C} {Hr : List Ch} (h : St c env H a w) (hp : pick [j] H = some ([.blk b t row], Hr))
    (hnew : Ch.ok w (c.av H) (.blk b t row')) : St c env (.blk b t row' :: Hr) a w := by
  have h1 := h.perm (pick_perm hp)
  have hav : c.av (.blk b t row :: Hr) = c.av H := av_perm c (pick_perm hp)
  have hav' : c.av (.blk b t row' :: Hr) = c.av H := by rw [← hav]; rfl
  refine ⟨h.size, h.defers, fun i s hi => by rw [hav']; exact h.slots i s hi, h.heap.os, h.heap.tape, h.heap.output, h.heap.size, h.heap.block, ?_, h1.heap.nodup, h1.heap.mine, by rw [hav']; exact h.heap.gl⟩
  intro ch hch
  rw [hav']
  rcases List.mem_cons.1 hch with rfl | hch
  · exact hnew
  · rw [← hav]
    exact h1.heap.ok ch (List.mem_cons_of_mem _ hch)

theorem jc_row {Q : Exit → Act → World → Prop} {code : Code} {b : Nat} {t : TypeId} {row : List C} {Hr : List Ch} (j : Nat) (row' : List C) (hp : pick [j] H = some ([.blk b t row], Hr)) (hle : RowLe row row')
    (h : JC c code Q env (.blk b t row' :: Hr)) : JC c code Q env H := fun a w hs => h a w (st_row hs hp (let ⟨cs, g1, g2⟩ := blk_ok hs hp; ⟨cs, g1, hle w _ cs g2⟩))
theorem jl_row {ops : Array Oper} {l : List Oper} {Q : Exit → Act → World → Prop} {b : Nat} {t : TypeId} {row : List C} {Hr : List Ch} (j : Nat) (row' : List C) (hp : pick [j] H = some ([.blk b t row], Hr)) (hle : RowLe row row')
    (h : JL c ops Q l env (.blk b t row' :: Hr)) : JL c ops Q l env H := fun a w hs => h a w (st_row hs hp (let ⟨cs, g1, g2⟩ := blk_ok hs hp; ⟨cs, g1, hle w _ cs g2⟩))
theorem jq_row {Q : Exit → Act → World → Prop} {ex : Exit} {b : Nat} {t : TypeId} {row : List C} {Hr : List Ch} (j : Nat) (row' : List C) (hp : pick [j] H = some ([.blk b t row], Hr)) (hle : RowLe row row')
    (h : JQ c Q ex env (.blk b t row' :: Hr)) : JQ c Q ex env H := fun a w hs => h a w (st_row hs hp (let ⟨cs, g1, g2⟩ := blk_ok hs hp; ⟨cs, g1, hle w _ cs g2⟩))

/-- What is some of a family is one of it. -/
def RowEx {ι : Type} (row : List C) (r : ι → List C) : Prop := ∀ w A vs, RdRow w A row vs → ∃ i, RdRow w A (r i) vs
theorem RowEx.here {ι : Type} {f : ι → C} {q : List C} : RowEx (.ex f :: q) (fun i => f i :: q) := fun _ _ _ ⟨v, r, e, ⟨i, h⟩, hr⟩ => ⟨i, v, r, e, h, hr⟩
theorem RowEx.there {ι : Type} {c0 : C} {q : List C} {r : ι → List C} (h : RowEx q r) : RowEx (c0 :: q) (fun i => c0 :: r i) := fun w A _ ⟨v, s, e, h1, hr⟩ => let ⟨i, hi⟩ := h w A s hr; ⟨i, v, s, e, h1, hi⟩

theorem st_open {ι : Type} {a : Act} {w : World} {j : Nat} {b : Nat} {t : TypeId} {row : List C} {r : ι → List C} {Hr : List Ch} (h : St c env H a w) (hp : pick [j] H = some ([.blk b t row], Hr)) (hx : RowEx row r) : ∃ i, St c env (.blk b t (r i) :: Hr) a w := by
  obtain ⟨cs, g1, g2⟩ := blk_ok h hp
  obtain ⟨i, hi⟩ := hx w _ cs g2
  exact ⟨i, st_row h hp ⟨cs, g1, hi⟩⟩
theorem jc_open {ι : Type} {Q : Exit → Act → World → Prop} {code : Code} {b : Nat} {t : TypeId} {row : List C} {r : ι → List C} {Hr : List Ch} (j : Nat) (hp : pick [j] H = some ([.blk b t row], Hr)) (hx : RowEx row r)
    (h : ∀ i, JC c code Q env (.blk b t (r i) :: Hr)) : JC c code Q env H := fun a w hs => let ⟨i, hi⟩ := st_open hs hp hx; h i a w hi
theorem jl_open {ι : Type} {ops : Array Oper} {l : List Oper} {Q : Exit → Act → World → Prop} {b : Nat} {t : TypeId} {row : List C} {r : ι → List C} {Hr : List Ch} (j : Nat) (hp : pick [j] H = some ([.blk b t row], Hr)) (hx : RowEx row r)
    (h : ∀ i, JL c ops Q l env (.blk b t (r i) :: Hr)) : JL c ops Q l env H := fun a w hs => let ⟨i, hi⟩ := st_open hs hp hx; h i a w hi
theorem jq_open {ι : Type} {ex : Exit} {Q : Exit → Act → World → Prop} {b : Nat} {t : TypeId} {row : List C} {r : ι → List C} {Hr : List Ch} (j : Nat) (hp : pick [j] H = some ([.blk b t row], Hr)) (hx : RowEx row r)
    (h : ∀ i, JQ c Q ex env (.blk b t (r i) :: Hr)) : JQ c Q ex env H := fun a w hs => let ⟨i, hi⟩ := st_open hs hp hx; h i a w hi

/-- Slots: what is some of a family is one of it. -/
theorem st_slot {ι : Type} {a : Act} {w : World} {t : Nat} {f : ι → S} (h : St c env H a w) (hl : env.lookup t = some (.ex f)) : ∃ i, St c ((t, f i) :: env) H a w := by
  obtain ⟨i, hi⟩ := h.slots t _ hl
  refine ⟨i, h.size, h.defers, ?_, h.heap⟩
  intro u s hu
  rcases lookup_cons hu with ⟨rfl, rfl⟩ | ⟨_, hu⟩
  · exact hi
  · exact h.slots u s hu
theorem jc_slot {ι : Type} {Q : Exit → Act → World → Prop} {code : Code} {f : ι → S} (t : Nat) (hl : env.lookup t = some (.ex f)) (h : ∀ i, JC c code Q ((t, f i) :: env) H) : JC c code Q env H :=
  fun a w hs => let ⟨i, hi⟩ := st_slot hs hl; h i a w hi
theorem jl_slot {ι : Type} {ops : Array Oper} {l : List Oper} {Q : Exit → Act → World → Prop} {f : ι → S} (t : Nat) (hl : env.lookup t = some (.ex f)) (h : ∀ i, JL c ops Q l ((t, f i) :: env) H) : JL c ops Q l env H :=
  fun a w hs => let ⟨i, hi⟩ := st_slot hs hl; h i a w hi
/-- .. also where the family is one of cells. -/
theorem st_slotC {ι : Type} {a : Act} {w : World} {t : Nat} {f : ι → C} (h : St c env H a w) (hl : env.lookup t = some (.cell (.ex f))) : ∃ i, St c ((t, .cell (f i)) :: env) H a w := by
  obtain ⟨i, hi⟩ := h.slots t _ hl
  refine ⟨i, h.size, h.defers, ?_, h.heap⟩
  intro u s hu
  rcases lookup_cons hu with ⟨rfl, rfl⟩ | ⟨_, hu⟩
  · exact hi
  · exact h.slots u s hu
theorem jc_slotC {ι : Type} {Q : Exit → Act → World → Prop} {code : Code} {f : ι → C} (t : Nat) (hl : env.lookup t = some (.cell (.ex f))) (h : ∀ i, JC c code Q ((t, .cell (f i)) :: env) H) : JC c code Q env H :=
  fun a w hs => let ⟨i, hi⟩ := st_slotC hs hl; h i a w hi
theorem jl_slotC {ι : Type} {ops : Array Oper} {l : List Oper} {Q : Exit → Act → World → Prop} {f : ι → C} (t : Nat) (hl : env.lookup t = some (.cell (.ex f))) (h : ∀ i, JL c ops Q l ((t, .cell (f i)) :: env) H) : JL c ops Q l env H :=
  fun a w hs => let ⟨i, hi⟩ := st_slotC hs hl; h i a w hi

/-- A weaker account of a slot. -/
def SLe (s s' : S) : Prop := ∀ w A v, SOk w A s v → SOk w A s' v
theorem SLe.ex {ι : Type} (f : ι → S) (i : ι) : SLe (f i) (.ex f) := fun _ _ _ h => ⟨i, h⟩
theorem SLe.exC {ι : Type} (f : ι → C) (i : ι) : SLe (.cell (f i)) (.cell (.ex f)) := fun _ _ _ h => ⟨i, h⟩
theorem SLe.row {r r' : List C} (h : RowLe r r') : SLe (.row r) (.row r') := fun w A _ ⟨cs, e, hr⟩ => ⟨cs, e, h w A _ hr⟩
theorem st_sle {a : Act} {w : World} {t : Nat} {s s' : S} (h : St c env H a w) (hl : env.lookup t = some s) (hs : SLe s s') : St c ((t, s') :: env) H a w := by
  refine ⟨h.size, h.defers, ?_, h.heap⟩
  intro u s hu
  rcases lookup_cons hu with ⟨rfl, rfl⟩ | ⟨_, hu⟩
  · exact hs _ _ _ (h.slots u _ hl)
  · exact h.slots u s hu
theorem jq_sle {Q : Exit → Act → World → Prop} {ex : Exit} {s s' : S} (t : Nat) (hl : env.lookup t = some s) (hs : SLe s s') (h : JQ c Q ex ((t, s') :: env) H) : JQ c Q ex env H :=
  fun a w hst => h a w (st_sle hst hl hs)
theorem jc_sle {Q : Exit → Act → World → Prop} {code : Code} {s s' : S} (t : Nat) (hl : env.lookup t = some s) (hs : SLe s s') (h : JC c code Q ((t, s') :: env) H) : JC c code Q env H :=
  fun a w hst => h a w (st_sle hst hl hs)
theorem jl_sle {ops : Array Oper} {l : List Oper} {Q : Exit → Act → World → Prop} {s s' : S} (t : Nat) (hl : env.lookup t = some s) (hs : SLe s s') (h : JL c ops Q l ((t, s') :: env) H) : JL c ops Q l env H :=
  fun a w hst => h a w (st_sle hst hl hs)
end
end Go.Vc
