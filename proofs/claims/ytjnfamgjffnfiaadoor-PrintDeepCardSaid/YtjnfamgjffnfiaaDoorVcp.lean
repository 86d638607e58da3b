import Derived.Test.YtjnfamgjffnfiaaDoorVco
namespace Go.Vc
open Go.RowKit

section
variable {P : Program} [Gl P] {nt : Nat} {c : Cx P nt} {env : Env} {H : List Ch} {K : S → List Ch → Prop}
variable {d : Option Tmp} {ty t t' : TypeId} {pos : String} {af : Array Edge} {g : Option (Nat × Bool)} {x y : Operand}
/-- An element of an array, by its address. -/
theorem ow_indexArr {b o n : Nat} {e : TypeId} {m : Int} [TI P t] [TI P e] (hu : TI.u P t = .array n e) (hx : env.ev x = some (.cell (.val (.pointer (some ⟨b, o, none⟩))))) (hy : env.ev y = some (In .i64 m)) (h0 : 0 ≤ m) (hlt : m < (n : Int))
    (hK : K (.cell (.val (.pointer (some ⟨b, o + m.toNat * (TI.i P e).size, none⟩)))) H) : OpWp c ⟨d, .indexAddr t x y, ty, pos, af, g⟩ env H K :=
  ow_valx rfl (fun a w h => by
    have hu' : (underlying t).run P w = .ok (.array n e) w := by rw [run_underlying (TI.hu (P := P) (t := t)), hu]
    simp [execOp, ev_val h hx, ev_val h hy, Instr.indexAt, asIntOf, hu', Instr.sureAddr, h0, hlt, run_sizeOf, add_at]) hK
theorem rdRows_flat {w : World} {A : Nat → Prop} {k : Nat} : ∀ {rows : List (List C)} {vs : List Value}, RdRows w A k rows vs → RdRow w A rows.flatten vs
  | [], _, h => h
  | _ :: _, _, ⟨x, r, e, _, g1, g2⟩ => by subst e; exact rdRow_append g1 (rdRows_flat g2)
/-- An array that is written out, all its elements in order. -/
theorem ow_buildArr {n : Nat} {e : TypeId} [TI P t] [TI P e] (hu : TI.u P t = .array n e) {z : Value} (hz : (TI.i P t).zero = some z) {ps : Array (Nat × Operand)} {ss : List (Nat × S)} (hp : env.parts ps.toList = some ss) {rows : List (List C)}
    (hs : sliceRows (TI.i P e).size 0 ss = some rows) (hl : z.cells.toList.length = rows.length * (TI.i P e).size) (hK : K (.row rows.flatten) H) : OpWp c ⟨d, .build t ps, ty, pos, af, g⟩ env H K :=
  ow_val (s := .row rows.flatten) (fun a w h => by
    obtain ⟨cs, g1, g2⟩ := fill_rows (pre := []) (post := z.cells.toList) (parts_ok h hp) hs (by simp) hl
    refine ⟨.agg cs.toArray, ?_, cs.toArray, rfl, by simpa using rdRows_flat g2⟩
    simp only [List.nil_append, Array.toArray_toList] at g1
    have hu' : (underlying t).run P w = .ok (.array n e) w := by rw [run_underlying (TI.hu (P := P) (t := t)), hu]
    simp only [execOp, Instr.build, Sem.run_bind, run_zeroValue t hz, hu', run_sizeOf, Result.andThen_ok, Array.toList_map, g1, Sem.run_pure]) hK
/-- A package variable that reads so. -/
def GV (w : World) (A : Nat → Prop) (b : Nat) (row : List C) : Prop := ¬ A b ∧ ∃ cs t f, w.heap[b]? = some (.cells cs t f) ∧ RdRow w A row cs.toList
theorem GV.up {w w' : World} {A A' : Nat → Prop} {b : Nat} {row : List C} (hu : Up A w w') (hA : ∀ b, A' b → A b ∨ w.heap.size ≤ b) (h : GV w A b row) : GV w' A' b row := by
  obtain ⟨h1, cs, t, f, h2, h3⟩ := h
  have hlt : b < w.heap.size := (Array.getElem?_eq_some_iff.1 h2).1
  exact ⟨fun h => (hA b h).elim h1 (by omega), cs, t, f, by rw [hu.block b hlt h1]; exact h2, rdRow_up hu hA _ _ h3⟩
theorem ow_loadG [TI P t] {b o : Nat} {row : List C} {e : C} (hg : ∀ w A, Gl.ok P w A → GV w A b row) (ha : aggB (TI.u P t) = false) (hx : env.ev x = some (.cell (.val (.pointer (some ⟨b, o, none⟩))))) (he : row[o]? = some e) (hK : K (.cell e) H) : OpWp c ⟨d, .load t x, ty, pos, af, g⟩ env H K :=
  ow_val (fun a w h => by
    obtain ⟨_, cs, bt, f, hh, hr⟩ := hg _ _ h.heap.gl
    obtain ⟨v, hv, hrd⟩ := rdRow_get hr he
    refine ⟨v, ?_, hrd⟩
    simp only [execOp, ev_val h hx, Instr.loadAt, Instr.sureAddr, Sem.run_bind, Sem.run_pure, Result.andThen_ok, run_loadVar1 t ha (show w.cell? ⟨b, o, none⟩ = some v by simp [World.cell?, hh]; simpa using hv)]) hK
end
end Go.Vc
