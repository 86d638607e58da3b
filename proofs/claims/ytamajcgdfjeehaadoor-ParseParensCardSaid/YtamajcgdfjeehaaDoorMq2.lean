import Derived.Test.YtamajcgdfjeehaaDoorMq1
import Derived.Lib.SliceRun
import Derived.Laws.OwnMore
import Derived.Laws.StructEq
import Derived.OrdersHeld
import Derived.Test.YtamajcgdfjeehaaDoorProg
import Derived.KernelRfl
import Derived.Recover
section
namespace Go.Vc

section
variable {α : Type} (key : α → Int)
end
end Go.Vc
end

section
namespace Go.Vc
open Go.RowKit

section
variable {P : Program} [Gl P] {nt : Nat} {c : Cx P nt} {env : Env} {H : List Ch} {K : S → List Ch → Prop}
variable {d : Option Tmp} {ty t t' : TypeId} {pos : String} {af : Array Edge} {g : Option (Nat × Bool)} {x y : Operand}

end
end Go.Vc
end

section
namespace Go.Vc
open Go.RowKit

section
variable {P : Program} [Gl P] {nt : Nat} {c : Cx P nt} {env : Env} {H : List Ch} {K : S → List Ch → Prop}
variable {d : Option Tmp} {ty t t' : TypeId} {pos : String} {af : Array Edge} {g : Option (Nat × Bool)} {x y : Operand}

end
end Go.Vc
end

section
namespace Go.Vc
open Go.RowKit

def Keep (L : List (Nat × List Value × TypeId)) (w : World) : Prop := ∀ p ∈ L, w.heap[p.1]? = some (.cells p.2.1.toArray p.2.2 (0, 0))
theorem rdRow_vals {w : World} {A : Nat → Prop} : ∀ {vs cs : List Value}, RdRow w A (vs.map C.val) cs → cs = vs
  | [], _, h => h
  | v :: vs, _, h => by
    obtain ⟨x, r, rfl, g1, g2⟩ := h
    rw [g1.1, rdRow_vals g2]
theorem rdRow_exact {w w' : World} {A A' : Nat → Prop} {row : List C} {cs : List Value} (h : RdRow w A row cs) : RdRow w' A' (cs.map C.val) cs := by
  have h1 := rdRow_one h
  clear h
  induction cs with
  | nil => rfl
  | cons v vs ih => exact ⟨v, vs, rfl, ⟨rfl, h1 v (by simp)⟩, ih (fun u hu => h1 u (by simp [hu]))⟩

section
variable {P : Program} [Gl P] {nt : Nat} {c : Cx P nt} {env : Env} {H Hr : List Ch} {ops : Array Oper} {Q : Exit → Act → World → Prop} {Sw : World → Prop} {L : List (Nat × List Value × TypeId)}
variable {fuel : Nat} {listed : Array Bool} {d ty t t' : TypeId} {pos : String} {af : Array Edge} {x y : Operand}

def HOk (c : Cx P nt) (Sw : World → Prop) (env : Env) (H : List Ch) (o : Oper) (s : S) : Prop :=
  ∀ a w, St c env H a w → Sw w → ∃ v, (∀ w', Sw w' → (execOp a.eval o).run P w' = .ok (.value v) w') ∧ SOk w (c.av H) s v

/-- What stands in H still stands. -/
theorem keep_of (h : ∀ p ∈ L, Ch.blk p.1 p.2.2 (p.2.1.map C.val) ∈ H) : ∀ w, StW c H w → Keep L w := by
  intro w hw p hp
  obtain ⟨cs, g1, g2⟩ := hw.ok _ (h p hp)
  rw [rdRow_vals g2] at g1
  exact g1
theorem hok_fieldAddr {d : Option Tmp} {b o f off size : Nat} [TI P t] [TS P t] (hs : structB (TI.u P t) = true) (hx : env.ev x = some (.cell (.val (.pointer (some ⟨b, o, none⟩))))) (hf : (TS.pl P t)[f]? = some (off, size)) (hz : 0 < size) :
    HOk c Sw env H ⟨d, .fieldAddr t x f, ty, pos, af, none⟩ (.cell (.val (.pointer (some ⟨b, o + off, none⟩)))) :=
  fun _ _ hst _ => ⟨.pointer (some ⟨b, o + off, none⟩), fun _ _ => by simp only [execOp, ev_val hst hx, Sem.run_bind, run_fieldAt t hs hf hz, Result.andThen_ok, Sem.run_pure], rfl, rfl⟩
theorem blk_keep {a : Act} {w : World} {b : Nat} {bt : TypeId} {row : List C} {cs : List Value} {is : List Nat} (hst : St c env H a w) (hp : pick is H = some ([.blk b bt row], Hr)) (hS : Keep L w) (hm : (b, cs, bt) ∈ L) : RdRow w (c.av H) row cs := by
  obtain ⟨cs', g1, g2⟩ := blk_ok hst hp
  have g3 := hS _ hm
  dsimp only at g3
  rw [g1] at g3
  obtain rfl : cs' = cs := by simpa using g3
  exact g2
theorem hok_load {d : Option Tmp} {b o : Nat} {row : List C} {e : C} {bt : TypeId} {cs : List Value} [TI P t] (j : Nat) (ha : aggB (TI.u P t) = false) (hx : env.ev x = some (.cell (.val (.pointer (some ⟨b, o, none⟩))))) (hp : pick [j] H = some ([.blk b bt row], Hr))
    (hm : (b, cs, bt) ∈ L) (he : row[o]? = some e) : HOk c (Keep L) env H ⟨d, .load t x, ty, pos, af, none⟩ (.cell e) :=
  fun _ _ hst hS => by
    obtain ⟨v, hv, hrd⟩ := rdRow_get (blk_keep hst hp hS hm) he
    refine ⟨v, fun w' hS' => ?_, hrd⟩
    have hh := hS' _ hm
    simp only [execOp, ev_val hst hx, Instr.loadAt, Instr.sureAddr, Sem.run_bind, Sem.run_pure, Result.andThen_ok, run_loadVar1 t ha (show w'.cell? ⟨b, o, none⟩ = some v by simp [World.cell?, hh, hv])]
end
end Go.Vc
end

section
namespace Go.Vc
open Go.RowKit

section
variable {P : Program} [Gl P] {nt : Nat} {c : Cx P nt} {env : Env} {H : List Ch}
end
end Go.Vc
end

section
namespace Go.Vc
open Go.RowKit

section
variable {P : Program} [Gl P] {nt : Nat} {c : Cx P nt} {env : Env} {H : List Ch} {K : S → List Ch → Prop}
variable {d : Option Tmp} {ty t t' : TypeId} {pos : String} {af : Array Edge} {g : Option (Nat × Bool)} {x y : Operand}
/-- An element of an array, by its address. -/
theorem ow_indexArr {b o n : Nat} {e : TypeId} {m : Int} [TI P t] [TI P e] (hu : TI.u P t = .array n e) (hx : env.ev x = some (.cell (.val (.pointer (some ⟨b, o, none⟩))))) (hy : env.ev y = some (In .i64 m)) (h0 : 0 ≤ m) (hlt : m < (n : Int))
    (hK : K (.cell (.val (.pointer (some ⟨b, o + m.toNat * (TI.i P e).size, none⟩)))) H) : OpWp c ⟨d, .indexAddr t x y, ty, pos, af, g⟩ env H K :=
  ow_valx rfl (fun a w h => by
    have hu' : (underlying t).run P w = .ok (.array n e) w := by rw [run_underlying (TI.hu (P := P) (t := t)), hu]
    simp [execOp, ev_val h hx, ev_val h hy, Instr.indexAt, asIntOf, hu', Instr.sureAddr, h0, hlt, run_sizeOf, add_at]) hK
theorem rdRows_flat {w : World} {A : Nat → Prop} {k : Nat} : ∀ {rows : List (List C)} {vs : List Value}, RdRows w A k rows vs → RdRow w A rows.flatten vs
  | [], _, h => h
  | _ :: _, _, ⟨x, r, e, _, g1, g2⟩ => by subst e; exact rdRow_append g1 (rdRows_flat g2)
/-- An array that is written out, all its elements in order. -/
theorem ow_buildArr {n : Nat} {e : TypeId} [TI P t] [TI P e] (hu : TI.u P t = .array n e) {z : Value} (hz : (TI.i P t).zero = some z) {ps : Array (Nat × Operand)} {ss : List (Nat × S)} (hp : env.parts ps.toList = some ss) {rows : List (List C)}
    (hs : sliceRows (TI.i P e).size 0 ss = some rows) (hl : z.cells.toList.length = rows.length * (TI.i P e).size) (hK : K (.row rows.flatten) H) : OpWp c ⟨d, .build t ps, ty, pos, af, g⟩ env H K :=
  ow_val (s := .row rows.flatten) (fun a w h => by
    obtain ⟨cs, g1, g2⟩ := fill_rows (pre := []) (post := z.cells.toList) (parts_ok h hp) hs (by simp) hl
    refine ⟨.agg cs.toArray, ?_, cs.toArray, rfl, by simpa using rdRows_flat g2⟩
    simp only [List.nil_append, Array.toArray_toList] at g1
    have hu' : (underlying t).run P w = .ok (.array n e) w := by rw [run_underlying (TI.hu (P := P) (t := t)), hu]
    simp only [execOp, Instr.build, Sem.run_bind, run_zeroValue t hz, hu', run_sizeOf, Result.andThen_ok, Array.toList_map, g1, Sem.run_pure]) hK
/-- A package variable that reads so. -/
def GV (w : World) (A : Nat → Prop) (b : Nat) (row : List C) : Prop := ¬ A b ∧ ∃ cs t f, w.heap[b]? = some (.cells cs t f) ∧ RdRow w A row cs.toList
theorem GV.up {w w' : World} {A A' : Nat → Prop} {b : Nat} {row : List C} (hu : Up A w w') (hA : ∀ b, A' b → A b ∨ w.heap.size ≤ b) (h : GV w A b row) : GV w' A' b row := by
  obtain ⟨h1, cs, t, f, h2, h3⟩ := h
  have hlt : b < w.heap.size := (Array.getElem?_eq_some_iff.1 h2).1
  exact ⟨fun h => (hA b h).elim h1 (by omega), cs, t, f, by rw [hu.block b hlt h1]; exact h2, rdRow_up hu hA _ _ h3⟩
theorem ow_loadG [TI P t] {b o : Nat} {row : List C} {e : C} (hg : ∀ w A, Gl.ok P w A → GV w A b row) (ha : aggB (TI.u P t) = false) (hx : env.ev x = some (.cell (.val (.pointer (some ⟨b, o, none⟩))))) (he : row[o]? = some e) (hK : K (.cell e) H) : OpWp c ⟨d, .load t x, ty, pos, af, g⟩ env H K :=
  ow_val (fun a w h => by
    obtain ⟨_, cs, bt, f, hh, hr⟩ := hg _ _ h.heap.gl
    obtain ⟨v, hv, hrd⟩ := rdRow_get hr he
    refine ⟨v, ?_, hrd⟩
    simp only [execOp, ev_val h hx, Instr.loadAt, Instr.sureAddr, Sem.run_bind, Sem.run_pure, Result.andThen_ok, run_loadVar1 t ha (show w.cell? ⟨b, o, none⟩ = some v by simp [World.cell?, hh]; simpa using hv)]) hK
end
end Go.Vc
end

section
namespace Go.Proofs.YtamajcgdfjeehaaDoor
open Go.Vc

def words : List ByteArray := [⟨#[114, 101, 115, 111, 117, 114, 99, 101]⟩, ⟨#[115, 104, 97, 114, 101, 100]⟩, ⟨#[116, 97, 115, 107]⟩, ⟨#[112, 101, 114, 105, 111, 100]⟩, ⟨#[100, 101, 97, 100, 108, 105, 110, 101]⟩, ⟨#[112, 114, 105, 111, 114, 105, 116, 121]⟩, ⟨#[106, 105, 116, 116, 101, 114]⟩, ⟨#[105, 110, 112, 117, 116]⟩, ⟨#[118, 97, 114]⟩, ⟨#[97, 114, 114, 97, 121]⟩, ⟨#[109, 111, 100, 101]⟩, ⟨#[110, 101, 118, 101, 114]⟩, ⟨#[98, 111, 100, 121]⟩, ⟨#[101, 110, 100]⟩, ⟨#[105, 102]⟩, ⟨#[108, 97, 98, 101, 108]⟩, ⟨#[101, 108, 115, 101]⟩, ⟨#[119, 104, 105, 108, 101]⟩, ⟨#[109, 97, 120]⟩, ⟨#[108, 111, 99, 107]⟩]
def signL : List ByteArray := [⟨#[43]⟩, ⟨#[45]⟩, ⟨#[42]⟩, ⟨#[47]⟩, ⟨#[37]⟩, ⟨#[38]⟩, ⟨#[124]⟩, ⟨#[94]⟩, ⟨#[60, 60]⟩, ⟨#[62, 62]⟩, ⟨#[60]⟩, ⟨#[60, 61]⟩, ⟨#[61, 61]⟩, ⟨#[33, 61]⟩]
def addL : List ByteArray := [⟨#[43]⟩, ⟨#[45]⟩, ⟨#[124]⟩, ⟨#[94]⟩]
def mulL : List ByteArray := [⟨#[42]⟩, ⟨#[47]⟩, ⟨#[37]⟩, ⟨#[38]⟩, ⟨#[60, 60]⟩, ⟨#[62, 62]⟩]
def cmpL : List ByteArray := [⟨#[60]⟩, ⟨#[60, 61]⟩, ⟨#[61, 61]⟩, ⟨#[33, 61]⟩]
abbrev Wrow (s : ByteArray) : List C := [.val (.string s)]
instance gl : Gl Tryd.prog where
  ok w A := GV w A 3 [.list (words.map Wrow)] ∧ GV w A 2 (signL.map (fun s => .val (.string s))) ∧ GV w A 1 [.list (addL.map Wrow), .list (mulL.map Wrow)] ∧ GV w A 0 [.list (cmpL.map Wrow)]
  up := fun hu hA ⟨h2, h3, h4, h5⟩ => ⟨h2.up hu hA, h3.up hu hA, h4.up hu hA, h5.up hu hA⟩
theorem gl_words (w : World) (A : Nat → Prop) (h : Gl.ok Tryd.prog w A) : GV w A 3 [.list (words.map Wrow)] := h.1
theorem gl_signs (w : World) (A : Nat → Prop) (h : Gl.ok Tryd.prog w A) : GV w A 2 (signL.map (fun s => .val (.string s))) := h.2.1
theorem gl_lines (w : World) (A : Nat → Prop) (h : Gl.ok Tryd.prog w A) : GV w A 1 [.list (addL.map Wrow), .list (mulL.map Wrow)] := h.2.2.1
theorem gl_cmps (w : World) (A : Nat → Prop) (h : Gl.ok Tryd.prog w A) : GV w A 0 [.list (cmpL.map Wrow)] := h.2.2.2
end Go.Proofs.YtamajcgdfjeehaaDoor
end

section
namespace Go.Proofs.YtamajcgdfjeehaaDoor
open Go.Vc

noncomputable instance ti3 : TI Tryd.prog 3 := ⟨_, Tryd.underlying3, Tryd.t3, by kernel_rfl⟩
noncomputable instance ti4 : TI Tryd.prog 4 := ⟨_, Tryd.underlying4, Tryd.t4, by kernel_rfl⟩
noncomputable instance ti5 : TI Tryd.prog 5 := ⟨_, Tryd.underlying5, Tryd.t5, by kernel_rfl⟩
noncomputable instance ti9 : TI Tryd.prog 9 := ⟨_, Tryd.underlying9, Tryd.t9, by kernel_rfl⟩
noncomputable instance ti23 : TI Tryd.prog 23 := ⟨_, Tryd.underlying23, Tryd.t23, by kernel_rfl⟩
noncomputable instance ti25 : TI Tryd.prog 25 := ⟨_, Tryd.underlying25, Tryd.t25, by kernel_rfl⟩
noncomputable instance ti27 : TI Tryd.prog 27 := ⟨_, Tryd.underlying27, Tryd.t27, by kernel_rfl⟩
noncomputable instance ti34 : TI Tryd.prog 34 := ⟨_, Tryd.underlying34, Tryd.t34, by kernel_rfl⟩
noncomputable instance ti36 : TI Tryd.prog 36 := ⟨_, Tryd.underlying36, Tryd.t36, by kernel_rfl⟩
noncomputable instance ti37 : TI Tryd.prog 37 := ⟨_, Tryd.underlying37, Tryd.t37, by kernel_rfl⟩
noncomputable instance ti38 : TI Tryd.prog 38 := ⟨_, Tryd.underlying38, Tryd.t38, by kernel_rfl⟩
noncomputable instance ti40 : TI Tryd.prog 40 := ⟨_, Tryd.underlying40, Tryd.t40, by kernel_rfl⟩
noncomputable instance ti42 : TI Tryd.prog 42 := ⟨_, Tryd.underlying42, Tryd.t42, by kernel_rfl⟩
noncomputable instance ti44 : TI Tryd.prog 44 := ⟨_, Tryd.underlying44, Tryd.t44, by kernel_rfl⟩
noncomputable instance ti45 : TI Tryd.prog 45 := ⟨_, Tryd.underlying45, Tryd.t45, by kernel_rfl⟩
noncomputable instance ti46 : TI Tryd.prog 46 := ⟨_, Tryd.underlying46, Tryd.t46, by kernel_rfl⟩
noncomputable instance ti47 : TI Tryd.prog 47 := ⟨_, Tryd.underlying47, Tryd.t47, by kernel_rfl⟩
noncomputable instance ti48 : TI Tryd.prog 48 := ⟨_, Tryd.underlying48, Tryd.t48, by kernel_rfl⟩
noncomputable instance ti50 : TI Tryd.prog 50 := ⟨_, Tryd.underlying50, Tryd.t50, by kernel_rfl⟩
noncomputable instance ti52 : TI Tryd.prog 52 := ⟨_, Tryd.underlying52, Tryd.t52, by kernel_rfl⟩
noncomputable instance ti69 : TI Tryd.prog 69 := ⟨_, Tryd.underlying69, Tryd.t69, by kernel_rfl⟩
noncomputable instance ti70 : TI Tryd.prog 70 := ⟨_, Tryd.underlying70, Tryd.t70, by kernel_rfl⟩
noncomputable instance ti72 : TI Tryd.prog 72 := ⟨_, Tryd.underlying72, Tryd.t72, by kernel_rfl⟩
noncomputable instance ti76 : TI Tryd.prog 76 := ⟨_, Tryd.underlying76, Tryd.t76, by kernel_rfl⟩
noncomputable instance ti85 : TI Tryd.prog 85 := ⟨_, Tryd.underlying85, Tryd.t85, by kernel_rfl⟩
noncomputable instance ti106 : TI Tryd.prog 106 := ⟨_, Tryd.underlying106, Tryd.t106, by kernel_rfl⟩
noncomputable instance ti108 : TI Tryd.prog 108 := ⟨_, Tryd.underlying108, Tryd.t108, by kernel_rfl⟩
noncomputable instance ti110 : TI Tryd.prog 110 := ⟨_, Tryd.underlying110, Tryd.t110, by kernel_rfl⟩
noncomputable instance ti120 : TI Tryd.prog 120 := ⟨_, Tryd.underlying120, Tryd.t120, by kernel_rfl⟩
noncomputable instance ti122 : TI Tryd.prog 122 := ⟨_, Tryd.underlying122, Tryd.t122, by kernel_rfl⟩
noncomputable instance ti124 : TI Tryd.prog 124 := ⟨_, Tryd.underlying124, Tryd.t124, by kernel_rfl⟩
noncomputable instance ti133 : TI Tryd.prog 133 := ⟨_, Tryd.underlying133, Tryd.t133, by kernel_rfl⟩
noncomputable instance ti138 : TI Tryd.prog 138 := ⟨_, Tryd.underlying138, Tryd.t138, by kernel_rfl⟩
noncomputable instance ti154 : TI Tryd.prog 154 := ⟨_, Tryd.underlying154, Tryd.t154, by kernel_rfl⟩
noncomputable instance ti158 : TI Tryd.prog 158 := ⟨_, Tryd.underlying158, Tryd.t158, by kernel_rfl⟩
noncomputable instance sl22 : SL Tryd.prog 22 := ⟨5, inferInstance, Tryd.underlying22⟩
noncomputable instance sl23 : SL Tryd.prog 23 := ⟨76, inferInstance, Tryd.underlying23⟩
noncomputable instance sl25 : SL Tryd.prog 25 := ⟨27, inferInstance, Tryd.underlying25⟩
noncomputable instance sl34 : SL Tryd.prog 34 := ⟨3, inferInstance, Tryd.underlying34⟩
noncomputable instance sl36 : SL Tryd.prog 36 := ⟨9, inferInstance, Tryd.underlying36⟩
noncomputable instance sl37 : SL Tryd.prog 37 := ⟨110, inferInstance, Tryd.underlying37⟩
noncomputable instance sl38 : SL Tryd.prog 38 := ⟨50, inferInstance, Tryd.underlying38⟩
noncomputable instance sl44 : SL Tryd.prog 44 := ⟨120, inferInstance, Tryd.underlying44⟩
noncomputable instance sl45 : SL Tryd.prog 45 := ⟨108, inferInstance, Tryd.underlying45⟩
noncomputable instance sl46 : SL Tryd.prog 46 := ⟨122, inferInstance, Tryd.underlying46⟩
noncomputable instance sl47 : SL Tryd.prog 47 := ⟨124, inferInstance, Tryd.underlying47⟩
noncomputable instance sl48 : SL Tryd.prog 48 := ⟨52, inferInstance, Tryd.underlying48⟩
instance fi9 : FI Tryd.prog 9 := ⟨fun args w => by kernel_rfl⟩
instance fi10 : FI Tryd.prog 10 := ⟨fun args w => by kernel_rfl⟩
instance fi13 : FI Tryd.prog 13 := ⟨fun args w => by kernel_rfl⟩
instance fi14 : FI Tryd.prog 14 := ⟨fun args w => by kernel_rfl⟩
instance fi15 : FI Tryd.prog 15 := ⟨fun args w => by kernel_rfl⟩
instance fi16 : FI Tryd.prog 16 := ⟨fun args w => by kernel_rfl⟩
instance fi17 : FI Tryd.prog 17 := ⟨fun args w => by kernel_rfl⟩
instance fi18 : FI Tryd.prog 18 := ⟨fun args w => by kernel_rfl⟩
instance fi21 : FI Tryd.prog 21 := ⟨fun args w => by kernel_rfl⟩
instance fi27 : FI Tryd.prog 27 := ⟨fun args w => by kernel_rfl⟩
instance fi28 : FI Tryd.prog 28 := ⟨fun args w => by kernel_rfl⟩
instance fi30 : FI Tryd.prog 30 := ⟨fun args w => by kernel_rfl⟩
instance fi31 : FI Tryd.prog 31 := ⟨fun args w => by kernel_rfl⟩
instance fi32 : FI Tryd.prog 32 := ⟨fun args w => by kernel_rfl⟩
instance fi33 : FI Tryd.prog 33 := ⟨fun args w => by kernel_rfl⟩
instance fi34 : FI Tryd.prog 34 := ⟨fun args w => by kernel_rfl⟩
instance fi35 : FI Tryd.prog 35 := ⟨fun args w => by kernel_rfl⟩
instance fi36 : FI Tryd.prog 36 := ⟨fun args w => by kernel_rfl⟩
instance fi47 : FI Tryd.prog 47 := ⟨fun args w => by kernel_rfl⟩
instance fi48 : FI Tryd.prog 48 := ⟨fun args w => by kernel_rfl⟩
instance fi49 : FI Tryd.prog 49 := ⟨fun args w => by kernel_rfl⟩
instance fi51 : FI Tryd.prog 51 := ⟨fun args w => by kernel_rfl⟩
instance fi52 : FI Tryd.prog 52 := ⟨fun args w => by kernel_rfl⟩
instance fi53 : FI Tryd.prog 53 := ⟨fun args w => by kernel_rfl⟩
instance fi54 : FI Tryd.prog 54 := ⟨fun args w => by kernel_rfl⟩
instance fi55 : FI Tryd.prog 55 := ⟨fun args w => by kernel_rfl⟩
instance fi56 : FI Tryd.prog 56 := ⟨fun args w => by kernel_rfl⟩
instance fi61 : FI Tryd.prog 61 := ⟨fun args w => by kernel_rfl⟩
instance fi74 : FI Tryd.prog 74 := ⟨fun args w => by kernel_rfl⟩
instance fi75 : FI Tryd.prog 75 := ⟨fun args w => by kernel_rfl⟩
instance fi76 : FI Tryd.prog 76 := ⟨fun args w => by kernel_rfl⟩
instance fi79 : FI Tryd.prog 79 := ⟨fun args w => by kernel_rfl⟩
instance fi80 : FI Tryd.prog 80 := ⟨fun args w => by kernel_rfl⟩
instance fi81 : FI Tryd.prog 81 := ⟨fun args w => by kernel_rfl⟩
instance fi85 : FI Tryd.prog 85 := ⟨fun args w => by kernel_rfl⟩
instance fi86 : FI Tryd.prog 86 := ⟨fun args w => by kernel_rfl⟩
instance fi87 : FI Tryd.prog 87 := ⟨fun args w => by kernel_rfl⟩
instance fi88 : FI Tryd.prog 88 := ⟨fun args w => by kernel_rfl⟩
instance fi89 : FI Tryd.prog 89 := ⟨fun args w => by kernel_rfl⟩
instance fi90 : FI Tryd.prog 90 := ⟨fun args w => by kernel_rfl⟩
instance fi91 : FI Tryd.prog 91 := ⟨fun args w => by kernel_rfl⟩
instance fi98 : FI Tryd.prog 98 := ⟨fun args w => by kernel_rfl⟩
instance fi105 : FI Tryd.prog 105 := ⟨fun args w => by kernel_rfl⟩
instance fi106 : FI Tryd.prog 106 := ⟨fun args w => by kernel_rfl⟩
instance fi108 : FI Tryd.prog 108 := ⟨fun args w => by kernel_rfl⟩
instance fi111 : FI Tryd.prog 111 := ⟨fun args w => by kernel_rfl⟩
instance fi112 : FI Tryd.prog 112 := ⟨fun args w => by kernel_rfl⟩
instance fi114 : FI Tryd.prog 114 := ⟨fun args w => by kernel_rfl⟩
instance fi115 : FI Tryd.prog 115 := ⟨fun args w => by kernel_rfl⟩
instance fi116 : FI Tryd.prog 116 := ⟨fun args w => by kernel_rfl⟩
instance fi117 : FI Tryd.prog 117 := ⟨fun args w => by kernel_rfl⟩
instance fi118 : FI Tryd.prog 118 := ⟨fun args w => by kernel_rfl⟩
instance fi122 : FI Tryd.prog 122 := ⟨fun args w => by kernel_rfl⟩
instance fi125 : FI Tryd.prog 125 := ⟨fun args w => by kernel_rfl⟩
instance fi126 : FI Tryd.prog 126 := ⟨fun args w => by kernel_rfl⟩
instance fi127 : FI Tryd.prog 127 := ⟨fun args w => by kernel_rfl⟩
instance fi128 : FI Tryd.prog 128 := ⟨fun args w => by kernel_rfl⟩
instance fi129 : FI Tryd.prog 129 := ⟨fun args w => by kernel_rfl⟩
instance fi130 : FI Tryd.prog 130 := ⟨fun args w => by kernel_rfl⟩
instance fi131 : FI Tryd.prog 131 := ⟨fun args w => by kernel_rfl⟩
instance fi138 : FI Tryd.prog 138 := ⟨fun args w => by kernel_rfl⟩
instance fi141 : FI Tryd.prog 141 := ⟨fun args w => by kernel_rfl⟩
instance fi142 : FI Tryd.prog 142 := ⟨fun args w => by kernel_rfl⟩
instance fi143 : FI Tryd.prog 143 := ⟨fun args w => by kernel_rfl⟩
instance fi144 : FI Tryd.prog 144 := ⟨fun args w => by kernel_rfl⟩
instance fi145 : FI Tryd.prog 145 := ⟨fun args w => by kernel_rfl⟩
instance fi146 : FI Tryd.prog 146 := ⟨fun args w => by kernel_rfl⟩
noncomputable instance ts27 : TS Tryd.prog 27 := ⟨#[(0, 1), (1, 1), (2, 1), (3, 1), (4, 1)], fun w => by kernel_rfl⟩
noncomputable instance ts40 : TS Tryd.prog 40 := ⟨#[(0, 1), (1, 1), (2, 1)], fun w => by kernel_rfl⟩
noncomputable instance ts50 : TS Tryd.prog 50 := ⟨#[(0, 1), (1, 1), (2, 1), (3, 1), (4, 1), (5, 1), (6, 1), (7, 1), (8, 1), (9, 1), (10, 1)], fun w => by kernel_rfl⟩
noncomputable instance ts52 : TS Tryd.prog 52 := ⟨#[(0, 1), (1, 1), (2, 1), (3, 1), (4, 1), (5, 1), (6, 1), (7, 1)], fun w => by kernel_rfl⟩
noncomputable instance ts69 : TS Tryd.prog 69 := ⟨#[(0, 5), (5, 1), (6, 1)], fun w => by kernel_rfl⟩
noncomputable instance ts72 : TS Tryd.prog 72 := ⟨#[(0, 1), (1, 1)], fun w => by kernel_rfl⟩
noncomputable instance ts76 : TS Tryd.prog 76 := ⟨#[(0, 1), (1, 1), (2, 1), (3, 1)], fun w => by kernel_rfl⟩
noncomputable instance ts85 : TS Tryd.prog 85 := ⟨#[(0, 1), (1, 1)], fun w => by kernel_rfl⟩
noncomputable instance ts108 : TS Tryd.prog 108 := ⟨#[(0, 1), (1, 1)], fun w => by kernel_rfl⟩
noncomputable instance ts110 : TS Tryd.prog 110 := ⟨#[(0, 2), (2, 1)], fun w => by kernel_rfl⟩
noncomputable instance ts120 : TS Tryd.prog 120 := ⟨#[(0, 1), (1, 1), (2, 1)], fun w => by kernel_rfl⟩
noncomputable instance ts122 : TS Tryd.prog 122 := ⟨#[(0, 1), (1, 1), (2, 1), (3, 1)], fun w => by kernel_rfl⟩
noncomputable instance ts124 : TS Tryd.prog 124 := ⟨#[(0, 1), (1, 1)], fun w => by kernel_rfl⟩
noncomputable instance ts138 : TS Tryd.prog 138 := ⟨#[(0, 1), (1, 1), (2, 1), (3, 1), (4, 1), (5, 1), (6, 1), (7, 1), (8, 1)], fun w => by kernel_rfl⟩
end Go.Proofs.YtamajcgdfjeehaaDoor
end

section
namespace Go.Vc
open Go.RowKit

/-- How a call ends: it returns (and what is known then), or it panics with a value. -/
inductive Fin : Type 1
  | ret (post : (S → List Ch → Prop) → Prop)
  | pan (v : Value)

def Pan (P : Program) [Gl P] (f : FuncId) (args : List S) (Hin : List Ch) (v : Value) : Prop :=
  ∀ (vs : List Value) (w : World) (A : Nat → Prop), (∀ b, A b → b < w.heap.size) → (∀ b ∈ hb Hin, A b) → (hb Hin).Nodup → SOks w A args vs → (∀ ch ∈ Hin, ch.ok w A) → Gl.ok P w A →
    Calls P f vs.toArray w (fun e w' => e = .panicked [{ v := v, recovered := false }] ∧ Grow (hb Hin) w w')
def ConE (P : Program) [Gl P] (f : FuncId) (args : List S) (Hin : List Ch) : Fin → Prop
  | .ret post => Con P f args Hin post
  | .pan v => Pan P f args Hin v

section
variable {P : Program} [Gl P] {nt : Nat} {c : Cx P nt} {env : Env} {H : List Ch} {K : S → List Ch → Prop}
variable {d : Option Tmp} {ty t t' : TypeId} {pos : String} {af : Array Edge} {g : Option (Nat × Bool)} {x y : Operand}
/-- A struct and two more results. -/
theorem jq_retRow2 {fn : Func} {post : (S → List Ch → Prop) → Prop} {a u u2 : Tmp} {b : Nat} {bt t : TypeId} [TI P t] {row : List C} {s' s'' : S} {Hx Hout : List Ch} (hres : fn.results = #[.cell a t, .tmp u, .tmp u2]) (ha : aggB (TI.u P t) = true) (hz : (TI.i P t).size = row.length) (hl : env.lookup a = some (.cell (.val (.pointer (some ⟨b, 0, none⟩))))) (hl' : env.lookup u = some s') (hl'' : env.lookup u2 = some s'') (j : Nat) (hj : pick [j] H = some ([.blk b bt row], Hx)) (hpost : ∀ K, post K → K (.tup [.row row, s', s'']) Hout) (hp : Sub H Hout) :
    JQ c (bodyPost P fn (RR c post)) .ret env H :=
  let ⟨_, _, hp⟩ := hp
  jq_retG (ss := [.row row, s', s'']) (.inl rfl) (by rw [hres]; exact ⟨.row row, _, b, j, bt, row, Hx, rfl, hl, hj, res_row ha hz, s', _, rfl, hl', s'', _, rfl, hl'', rfl⟩) hp hpost
/-- A test that is decided. -/
theorem jc_condT {Q : Exit → Act → World → Prop} {thn els : Code} {b : Bool} (hx : env.ev x = some (Bl b)) (hb : b = true) (h : JC c thn Q env H) : JC c (.cond x thn els) Q env H := jc_cond hx (fun _ => h) (fun h => by rw [hb] at h; cases h)
theorem jc_condF {Q : Exit → Act → World → Prop} {thn els : Code} {b : Bool} (hx : env.ev x = some (Bl b)) (hb : b = false) (h : JC c els Q env H) : JC c (.cond x thn els) Q env H := jc_cond hx (fun h => by rw [hb] at h; cases h) (fun _ => h)
/-- What is asked at a panic. -/
def PanQ (c : Cx P nt) (Q : Exit → Act → World → Prop) (v : Value) : Prop := ∀ a w, a.defers = [] → Grow c.X c.B w → Q (.panic [{ v := v, recovered := false }]) a w
/-- An operation that panics. -/
def OpPan (c : Cx P nt) (o : Oper) (env : Env) (H : List Ch) (v : Value) : Prop :=
  ∀ a w, St c env H a w → ∀ (next : Act → World → Prop) Q, PanQ c Q v → o.wp P a w next Q

def Env.vals (env : Env) : List Operand → Option (List Value)
  | [] => some []
  | x :: r => match env.ev x, Env.vals env r with
    | some (.cell (.val v)), some vs => some (v :: vs)
    | _, _ => none
theorem vals_ok {a : Act} {w : World} (h : St c env H a w) : ∀ {xs : List Operand} {vs : List Value}, env.vals xs = some vs → xs.map a.eval = vs
  | [], vs, hp => by simp only [Env.vals, Option.some.injEq] at hp; subst hp; rfl
  | x :: xs, vs, hp => by
    simp only [Env.vals] at hp
    split at hp
    · rename_i v vs' h1 h2
      simp only [Option.some.injEq] at hp
      subst hp
      rw [List.map_cons, ev_val h h1, vals_ok h h2]
    · cases hp
theorem ow_makeFunc {f : FuncId} {xs : Array Operand} {vs : List Value} (hx : env.vals xs.toList = some vs) (hK : K (.cell (.val (.func (.func f) #[] vs.toArray))) H) : OpWp c ⟨d, .makeFunc (.func f) #[] xs, ty, pos, af, g⟩ env H K :=
  ow_valx rfl (fun a w h => by
    have e1 : xs.map a.eval = vs.toArray := by apply Array.ext'; simpa using vals_ok h hx
    simp only [execOp, Instr.makeFunc, e1, Array.map_empty, Sem.run_bind, Sem.run_pure, Result.andThen_ok]) hK
theorem ow_negW {k : IntKind} {m : Int} (hx : env.ev x = some (In k m)) (hK : K (In k (k.wrap (-m))) H) : OpWp c ⟨d, .unOp .neg t x, ty, pos, af, g⟩ env H K :=
  ow_valx rfl (fun a w h => by simp [execOp, ev_val h hx, Op.unary, Op.intArith]) hK
/-- All of a package array, as a slice. -/
theorem ow_sliceG {b n : Nat} {e : TypeId} [TI P t] [TI P e] {rows : List (List C)} (hg : ∀ w A, Gl.ok P w A → GV w A b rows.flatten) (hu : TI.u P t = .array n e) (hn : rows.length = n) (hr : rows.all (fun r => decide (r.length = (TI.i P e).size)) = true) (hpos : 0 < (TI.i P e).size) (hmax : n ≤ maxLen)
    (hx : env.ev x = some (.cell (.val (.pointer (some ⟨b, 0, none⟩))))) (hK : K (.cell (.list rows)) H) : OpWp c ⟨d, .slice t x none none none, ty, pos, af, g⟩ env H K :=
  ow_val (fun a w h => by
    obtain ⟨hA, cs, bt, f, hh, hrow⟩ := hg _ _ h.heap.gl
    have hu1 : (underlying t).run P w = .ok (.array n e) w := by rw [run_underlying (TI.hu (P := P) (t := t)), hu]
    have hflat : ∀ (rows : List (List C)) (vs : List Value), rows.all (fun r => decide (r.length = (TI.i P e).size)) = true → RdRow w (c.av H) rows.flatten vs → RdRows w (c.av H) (TI.i P e).size rows vs := by
      intro rows
      induction rows with
      | nil => intro vs _ h; exact h
      | cons r rows ih =>
        intro vs hall h
        simp only [List.all_cons, Bool.and_eq_true, decide_eq_true_eq] at hall
        have h1 := rdRow_take r.length h
        have h2 := rdRow_drop r.length h
        simp only [List.flatten_cons, List.take_left', List.drop_left'] at h1 h2
        refine ⟨vs.take r.length, vs.drop r.length, (List.take_append_drop _ _).symm, ?_, h1, ih _ hall.2 h2⟩
        rw [rdRow_length h1, hall.1]
    refine ⟨.slice (some ⟨b, 0, none⟩) n n, ?_, some ⟨b, 0, none⟩, n, by rw [hn], by omega, hmax, .inr ⟨b, 0, cs.toList, (TI.i P e).size, rfl, hA, ?_, hpos, hflat _ _ hr hrow⟩⟩
    · simp [execOp, ev_val h hx, Instr.sliceAt, Instr.slice, Instr.sliceBounds, hu1, run_sizeOf, add_at, Instr.sureAddr]
    · intro j v hj
      simp only [World.cell?, hh, Nat.zero_add]
      simpa using hj) hK
end
end Go.Vc
end

section
namespace Go.Vc
open Go.RowKit

def PanI (Q : Exit → Act → World → Prop) : Prop := ∀ ch a d v w, Q (.panic ch) (Act.put a d v) w → Q (.panic ch) a w
theorem pani_then {K : Act → World → Prop} {Q : Exit → Act → World → Prop} (h : PanI Q) : PanI (Exit.then K Q) := h
theorem pani_block {id : Nat} {Q : Exit → Act → World → Prop} (h : PanI Q) : PanI (Exit.inBlock id Q) := h
theorem pani_body {P : Program} {fn : Func} {R : Ending → World → Prop} : PanI (bodyPost P fn R) := by
  intro ch a d v w h
  cases d <;> exact h

theorem len7 {α : Type} {l : List α} (h : l.length = 7) : ∃ v0 v1 v2 v3 v4 v5 v6, l = [v0, v1, v2, v3, v4, v5, v6] := by
  match l, h with
  | [v0, v1, v2, v3, v4, v5, v6], _ => exact ⟨v0, v1, v2, v3, v4, v5, v6, rfl⟩
section
variable {P : Program} {ops : Array Oper} {Q : Exit → Act → World → Prop} {md : Region.Mode} {S : World → Prop} {m : Nat}
def anyX (P : Program) (md : Region.Mode) (ops : Array Oper) (Q : Exit → Act → World → Prop) (S : World → Prop) (m : Nat) : Nat → Array Bool → Act → World → Prop
  | 0, listed, a, w => Region.ready md ops listed = [] ∧ Q .normal a w
  | fuel + 1, listed, a, w => (Region.ready md ops listed = [] → Q .normal a w) ∧ ∀ i ∈ Region.ready md ops listed, wpOp P ops Q i (fun a' w' => (i < m → S w') ∧ anyX P md ops Q S m fuel (listed.setIfInBounds i true) a' w') a w
theorem any_of_x : ∀ (fuel : Nat) (listed : Array Bool) (a : Act) (w : World), anyX P md ops Q S m fuel listed a w → wpAny P md ops Q fuel listed a w
  | 0, _, _, _, h => h
  | fuel + 1, _, _, _, h => ⟨h.1, fun i hi => wpOp_mono (fun a' w' h' => any_of_x fuel _ a' w' h'.2) (h.2 i hi)⟩
/-- One that only looks is taken first; the later ones wait for it. -/
theorem anyX_first {i : Nat} {oi : Oper} {v : Value} (hi : ops[i]? = some oi) (hsel : ∀ (j : Nat) (o : Oper) cs b, ops[j]? = some o → o.op ≠ .select cs b) (hQ : ∀ c a w, Q (.panic c) (a.put oi.dst v) w → Q (.panic c) a w)
    (hlate : ∀ (j : Nat) (o : Oper), m ≤ j → ops[j]? = some o → j ≠ i → ∃ e ∈ o.after, Region.binds md e = true ∧ e.on = i) :
    ∀ (fuel : Nat) (listed : Array Bool) (a : Act) (w : World),
      (∀ j oj, ops[j]? = some oj → j ≠ i → listed.getD j true = false → (∀ e ∈ oj.after, Region.binds md e = true → e.on ≠ i) → oi.apart ops oj = true) →
      i ∈ Region.ready md ops listed → YieldsIf P ops S oi v a → S w →
      anyX P md ops Q S m fuel (listed.setIfInBounds i true) (a.put oi.dst v) w → anyX P md ops Q S m (fuel + 1) listed a w := by
  intro fuel
  induction fuel with
  | zero =>
    intro listed a w _ hr hy hS hX
    refine ⟨fun h => (by rw [h] at hr; cases hr), fun j hj => ?_⟩
    by_cases hji : j = i
    · subst hji; exact hy.wpOp hi hS ⟨fun _ => hS, hX⟩
    · have := ready_mono hj hji
      rw [hX.1] at this
      cases this
  | succ fuel ih =>
    intro listed a w hfree hr hy hS hX
    refine ⟨fun h => (by rw [h] at hr; cases hr), fun j hj => ?_⟩
    by_cases hji : j = i
    · subst hji; exact hy.wpOp hi hS ⟨fun _ => hS, hX⟩
    · obtain ⟨hjun, oj, hoj, hall⟩ := mem_ready.1 hj
      have hnot : ∀ e ∈ oj.after, Region.binds md e = true → e.on ≠ i := fun e he hbd heq => by
        have h1 := hall e he hbd
        have h0 := (mem_ready.1 hr).1
        rw [heq] at h1
        rw [Array.getD_eq_getD_getElem?] at h0 h1
        cases hl : listed[i]? with
        | none => rw [hl] at h1; cases h1
        | some bb => rw [hl] at h0 h1; simp only [Option.getD_some] at h0 h1; rw [h0] at h1; cases h1
      have hjm : j < m := by
        rcases Nat.lt_or_ge j m with h | h
        · exact h
        · obtain ⟨e, he, hbd, hon⟩ := hlate j oj h hoj hji
          exact absurd hon (hnot e he hbd)
      have h2 := wpOp_putIf hoj (hfree j oj hoj hji hjun hnot) (fun cs b => hsel i oi cs b hi) (fun cs b => hsel j oj cs b hoj) hQ hy (hX.2 j (ready_mono hj hji))
      refine wpOp_mono (fun a' w' h3 => ⟨fun _ => h3.2.1 hjm, ih (listed.setIfInBounds j true) a' w' ?_ (ready_mono hr (Ne.symm hji)) h3.1 (h3.2.1 hjm) ?_⟩) h2
      · intro k ok hk hki hun hno
        refine hfree k ok hk hki ?_ hno
        by_cases hjk : j = k
        · subst hjk; exact hjun
        · rw [getD_set_ne true hjk] at hun; exact hun
      · rw [Array.setIfInBounds_comm _ _ hji]
        exact h3.2.2
end

section
variable {P : Program} [Gl P] {nt : Nat} {c : Cx P nt} {env : Env} {H Hr : List Ch} {ops : Array Oper} {Q : Exit → Act → World → Prop} {Sw : World → Prop} {L : List (Nat × List Value × TypeId)}
variable {m fuel : Nat} {listed : Array Bool} {d ty t t' : TypeId} {pos : String} {af : Array Edge} {x y : Operand}

def HP (c : Cx P nt) (ops : Array Oper) (Q : Exit → Act → World → Prop) (Sw : World → Prop) (m fuel : Nat) (listed : Array Bool) (env : Env) (H : List Ch) : Prop :=
  ∀ a w, St c env H a w → Sw w → anyX P .any ops Q Sw m fuel listed a w
/-- From number m on each waits for this one. -/
def lateWait (ops : Array Oper) (m i : Nat) : Bool := ops.toList.zipIdx.all fun (o, j) => decide (j < m) || j == i || hasEdge o i
omit [Gl P] in
theorem late_spec {i : Nat} (h : lateWait ops m i = true) : ∀ (j : Nat) (o : Oper), m ≤ j → ops[j]? = some o → j ≠ i → ∃ e ∈ o.after, Region.binds .any e = true ∧ e.on = i := by
  intro j o hj ho hne
  have h1 := List.all_eq_true.1 h (o, j) (by rw [List.mem_zipIdx_iff_getElem?]; simpa using ho)
  have h2 : decide (j < m) = false := by simpa using hj
  have h3 : (j == i) = false := by simpa using hne
  simp only [h2, h3, Bool.false_or] at h1
  exact edge_spec h1
theorem hp_take {i : Nat} {op : Op} {s : S} (hi : ops[i]? = some ⟨some d, op, ty, pos, af, none⟩) (hs : (Region.noSelect ops && lateWait ops m i) = true) (hf : Region.free .any ops listed i = true) (hr : (Region.ready .any ops listed).contains i = true) (hd : d < nt) (hQ : PanI Q)
    (hop : HOk c Sw env H ⟨some d, op, ty, pos, af, none⟩ s) (h : HP c ops Q Sw m fuel (listed.setIfInBounds i true) ((d, s) :: env) H) : HP c ops Q Sw m (fuel + 1) listed env H := by
  intro a w hst hS
  obtain ⟨v, h1, h2⟩ := hop a w hst hS
  rw [Bool.and_eq_true] at hs
  exact anyX_first hi (Region.noSelect_spec hs.1) (fun ch a w h => hQ ch a _ _ w h) (late_spec hs.2) fuel listed a w (Region.free_spec hi hf) (by simpa using hr) (.inl ⟨rfl, h1⟩) hS (h _ _ (hst.next hd hst.heap h2 (fun _ _ h => h)) hS)
omit [Gl P] in
theorem anyX_all {rs : List Nat} {a : Act} {w : World} (hr : Region.ready .any ops listed = rs) (hne : rs ≠ []) (h : ∀ i ∈ rs, wpOp P ops Q i (fun a' w' => (i < m → Sw w') ∧ anyX P .any ops Q Sw m fuel (listed.setIfInBounds i true) a' w') a w) : anyX P .any ops Q Sw m (fuel + 1) listed a w :=
  ⟨fun h0 => absurd (hr ▸ h0) hne, hr ▸ h⟩
theorem hp_op0 {i : Nat} {op : Op} (hi : ops[i]? = some ⟨none, op, ty, pos, af, none⟩) (hr : Region.ready .any ops listed = [i])
    (h : OpWp c ⟨none, op, ty, pos, af, none⟩ env H (fun _ H' => (∀ w, StW c H' w → Sw w) ∧ HP c ops Q Sw m fuel (listed.setIfInBounds i true) env H')) : HP c ops Q Sw m (fuel + 1) listed env H := by
  intro a w hst hS
  refine anyX_all hr (by simp) (fun j hj => ?_)
  obtain rfl : j = i := by simpa using hj
  unfold wpOp
  rw [hi]
  dsimp only
  rw [if_pos (show Region.wanted _ _ = true from rfl)]
  refine .inl (h a w hst _ _ ?_)
  intro s H' v w' hK hw' hv hk
  exact ⟨fun _ => hK.1 _ hw', hK.2 _ _ (hst.next0 hw' hk) (hK.1 _ hw')⟩
/-- What comes behind the first m, one after the other: nothing need hold any more. -/
def HT (c : Cx P nt) (ops : Array Oper) (Q : Exit → Act → World → Prop) (Sw : World → Prop) (m fuel : Nat) (listed : Array Bool) (env : Env) (H : List Ch) : Prop :=
  ∀ a w, St c env H a w → anyX P .any ops Q Sw m fuel listed a w
theorem hp_tail (h : HT c ops Q Sw m fuel listed env H) : HP c ops Q Sw m fuel listed env H := fun a w hst _ => h a w hst
theorem ht_op {i : Nat} {op : Op} (hi : ops[i]? = some ⟨some d, op, ty, pos, af, none⟩) (hr : Region.ready .any ops listed = [i]) (hd : d < nt) (hm : m ≤ i)
    (h : OpWp c ⟨some d, op, ty, pos, af, none⟩ env H (fun s H' => HT c ops Q Sw m fuel (listed.setIfInBounds i true) ((d, s) :: env) H')) : HT c ops Q Sw m (fuel + 1) listed env H := by
  intro a w hst
  refine anyX_all hr (by simp) (fun j hj => ?_)
  obtain rfl : j = i := by simpa using hj
  unfold wpOp
  rw [hi]
  dsimp only
  rw [if_pos (show Region.wanted _ _ = true from rfl)]
  refine .inl (h a w hst _ _ ?_)
  intro s H' v w' hK hw' hv hk
  exact ⟨fun hlt => absurd hlt (by omega), hK _ _ (hst.next hd hw' hv hk)⟩
theorem ht_done (hr : Region.ready .any ops listed = []) (h : JQ c Q .normal env H) : HT c ops Q Sw m fuel listed env H := by
  intro a w hst
  cases fuel with
  | zero => exact ⟨hr, h a w hst⟩
  | succ fuel => exact ⟨fun _ => h a w hst, by rw [hr]; simp⟩
theorem hp_exact {b : Nat} {bt : TypeId} {row : List C} {cs : List Value} (j : Nat) (hp : pick [j] H = some ([.blk b bt row], Hr)) (hm : (b, cs, bt) ∈ L) (h : HP c ops Q (Keep L) m fuel listed env (.blk b bt (cs.map C.val) :: Hr)) : HP c ops Q (Keep L) m fuel listed env H := by
  intro a w hst hS
  obtain ⟨cs', g1, g2⟩ := blk_ok hst hp
  have g3 := hS _ hm
  dsimp only at g3
  rw [g1] at g3
  obtain rfl : cs' = cs := by simpa using g3
  exact h a w (st_row hst hp ⟨cs', g1, rdRow_exact g2⟩) hS
theorem hp_begin {id n : Nat} (m : Nat) (hn : ops.size = n) (hm : P.follows .mixedOrders = true) {a : Act} {w : World} (hs : St c env H a w) (hS : Sw { w with drawn := w.drawn + 1 }) (h : HP c ops Q Sw m n (Array.replicate n false) env H) : (Code.region id ops true).wp P Q a w := by
  subst hn
  refine wp_region_any hm (any_of_x (S := Sw) (m := m) _ _ _ _ ?_)
  obtain ⟨d1, d2⟩ := stw_drew hs.heap
  exact h a _ ⟨hs.size, hs.defers, fun t s hl => d2 _ _ (hs.slots t s hl), d1⟩ hS
theorem jc_hp1 {id n : Nat} (m : Nat) (hn : ops.size = n) {b1 : Nat} {t1 : TypeId} {r1 : List C} (j1 : Nat) (hm : P.follows .mixedOrders = true) (hp : pick [j1] H = some ([.blk b1 t1 r1], Hr))
    (h : ∀ cs1 : List Value, cs1.length = r1.length → HP c ops Q (Keep [(b1, cs1, t1)]) m n (Array.replicate n false) env H) : JC c (.region id ops true) Q env H := by
  intro a w hs
  obtain ⟨cs1, g1, k1⟩ := blk_ok hs hp
  refine hp_begin m hn hm hs ?_ (h cs1 (rdRow_length k1))
  intro p hp
  obtain rfl := List.mem_singleton.1 hp
  exact g1
theorem keep1 {b1 : Nat} {t1 : TypeId} {cs1 : List Value} (j : Nat) (hp : H[j]? = some (.blk b1 t1 (cs1.map C.val))) : ∀ w, StW c H w → Keep [(b1, cs1, t1)] w :=
  keep_of (fun p hp2 => by
    obtain rfl := List.mem_singleton.1 hp2
    exact List.mem_of_getElem? hp)
theorem mem0 {α : Type} {x : α} {l : List α} : x ∈ x :: l := List.mem_cons_self ..
theorem hok_loadN {d : Option Tmp} {b o : Nat} {row r : List C} {bt : TypeId} {cs : List Value} [TI P t] (j : Nat) (ha : aggB (TI.u P t) = true) (hx : env.ev x = some (.cell (.val (.pointer (some ⟨b, o, none⟩))))) (hp : pick [j] H = some ([.blk b bt row], Hr))
    (hm : (b, cs, bt) ∈ L) (hr : r = (row.drop o).take (TI.i P t).size) (hz : r.length = (TI.i P t).size) : HOk c (Keep L) env H ⟨d, .load t x, ty, pos, af, none⟩ (.row r) :=
  fun _ _ hst hS => by
    have hrd := blk_keep hst hp hS hm
    have h1 := rdRow_take (TI.i P t).size (rdRow_drop o hrd)
    rw [← hr] at h1
    have hlen := rdRow_length h1
    refine ⟨.agg ((cs.drop o).take (TI.i P t).size).toArray, fun w' hS' => ?_, _, rfl, by simpa using h1⟩
    have hh := hS' _ hm
    have hc := cells_take (cells_of_blk hh o) (TI.i P t).size
    simp only [execOp, ev_val hst hx, Instr.loadAt, Instr.sureAddr, Sem.run_bind, Sem.run_pure, Result.andThen_ok, run_loadVarN t ha (by rw [hlen, hz]) hc]
end
end Go.Vc
end

section
namespace Go.Vc
open Go.RowKit

section
variable {P : Program} [Gl P] {nt : Nat} {c : Cx P nt} {env : Env} {H : List Ch} {K : S → List Ch → Prop}
variable {d : Option Tmp} {ty t t' : TypeId} {pos : String} {af : Array Edge} {g : Option (Nat × Bool)} {x y : Operand}
end
end Go.Vc
end

section
namespace Go.Vc
open Go.RowKit

section
variable {P : Program} [Gl P] {nt : Nat} {c : Cx P nt} {env : Env} {H : List Ch} {K : S → List Ch → Prop}
variable {d : Option Tmp} {ty t t' : TypeId} {pos : String} {af : Array Edge} {g : Option (Nat × Bool)} {x y : Operand}
end
end Go.Vc
end

section
namespace Go.Vc
open Go.RowKit

section
variable {P : Program} [Gl P] {nt : Nat} {c : Cx P nt} {env : Env} {H : List Ch} {K : S → List Ch → Prop}
variable {d : Option Tmp} {ty t t' : TypeId} {pos : String} {af : Array Edge} {g : Option (Nat × Bool)} {x y : Operand}
variable {ds : List Deferred} {ops : Array Oper} {Q : Exit → Act → World → Prop} {l : List Oper}
end
end Go.Vc
end

section
namespace Go.Vc
open Go.RowKit

section
variable {P : Program} [Gl P] {nt : Nat} {c : Cx P nt} {env : Env} {H Hr : List Ch} {ops : Array Oper} {Q : Exit → Act → World → Prop} {Sw : World → Prop}
variable {m fuel : Nat} {listed : Array Bool} {i j di dj : Nat} {opi opj : Op} {ti tj : TypeId} {pi pj : String} {afi afj : Array Edge} {s0 : S}
/-- What is left when the first m are done: nothing need stand any more. -/
def allDone (m : Nat) (listed : Array Bool) : Bool := (List.range m).all fun i => listed.getD i true
end
end Go.Vc
end

section
namespace Go.Vc
open Go.RowKit

def Fa (w : World) (A : Nat → Prop) (F : List (S × Value)) : Prop := ∀ p ∈ F, SOk w A p.1 p.2
def FaS (F : List (S × Value)) (w : World) : Prop := ∃ A, Fa w A F
section
variable {P : Program} [Gl P] {nt : Nat} {c : Cx P nt} {env : Env} {H Hr : List Ch} {F : List (S × Value)} {ops : Array Oper} {Q : Exit → Act → World → Prop}
variable {fuel : Nat} {listed : Array Bool} {i j d : Nat} {ty t : TypeId} {pos : String} {af : Array Edge} {x y : Operand}
def HQ (c : Cx P nt) (F : List (S × Value)) (ops : Array Oper) (Q : Exit → Act → World → Prop) (fuel : Nat) (listed : Array Bool) (env : Env) (H : List Ch) : Prop :=
  ∀ a w, St c env H a w → Fa w (c.av H) F → anyX P .any ops Q (FaS F) 64 fuel listed a w
end
end Go.Vc
end

section
namespace Go.Vc
open Go.RowKit
theorem r_.{u} {α : Sort u} {a : α} : a = a := rfl
theorem g_ {p : Prop} (h : p := by omega) : p := h
theorem h_ {p : Prop} (h : p := by assumption) : p := h
theorem k_ {p : Prop} (h : p := by kernel_rfl) : p := h
theorem t_ {p : Prop} [Decidable p] (h : p := by omega) : decide p = true := decide_eq_true h
theorem u_ {p : Prop} [Decidable p] (h : p := by assumption) : decide p = true := decide_eq_true h
theorem v_ {p : Prop} [Decidable p] (h : ¬ p := by omega) : decide p = false := decide_eq_false h
theorem w_ {p : Prop} [Decidable p] (h : ¬ p := by assumption) : decide p = false := decide_eq_false h
theorem x_ {α : Type} [DecidableEq α] {a : α} : decide (a = a) = true := decide_eq_true rfl
theorem p_ {s : S} {H : List Ch} : s = s ∧ H.Perm H := ⟨rfl, List.Perm.refl _⟩
theorem b_ {n m : Nat} (h : Nat.ble n m = true := by rfl) : n ≤ m := nb h
section
variable {P : Program} [Gl P] {nt : Nat} {c : Cx P nt} {env : Env} {H Hr : List Ch} {ops : Array Oper} {Q : Exit → Act → World → Prop} {l : List Oper} {d : Nat} {op : Op} {ty t : TypeId} {pos : String} {af : Array Edge} {x y : Operand}
theorem o_ (hd : Nat.ble (d + 1) nt = true) (h : OpWp c ⟨some d, op, ty, pos, af, none⟩ env H (fun s H' => JL c ops Q l ((d, s) :: env) H')) : JL c ops Q (⟨some d, op, ty, pos, af, none⟩ :: l) env H := jl_op h (nb hd)
theorem M_ {s : S} (h : (env.ev x, Nat.ble (d + 1) nt) = (some s, true)) (k : JL c ops Q l ((d, s) :: env) H) : JL c ops Q (⟨some d, .move x, ty, pos, af, none⟩ :: l) env H := jl_op (ow_move (Prod.mk.inj h).1 k) (nb (Prod.mk.inj h).2)
theorem E_ {s : S} (h : (env.ev x, Nat.ble (d + 1) nt) = (some s, true)) (k : JL c ops Q l ((d, s) :: env) H) : JL c ops Q (⟨some d, .assign x, ty, pos, af, none⟩ :: l) env H := jl_op (ow_assign (Prod.mk.inj h).1 k) (nb (Prod.mk.inj h).2)
theorem N_ {b o : Nat} {sp : Option Nat} (h : (env.ev x, Nat.ble (d + 1) nt) = (some (.cell (.val (.pointer (some ⟨b, o, sp⟩)))), true)) (k : JL c ops Q l ((d, .cell (.val (.pointer (some ⟨b, o, sp⟩)))) :: env) H) : JL c ops Q (⟨some d, .nilCheck x, ty, pos, af, none⟩ :: l) env H := jl_op (ow_nilCheck (Prod.mk.inj h).1 k) (nb (Prod.mk.inj h).2)
theorem F_ {b o f off size : Nat} [TI P t] [TS P t] (h : (structB (TI.u P t), env.ev x, (TS.pl P t)[f]?, Nat.ble 1 size, Nat.ble (d + 1) nt) = (true, some (.cell (.val (.pointer (some ⟨b, o, none⟩)))), some (off, size), true, true))
    (k : JL c ops Q l ((d, .cell (.val (.pointer (some ⟨b, o + off, none⟩)))) :: env) H) : JL c ops Q (⟨some d, .fieldAddr t x f, ty, pos, af, none⟩ :: l) env H := by
  simp only [Prod.mk.injEq] at h
  obtain ⟨h1, h2, h3, h4, h5⟩ := h
  exact jl_op (ow_fieldAddr h1 h2 h3 (nb h4) k) (nb h5)
theorem L_ {b o : Nat} {row : List C} {e : C} {bt : TypeId} [TI P t] (j : Nat) (h : (aggB (TI.u P t), env.ev x, pick [j] H, row[o]?, Nat.ble (d + 1) nt) = (false, some (.cell (.val (.pointer (some ⟨b, o, none⟩)))), some ([.blk b bt row], Hr), some e, true))
    (k : JL c ops Q l ((d, .cell e) :: env) H) : JL c ops Q (⟨some d, .load t x, ty, pos, af, none⟩ :: l) env H := by
  simp only [Prod.mk.injEq] at h
  obtain ⟨h1, h2, h3, h4, h5⟩ := h
  exact jl_op (ow_load j h1 h2 h3 h4 k) (nb h5)
theorem A_ {b : Nat} {row : List C} {bt : TypeId} [TI P t] (j : Nat) (h : (aggB (TI.u P t), env.ev x, pick [j] H, (TI.i P t).size, Nat.ble (d + 1) nt) = (true, some (.cell (.val (.pointer (some ⟨b, 0, none⟩)))), some ([.blk b bt row], Hr), row.length, true))
    (k : JL c ops Q l ((d, .row row) :: env) H) : JL c ops Q (⟨some d, .load t x, ty, pos, af, none⟩ :: l) env H := by
  simp only [Prod.mk.injEq] at h
  obtain ⟨h1, h2, h3, h4, h5⟩ := h
  exact jl_op (ow_loadAll j h1 h2 h3 h4 k) (nb h5)
theorem S_ {b : Nat} {row r : List C} {s : S} {bt : TypeId} [TI P t] (j : Nat) (h : (env.ev x, env.ev y, s.cells, pick [j] H, (TI.i P t).size, row.length) = (some (.cell (.val (.pointer (some ⟨b, 0, none⟩)))), some s, some r, some ([.blk b bt row], Hr), r.length, r.length))
    (k : JL c ops Q l env (.blk b bt r :: Hr)) : JL c ops Q (⟨none, .store t x y, ty, pos, af, none⟩ :: l) env H := by
  simp only [Prod.mk.injEq] at h
  obtain ⟨h1, h2, h3, h4, h5, h6⟩ := h
  exact jl_op0 (ow_storeAll j h1 h2 h3 h4 h5 h6 k)
theorem W_ {b o : Nat} {row : List C} {c1 : C} {bt : TypeId} [TI P t] (j : Nat) (h : (env.ev x, env.ev y, pick [j] H, (TI.i P t).size, Nat.ble (o + 1) row.length) = (some (.cell (.val (.pointer (some ⟨b, o, none⟩)))), some (.cell c1), some ([.blk b bt row], Hr), 1, true))
    (k : JL c ops Q l env (.blk b bt (row.set o c1) :: Hr)) : JL c ops Q (⟨none, .store t x y, ty, pos, af, none⟩ :: l) env H := by
  simp only [Prod.mk.injEq] at h
  obtain ⟨h1, h2, h3, h4, h5⟩ := h
  exact jl_op0 (ow_store1 j h1 h2 h3 h4 (nb h5) k)
theorem X_ {ss : List S} {i : Nat} {s : S} (h : (env.ev x, ss[i]?, Nat.ble (d + 1) nt) = (some (.tup ss), some s, true)) (k : JL c ops Q l ((d, s) :: env) H) : JL c ops Q (⟨some d, .extract x i, ty, pos, af, none⟩ :: l) env H := by
  simp only [Prod.mk.injEq] at h
  obtain ⟨h1, h2, h3⟩ := h
  exact jl_op (ow_extract h1 h2 k) (nb h3)
theorem R_ {id : Nat} {ls : List Oper} {z : Code} (h : JL c ls.toArray (Exit.then (fun a w => z.wp P Q a w) Q) ls env H) : JC c (.seq (.region id ls.toArray false) z) Q env H := jc_seq (jc_region h)
theorem T_ {z : Code} (h : JC c z Q env H) : JL c ops (Exit.then (fun a w => z.wp P Q a w) Q) [] env H := jl_nil (jq_then h)
theorem B_ {id : Nat} {z u : Code} (h : JC c u (Exit.inBlock id (Exit.then (fun a w => z.wp P Q a w) Q)) env H) : JC c (.seq (.block id u) z) Q env H := jc_seq (jc_block h)
end
section
variable {P : Program} [Gl P] {nt : Nat} {ops : Array Oper} {H : List Ch} {K : Env → Prop} {env : Env} {l : List Oper} {d : Nat} {ty t : TypeId} {pos : String} {af : Array Edge} {x y : Operand} {Hr : List Ch}
theorem yM_ {s : S} (h : (env.only (Oper.looksAt ops ⟨some d, .move x, ty, pos, af, none⟩)).ev x = some s) (k : AnyOk P nt ops H K l ((d, s) :: env)) : AnyOk P nt ops H K (⟨some d, .move x, ty, pos, af, none⟩ :: l) env := any_op (fun _ => ow_move h p_) k
theorem yE_ {s : S} (h : (env.only (Oper.looksAt ops ⟨some d, .assign x, ty, pos, af, none⟩)).ev x = some s) (k : AnyOk P nt ops H K l ((d, s) :: env)) : AnyOk P nt ops H K (⟨some d, .assign x, ty, pos, af, none⟩ :: l) env := any_op (fun _ => ow_assign h p_) k
theorem yN_ {b o : Nat} {sp : Option Nat} (h : (env.only (Oper.looksAt ops ⟨some d, .nilCheck x, ty, pos, af, none⟩)).ev x = some (.cell (.val (.pointer (some ⟨b, o, sp⟩))))) (k : AnyOk P nt ops H K l ((d, .cell (.val (.pointer (some ⟨b, o, sp⟩)))) :: env)) : AnyOk P nt ops H K (⟨some d, .nilCheck x, ty, pos, af, none⟩ :: l) env := any_op (fun _ => ow_nilCheck h p_) k
theorem yF_ {b o f off size : Nat} [TI P t] [TS P t] (h : (structB (TI.u P t), (env.only (Oper.looksAt ops ⟨some d, .fieldAddr t x f, ty, pos, af, none⟩)).ev x, (TS.pl P t)[f]?, Nat.ble 1 size) = (true, some (.cell (.val (.pointer (some ⟨b, o, none⟩)))), some (off, size), true))
    (k : AnyOk P nt ops H K l ((d, .cell (.val (.pointer (some ⟨b, o + off, none⟩)))) :: env)) : AnyOk P nt ops H K (⟨some d, .fieldAddr t x f, ty, pos, af, none⟩ :: l) env := by
  simp only [Prod.mk.injEq] at h
  obtain ⟨h1, h2, h3, h4⟩ := h
  exact any_op (fun _ => ow_fieldAddr h1 h2 h3 (nb h4) p_) k
theorem yL_ {b o : Nat} {row : List C} {e : C} {bt : TypeId} [TI P t] (j : Nat) (h : (aggB (TI.u P t), (env.only (Oper.looksAt ops ⟨some d, .load t x, ty, pos, af, none⟩)).ev x, pick [j] H, row[o]?) = (false, some (.cell (.val (.pointer (some ⟨b, o, none⟩)))), some ([.blk b bt row], Hr), some e))
    (k : AnyOk P nt ops H K l ((d, .cell e) :: env)) : AnyOk P nt ops H K (⟨some d, .load t x, ty, pos, af, none⟩ :: l) env := by
  simp only [Prod.mk.injEq] at h
  obtain ⟨h1, h2, h3, h4⟩ := h
  exact any_op (fun _ => ow_load j h1 h2 h3 h4 p_) k
end
abbrev aa_ := @any_op
abbrev ab_ := @any_guardY
abbrev ac_ := @any_guardN
abbrev ae_ := @any_nil
abbrev af_ := @any_alloc
abbrev ag_ := @jl_op0
abbrev ah_ := @jl_guardY
abbrev ai_ := @jl_guardN
abbrev aj_ := @jl_guardU
abbrev ak_ := @jl_nil
abbrev al_ := @jq_then
abbrev am_ := @jc_seq
abbrev an_ := @jc_region
abbrev ao_ := @jc_any
abbrev ap_ := @jc_condF
abbrev aq_ := @jc_condT
abbrev ar_ := @jc_ret
abbrev as_ := @jc_skip
abbrev au_ := @jc_block
abbrev av_ := @jc_exit
abbrev aw_ := @jq_then_ret
abbrev ax_ := @jq_then_exit
abbrev ay_ := @jq_block
abbrev az_ := @jq_block_ret
abbrev ba_ := @jq_block_exit
abbrev bb_ := @jq_block_other
abbrev bc_ := @sub_step
abbrev bd_ := @ow_move
abbrev be_ := @ow_assign
abbrev bf_ := @ow_fieldAddr
abbrev bg_ := @ow_load
abbrev bh_ := @ow_nilCheck
abbrev bi_ := @ow_call1
abbrev bj_ := @ow_add64
abbrev bk_ := @ow_storeAll
abbrev bl_ := @ow_alloc
abbrev bm_ := @ow_call0
abbrev bn_ := @ow_eql
abbrev bp_ := @ow_pickT
abbrev bq_ := @ow_buildSlice
abbrev br_ := @ow_len
abbrev bs_ := @ow_loadAll
abbrev bt_ := @ow_callP
abbrev bu_ := @ow_build
abbrev bv_ := @ow_pickF
abbrev bw_ := @ow_lss
abbrev bx_ := @ow_neq
abbrev bz_ := @ow_gtr
abbrev cb_ := @ow_loadPlace
abbrev cc_ := @ow_indexAddrMapE
abbrev cd_ := @ow_not
abbrev ce_ := @ow_notdec
abbrev cf_ := @ow_fieldAddrPlace
abbrev cg_ := @ow_sub64
abbrev ch_ := @ow_rem
abbrev ci_ := @ow_box
abbrev cj_ := @ow_box1
abbrev ck_ := @ow_max2
abbrev cl_ := @ow_min2
abbrev cm_ := @ow_storeN
abbrev cn_ := @ow_geq
abbrev co_ := @ow_lenstr
abbrev cp_ := @ow_loadN
abbrev cr_ := @ow_loadPlaceN
abbrev cs_ := @ow_streql
abbrev ct_ := @ow_strneq
abbrev cu_ := @ow_leq
abbrev cv_ := @ow_indexAddrMapI
abbrev cw_ := @ow_lenown
abbrev cx_ := @ow_callv
abbrev cy_ := @ow_neg64
abbrev cz_ := @ow_mul64
abbrev db_ := @ow_loadInn1
abbrev dc_ := @ow_indexOwn
abbrev dd_ := @ow_loadG
abbrev de_ := @ow_indexArr
abbrev df_ := @hp_take
abbrev dh_ := @hp_op0
abbrev di_ := @ht_op
abbrev dl_ := @hok_fieldAddr
abbrev dm_ := @hok_load
end Go.Vc
end

section
namespace Go.Proofs.YtamajcgdfjeehaaDoor
open Go.Vc
attribute [local irreducible] JL JC JQ OpWp Con ConN
set_option maxHeartbeats 4000000

inductive T where
  | nu (n : Int)
  | nm (s : ByteArray)
  | ix (s : ByteArray) (t : T)
  | bn (o : Int) (a b : T)
def T.kind : T → Int
  | .nu _ => 1
  | .nm _ => 2
  | .ix _ _ => 3
  | .bn _ _ _ => 4
def T.num : T → Int
  | .nu n => n
  | _ => 0
def T.name : T → ByteArray
  | .nm s => s
  | .ix s _ => s
  | _ => ⟨#[]⟩
def T.op : T → Int
  | .bn o _ _ => o
  | _ => 0
def T.args : T → List T
  | .ix _ t => [t]
  | .bn _ a b => [a, b]
  | _ => []
def T.row : T → List C
  | .nu n => [.val (.int .i64 1), .val (.int .i64 n), .val (.string ⟨#[]⟩), .val (.int .i64 0), .list []]
  | .nm s => [.val (.int .i64 2), .val (.int .i64 0), .val (.string s), .val (.int .i64 0), .list []]
  | .ix s t => [.val (.int .i64 3), .val (.int .i64 0), .val (.string s), .val (.int .i64 0), .list [t.row]]
  | .bn o a b => [.val (.int .i64 4), .val (.int .i64 0), .val (.string ⟨#[]⟩), .val (.int .i64 o), .list [a.row, b.row]]
abbrev T.row' (t : T) : List C := [.val (.int .i64 t.kind), .val (.int .i64 t.num), .val (.string t.name), .val (.int .i64 t.op), .list (t.args.map T.row)]
theorem T.row_eq (t : T) : t.row = t.row' := by cases t <;> rfl
def T.dep : T → Nat
  | .nu _ => 1
  | .nm _ => 1
  | .ix _ t => t.dep + 1
  | .bn _ a b => max a.dep b.dep + 1
theorem T.dep_args (t : T) : t.dep = (t.args.map T.dep).foldl max 0 + 1 := by cases t <;> simp [T.dep, T.args]
/-- The greatest of the first depths, each at most one more than a limit. -/
def mx (f : T → Nat) (l : List T) : Nat := l.foldl (fun m t => max m (f t)) 0
theorem mx_snoc (f : T → Nat) (l : List T) (t : T) : mx f (l ++ [t]) = max (mx f l) (f t) := by simp [mx]
def dl : Nat → T → Nat
  | 0, _ => 1
  | L + 1, t => mx (dl L) t.args + 1
theorem dl_eq : ∀ (L : Nat) (t : T), dl L t = min t.dep (L + 1)
  | 0, t => by have : 1 ≤ t.dep := by rw [T.dep_args]; omega
               simp only [dl]; omega
  | L + 1, t => by
    have h := dl_eq L
    cases t <;> simp only [dl, T.args, mx, List.foldl_nil, List.foldl_cons, T.dep, h] <;> omega
theorem dl_le (L : Nat) (t : T) : dl L t ≤ L + 1 := by rw [dl_eq]; omega
theorem mx_le {f : T → Nat} {B : Nat} (h : ∀ t, f t ≤ B) : ∀ l : List T, mx f l ≤ B := by
  intro l
  unfold mx
  have : ∀ (l : List T) (m : Nat), m ≤ B → l.foldl (fun m t => max m (f t)) m ≤ B := by
    intro l
    induction l with
    | nil => intro m hm; exact hm
    | cons t l ih => intro m hm; exact ih _ (by have := h t; show max m (f t) ≤ B; omega)
  exact this l 0 (Nat.zero_le _)
theorem Depth_c : ∀ (L : Nat) (t : T), L ≤ 1000 → Con Tryd.prog 28 [.row t.row', In .i64 (L : Int)] [] (fun K => K (In .i64 (dl L t : Int)) []) := by
  intro L
  induction L with
  | zero =>
    intro t _
    refine con_intro Tryd.func28 rfl rfl (Nat.le_of_ble_eq_true rfl) (fun c hc => R_ (o_ r_ (ci_ r_ (fun bx => E_ r_ (T_ (R_ (E_ r_ (T_ (am_ (R_ (M_ r_ (o_ r_ (bz_ r_ r_ (T_ (jc_condd rfl (fun h => by omega) (fun _ => as_ (al_ ?_)))))))))))))))))
    refine R_ (M_ r_ (o_ r_ (bj_ r_ r_ g_ (E_ r_ (T_ (ar_ (jq_ret1 rfl rfl [] rfl (fun K h => h))))))))
  | succ L ih =>
    intro t hL
    have eA : (t.args.map T.row).length = t.args.length := List.length_map _
    refine con_intro Tryd.func28 rfl rfl (Nat.le_of_ble_eq_true rfl) (fun c hc => R_ (o_ r_ (ci_ r_ (fun bx => E_ r_ (T_ (R_ (E_ r_ (T_ (am_ (R_ (M_ r_ (o_ r_ (bz_ r_ r_ (T_ (jc_condd rfl (fun _ => R_ (F_ r_ ?_)) (fun h => by omega))))))))))))))))
    refine L_ 0 r_ (o_ r_ (br_ r_ (fun hlen => M_ r_ (T_ (au_ (jc_loopS (ι := Nat) [] (fun k => k ≤ t.args.length) (fun k => [(1, In .i64 ((L + 1 : Nat) : Int)), (5, In .i64 (mx (dl L) (t.args.take k) : Int)), (11, .cell (.list (t.args.map T.row))), (12, In .i64 ((t.args.map T.row).length : Int)), (13, In .i64 (k : Int))]) (fun _ => []) (fun k => t.args.length - k) 0 (Nat.zero_le _) ?_ ?_ ?_))))))
    · exact sub_end
    · (repeat (first | exact True.intro | refine ⟨rfl, ?_⟩))
    · intro k hk
      refine jc_reset [(1, In .i64 ((L + 1 : Nat) : Int)), (5, In .i64 (mx (dl L) (t.args.take k) : Int)), (11, .cell (.list (t.args.map T.row))), (12, In .i64 ((t.args.map T.row).length : Int)), (13, In .i64 (k : Int))] [] ?_ ⟨[], [], rfl⟩ ?_
      · (repeat (first | exact True.intro | refine ⟨rfl, ?_⟩))
      refine R_ (o_ r_ (bw_ r_ r_ (T_ (am_ (jc_condd rfl (fun hlt => ?_) (fun hge => ?_))))))
      · have hlt' : k < t.args.length := by omega
        have hI : Con Tryd.prog 28 [.row (t.args[k]).row', In .i64 (((L + 1 : Nat) : Int) - 1)] [] (fun K => K (In .i64 (dl L t.args[k] : Int)) []) := by
          rw [show (((L + 1 : Nat) : Int) - 1) = (L : Int) by omega]
          exact ih _ g_
        refine as_ (al_ (B_ (R_ (o_ r_ (cc_ r_ r_ g_ (T.row_eq _) r_ b_ (o_ r_ (cr_ r_ r_ r_ (o_ r_ (bl_ r_ r_ (fun bl => S_ 0 r_ (T_ (an_ (M_ r_ (A_ 0 r_ (M_ r_ (o_ r_ (cg_ r_ r_ g_ (o_ r_ (bm_ r_ (hI) (o_ r_ (ck_ r_ r_ ?_)))))))))))))))))))))
        refine E_ r_ (ak_ (ay_ (al_ (an_ (o_ r_ (bj_ r_ r_ g_ (M_ r_ (ak_ (jq_againS (k + 1) g_ g_ ?_ ?_)))))))))
        · exact sub_end
        · rw [List.take_succ_eq_append_getElem hlt', mx_snoc, show ((max (mx (dl L) (t.args.take k)) (dl L t.args[k]) : Nat) : Int) = max (mx (dl L) (t.args.take k) : Int) (dl L t.args[k] : Int) by omega]
          (repeat (first | exact True.intro | refine ⟨rfl, ?_⟩))
      · obtain rfl : k = t.args.length := by omega
        have hm := mx_le (dl_le L) t.args
        rw [List.take_length]
        refine av_ (ax_ (ax_ (ba_ (al_ (R_ (M_ r_ (o_ r_ (bj_ r_ r_ g_ (E_ r_ (T_ (ar_ (jq_ret1 rfl rfl [] rfl (fun K h => h)))))))))))))

/-- The reference's: from a depth on, 21 where it is deeper than 20. -/
def rd : Nat → T → Nat
  | 0, _ => 21
  | F + 1, t => max (20 - F) (mx (rd F) t.args)
theorem rd_eq : ∀ (F : Nat) (t : T), F ≤ 20 → rd F t = min (t.dep + (20 - F)) 21
  | 0, t, _ => by have : 1 ≤ t.dep := by rw [T.dep_args]; omega
                  simp only [rd]; omega
  | F + 1, t, hF => by
    have h := fun t => rd_eq F t (by omega)
    cases t <;> simp only [rd, T.args, mx, List.foldl_nil, List.foldl_cons, T.dep, h] <;> omega
end Go.Proofs.YtamajcgdfjeehaaDoor
end

section
namespace Go.Proofs.YtamajcgdfjeehaaDoor
open Go.Vc
set_option maxHeartbeats 1000000

abbrev Ptr (b : Nat) : S := .cell (.val (.pointer (some ⟨b, 0, none⟩)))
abbrev Irow (n : Int) : List C := [.val (.int .i64 n)]
inductive Sm where
  | mk (kind : Int) (name : ByteArray) (index value : List T) (max label : Int) (thn els : List Sm)
mutual
def Sm.row : Sm → List C
  | .mk k n i v m l t e => [.val (.int .i64 k), .val (.string n), .list (i.map T.row), .list (v.map T.row), .val (.int .i64 m), .val (.int .i64 l), .list (Sm.rows t), .list (Sm.rows e)]
def Sm.rows : List Sm → List (List C)
  | [] => []
  | s :: l => s.row :: Sm.rows l
end
theorem Sm.rows_map : ∀ l : List Sm, Sm.rows l = l.map Sm.row
  | [] => rfl
  | s :: l => by simp [Sm.rows, Sm.rows_map l]
def Sm.kind : Sm → Int | .mk k _ _ _ _ _ _ _ => k
def Sm.name : Sm → ByteArray | .mk _ n _ _ _ _ _ _ => n
def Sm.index : Sm → List T | .mk _ _ i _ _ _ _ _ => i
def Sm.value : Sm → List T | .mk _ _ _ v _ _ _ _ => v
def Sm.max : Sm → Int | .mk _ _ _ _ m _ _ _ => m
def Sm.label : Sm → Int | .mk _ _ _ _ _ l _ _ => l
def Sm.thn : Sm → List Sm | .mk _ _ _ _ _ _ t _ => t
def Sm.els : Sm → List Sm | .mk _ _ _ _ _ _ _ e => e
abbrev Sm.row' (s : Sm) : List C := [.val (.int .i64 s.kind), .val (.string s.name), .list (s.index.map T.row), .list (s.value.map T.row), .val (.int .i64 s.max), .val (.int .i64 s.label), .list (s.thn.map Sm.row), .list (s.els.map Sm.row)]
theorem Sm.row_eq (s : Sm) : s.row = s.row' := by
  cases s
  simp [Sm.row, Sm.row', Sm.rows_map, Sm.kind, Sm.name, Sm.index, Sm.value, Sm.max, Sm.label, Sm.thn, Sm.els]
abbrev Inp := ByteArray × Int × Int
abbrev Shd := ByteArray × Int × ByteArray
abbrev Arr := ByteArray × Int
abbrev Md := ByteArray × ByteArray × Int × Int
abbrev Clm := Int × Int
abbrev InRow (x : Inp) : List C := [.val (.string x.1), .val (.int .i64 x.2.1), .val (.int .i64 x.2.2)]
abbrev ShRow (x : Shd) : List C := [.val (.string x.1), .val (.int .i64 x.2.1), .val (.string x.2.2)]
abbrev ArRow (x : Arr) : List C := [.val (.string x.1), .val (.int .i64 x.2)]
abbrev MdRow (x : Md) : List C := [.val (.string x.1), .val (.string x.2.1), .val (.int .i64 x.2.2.1), .val (.int .i64 x.2.2.2)]
abbrev ClRow (x : Clm) : List C := [.val (.int .i64 x.1), .val (.int .i64 x.2)]
structure Tk where
  name : ByteArray
  period : Int
  deadline : Int
  priority : Int
  jitter : Int
  inputs : List Inp
  vars : List ByteArray
  arrays : List Arr
  modes : List Md
  claims : List Clm
  body : List Sm
abbrev Tk.row (t : Tk) : List C := [.val (.string t.name), .val (.int .i64 t.period), .val (.int .i64 t.deadline), .val (.int .i64 t.priority), .val (.int .i64 t.jitter), .list (t.inputs.map InRow), .list (t.vars.map Wrow), .list (t.arrays.map ArRow), .list (t.modes.map MdRow), .list (t.claims.map ClRow), .list (t.body.map Sm.row)]
structure Pg where
  res : List ByteArray
  shared : List Shd
  tasks : List Tk
abbrev Pg.row (p : Pg) : List C := [.list (p.res.map Wrow), .list (p.shared.map ShRow), .list (p.tasks.map Tk.row)]
end Go.Proofs.YtamajcgdfjeehaaDoor
end

section
namespace Go.Proofs.YtamajcgdfjeehaaDoor
open Go.Vc
set_option maxHeartbeats 4000000
attribute [local irreducible] JL JC JQ OpWp Con ConN

/-- A deck: the list, and some place in it. -/
abbrev DkRow (L : List Int) : List C := [.list (L.map Irow), .ex (fun i : Fin (L.length + 1) => .val (.int .i64 (i.1 : Int)))]
abbrev Dk (b : Nat) (L : List Int) : Ch := .blk b 85 (DkRow L)

theorem gFew_c (a : List Int) : Con Tryd.prog 14 [.cell (.list (a.map Irow))] [] (fun K => K (Bl (decide (a.length ≤ 400))) []) := by
  refine con_intro Tryd.func14 rfl rfl (Nat.le_of_ble_eq_true rfl) (fun c hc => R_ (E_ r_ (T_ (R_ (M_ r_ (o_ r_ (br_ r_ (fun hlen => o_ r_ (cu_ r_ r_ (E_ r_ (T_ (ar_ (jq_ret1 rfl rfl [] rfl (fun K h => ?_))))))))))))))
  have e : decide (a.length ≤ 400) = decide (((a.map Irow).length : Int) ≤ 400) := by simp; omega
  rw [e] at h
  exact h

theorem gMod_c (n k : Int) (hk : 1 ≤ k ∧ k ≤ 1000000000) (_hn : -9223372036854775808 ≤ n ∧ n ≤ 9223372036854775807) : Con Tryd.prog 21 [In .i64 n, In .i64 k] [] (fun K => K (In .i64 (n % k)) []) := by
  have h1 := Int.tmod_lt_of_pos n (show 0 < k by omega)
  have h2 : -k < n.tmod k := by
    have := Int.tmod_lt_of_pos (-n) (show 0 < k by omega)
    rw [Int.neg_tmod] at this
    omega
  have e : (n.tmod k + k) % k = n % k := by
    rw [Int.add_emod_right, Int.tmod_eq_emod]
    split
    · rw [show (n % k - ((0 : Nat) : Int)) = n % k by omega]
      exact Int.emod_emod_of_dvd n (Int.dvd_refl k)
    · rw [Int.sub_emod, show ((k.natAbs : Int)) = k by omega, Int.emod_self, Int.sub_zero, Int.emod_emod_of_dvd _ (Int.dvd_refl k)]
      exact Int.emod_emod_of_dvd n (Int.dvd_refl k)
  refine con_intro Tryd.func21 rfl rfl (Nat.le_of_ble_eq_true rfl) (fun c hc => R_ (E_ r_ (T_ (R_ (M_ r_ (M_ r_ (o_ r_ (ch_ r_ r_ g_ (M_ r_ (o_ r_ (bj_ r_ r_ g_ (M_ r_ (o_ r_ (ow_rem64 r_ r_ g_ g_ (E_ r_ (T_ (ar_ (jq_ret1 rfl rfl [] rfl (fun K h => by rw [← e] at h; exact h)))))))))))))))))))
theorem gNew_c (L : List Int) : Con Tryd.prog 16 [.cell (.list (L.map Irow))] [] (fun K => ∀ b, K (Ptr b) [Dk b L]) := by
  refine con_intro Tryd.func16 rfl rfl (Nat.le_of_ble_eq_true rfl) (fun c hc => R_ (E_ r_ (T_ (R_ (M_ r_ (o_ r_ (bu_ r_ r_ r_ r_ r_ (o_ r_ (ci_ r_ (fun bx => E_ r_ (T_ (ar_ (jq_row 0 (DkRow L) rfl (.cons (.refl _) (.cons (.ex (fun i : Fin (L.length + 1) => .val (.int .i64 (i.1 : Int))) ⟨0, by omega⟩) .nil)) (jq_ret1 rfl rfl [0] rfl (fun K h => h bx)))))))))))))))

/-- A number from 0 to n - 1; 0 where n is less. -/
abbrev Upto (n : Int) : S := .ex (fun i : {i : Int // 0 ≤ i ∧ (i < n ∨ i = 0)} => In .i64 i.1)
theorem gNext_c (L : List Int) (b : Nat) (n : Int) (hL : ∀ x ∈ L, -9223372036854775808 ≤ x ∧ x ≤ 9223372036854775807) (hlen : L.length ≤ 400) (hn : n ≤ 1000000000) :
    Con Tryd.prog 51 [Ptr b, In .i64 n] [Dk b L] (fun K => K (Upto n) [Dk b L]) := by
  refine con_intro Tryd.func51 rfl rfl (Nat.le_of_ble_eq_true rfl) (fun c hc => jc_open 0 rfl (.there .here) (fun i => ?_))
  obtain ⟨i, hi⟩ := i
  dsimp only
  have fin : ∀ k : Nat, k ≤ L.length → RowLe [.list (L.map Irow), .val (.int .i64 (k : Int))] (DkRow L) := fun k hk => .cons (.refl _) (.cons (.ex (fun i : Fin (L.length + 1) => .val (.int .i64 (i.1 : Int))) ⟨k, by omega⟩) .nil)
  have up : ∀ k, 0 ≤ k ∧ (k < n ∨ k = 0) → SLe (In .i64 k) (Upto n) := fun k hk => SLe.ex (fun i : {i : Int // 0 ≤ i ∧ (i < n ∨ i = 0)} => In .i64 i.1) ⟨k, hk⟩
  by_cases hge : (((L.map Irow).length : Nat) : Int) ≤ (i : Int)
  · refine R_ (E_ r_ (T_ (am_ (am_ (ao_ r_ r_ k_ k_ (yM_ r_ (yN_ r_ (yF_ r_ (yL_ 0 r_ (yM_ r_ (yN_ r_ (yF_ r_ (yL_ 0 r_ (aa_ (fun c => br_ r_ (fun hlen => p_)) (aa_ (fun c => cn_ r_ r_ p_) ?_)))))))))))))))
    refine yM_ r_ (ac_ r_ u_ (ac_ r_ u_ (aa_ (fun c => bp_ r_ u_ r_ p_) (ae_ (al_ (jc_cond rfl (fun _ => R_ (E_ r_ (T_ (ar_ (aw_ (jq_row 0 _ rfl (fin i g_) (jq_sle 4 rfl (up 0 g_) (jq_ret1 rfl rfl [0] rfl (fun K h => h))))))))) (fun h => by cases h)))))))
  · by_cases hn1 : n ≤ 1
    · refine R_ (E_ r_ (T_ (am_ (am_ (ao_ r_ r_ k_ k_ (yM_ r_ (yN_ r_ (yF_ r_ (yL_ 0 r_ (yM_ r_ (yN_ r_ (yF_ r_ (yL_ 0 r_ (aa_ (fun c => br_ r_ (fun hlen => p_)) (aa_ (fun c => cn_ r_ r_ p_) ?_)))))))))))))))
      refine yM_ r_ (ab_ r_ w_ (fun c => bd_ r_ p_) (ab_ r_ w_ (fun c => cu_ r_ r_ p_) (aa_ (fun c => bv_ r_ w_ r_ p_) (ae_ (al_ (jc_condd rfl (fun _ => R_ (E_ r_ (T_ (ar_ (aw_ (jq_row 0 _ rfl (fin i g_) (jq_sle 4 rfl (up 0 g_) (jq_ret1 rfl rfl [0] rfl (fun K h => h))))))))) (fun h => absurd hn1 h)))))))
    · have hlt : i < L.length := by simp at hge; omega
      have hlt2 : ((i : Int) + 1 - 1).toNat < L.length := by omega
      have hr := hL L[((i : Int) + 1 - 1).toNat] (List.getElem_mem hlt2)
      have hm := Int.emod_nonneg L[((i : Int) + 1 - 1).toNat] (show n ≠ 0 by omega)
      have hm2 := Int.emod_lt_of_pos L[((i : Int) + 1 - 1).toNat] (show 0 < n by omega)
      refine R_ (E_ r_ (T_ (am_ (am_ (ao_ r_ r_ k_ k_ (yM_ r_ (yN_ r_ (yF_ r_ (yL_ 0 r_ (yM_ r_ (yN_ r_ (yF_ r_ (yL_ 0 r_ (aa_ (fun c => br_ r_ (fun hlen => p_)) (aa_ (fun c => cn_ r_ r_ p_) ?_)))))))))))))))
      refine yM_ r_ (ab_ r_ w_ (fun c => bd_ r_ p_) (ab_ r_ w_ (fun c => cu_ r_ r_ p_) (aa_ (fun c => bv_ r_ w_ r_ p_) (ae_ (al_ (jc_condd rfl (fun h => absurd h hn1) (fun _ => as_ (al_ (R_ (M_ r_ (N_ r_ (F_ r_ (L_ 0 r_ (o_ r_ (bj_ r_ r_ g_ (N_ r_ ?_))))))))))))))))
      refine F_ r_ (W_ 0 r_ (T_ (am_ (ao_ r_ r_ k_ k_ (yM_ r_ (yN_ r_ (yF_ r_ (yL_ 0 r_ (yM_ r_ (yN_ r_ (yF_ r_ (yL_ 0 r_ (aa_ (fun c => cg_ r_ r_ g_ p_) (aa_ (fun c => cv_ r_ r_ g_ g_ r_ r_ b_ p_) (aa_ (fun c => cb_ r_ r_ p_) ?_)))))))))))))))
      refine yM_ r_ (aa_ (fun c => bm_ r_ (gMod_c _ _ g_ hr) p_) (yE_ r_ (ae_ (al_ (ar_ (jq_row 0 _ rfl (fin (i + 1) g_) (jq_sle 4 rfl (up _ ⟨hm, .inl hm2⟩) (jq_ret1 rfl rfl [0] rfl (fun K h => h)))))))))

theorem gNum_c (n : Int) : Con Tryd.prog 142 [In .i64 n] [] (fun K => K (.row (T.nu n).row') []) := by
  refine con_intro Tryd.func142 rfl rfl (Nat.le_of_ble_eq_true rfl) (fun c hc => R_ (o_ r_ (bl_ r_ r_ (fun bl => T_ (R_ (M_ r_ (o_ r_ (bu_ r_ r_ r_ r_ r_ (S_ 0 r_ (T_ (ar_ (jq_row 0 (T.nu n).row' rfl ?_ ?_))))))))))))
  · (repeat (first | exact RowLe.nil | refine RowLe.cons (CLe.refl _) ?_ | refine RowLe.cons CLe.nil ?_))
  · refine jq_retRow rfl rfl rfl rfl 0 rfl [] rfl (fun K h => h)
theorem gName_c (s : ByteArray) : Con Tryd.prog 145 [Str s] [] (fun K => K (.row (T.nm s).row') []) := by
  refine con_intro Tryd.func145 rfl rfl (Nat.le_of_ble_eq_true rfl) (fun c hc => R_ (o_ r_ (bl_ r_ r_ (fun bl => T_ (R_ (M_ r_ (o_ r_ (bu_ r_ r_ r_ r_ r_ (S_ 0 r_ (T_ (ar_ (jq_row 0 (T.nm s).row' rfl ?_ ?_))))))))))))
  · (repeat (first | exact RowLe.nil | refine RowLe.cons (CLe.refl _) ?_ | refine RowLe.cons CLe.nil ?_))
  · refine jq_retRow rfl rfl rfl rfl 0 rfl [] rfl (fun K h => h)
theorem gBin_c (o : Int) (a b : T) : Con Tryd.prog 143 [In .i64 o, .row a.row', .row b.row'] [] (fun K => K (.row (T.bn o a b).row') []) := by
  refine con_intro Tryd.func143 rfl rfl (Nat.le_of_ble_eq_true rfl) (fun c hc => R_ (o_ r_ (ci_ r_ (fun bx => o_ r_ (ci_ r_ (fun bx => o_ r_ (bl_ r_ r_ (fun bl => T_ (R_ (M_ r_ (A_ 2 r_ (A_ 1 r_ (o_ r_ (bq_ r_ r_ b_ r_ r_ b_ (o_ r_ (bu_ r_ r_ r_ r_ r_ (S_ 0 r_ (T_ (ar_ (jq_row 0 (T.bn o a b).row' rfl ?_ ?_))))))))))))))))))))
  · (repeat (first | exact RowLe.nil | refine RowLe.cons (CLe.refl _) ?_ | refine RowLe.cons CLe.nil ?_))
    exact RowLe.cons (CLe.eq (by simp [T.row_eq, T.args])) .nil
  · refine jq_retRow rfl rfl rfl rfl 0 rfl [] rfl (fun K h => h)

abbrev InR (L : List Int) : Prop := ∀ x ∈ L, -9223372036854775808 ≤ x ∧ x ≤ 9223372036854775807
theorem Nx_c {L : List Int} {b : Nat} (n : Int) (hL : InR L) (hLn : L.length ≤ 400) (hn : n ≤ 1000000000) :
    Con Tryd.prog 51 [Ptr b, In .i64 n] [Dk b L] (fun K => ∀ i : Int, (0 ≤ i ∧ (i < n ∨ i = 0)) → K (In .i64 i) [Dk b L]) :=
  con_exP (gNext_c L b n hL hLn hn)

theorem gOp_c {L : List Int} {b : Nat} (hL : InR L) (hLn : L.length ≤ 400) :
    Con Tryd.prog 144 [Ptr b] [Dk b L] (fun K => ∀ i : Int, (1 ≤ i ∧ i ≤ 14) → K (In .i64 i) [Dk b L]) := by
  refine con_intro Tryd.func144 rfl rfl (Nat.le_of_ble_eq_true rfl) (fun c hc => R_ (E_ r_ (T_ (R_ (M_ r_ (o_ r_ (bt_ [0] rfl rfl (Nx_c _ hL hLn g_) (fun i hi => o_ r_ (bj_ r_ r_ g_ (E_ r_ (T_ (ar_ (jq_ret1 rfl rfl [0] rfl (fun K h => h (1 + i) g_))))))))))))))

theorem gWord_c {L : List Int} {b : Nat} (hL : InR L) (hLn : L.length ≤ 400) :
    Con Tryd.prog 141 [Ptr b] [Dk b L] (fun K => ∀ i : Int, (-2147483648 ≤ i ∧ i ≤ 2147483647) → K (In .i64 i) [Dk b L]) := by
  refine con_intro Tryd.func141 rfl rfl (Nat.le_of_ble_eq_true rfl) (fun c hc => R_ (E_ r_ (T_ (am_ (R_ (M_ r_ (o_ r_ (bt_ [0] rfl rfl (Nx_c _ hL hLn g_) (fun k hk => T_ (au_ (R_ (o_ r_ (bn_ r_ r_ (E_ r_ (T_ (jc_condd rfl (fun h0 => ?_) (fun h0 => ?_)))))))))))))))))
  · refine R_ (M_ r_ (o_ r_ (bt_ [0] rfl rfl (Nx_c _ hL hLn g_) (fun i hi => o_ r_ (cy_ r_ g_ (E_ r_ (T_ (ar_ (az_ (aw_ (jq_ret1 rfl rfl [0] rfl (fun K h => h _ g_))))))))))))
  refine R_ (o_ r_ (bn_ r_ r_ (E_ r_ (T_ (jc_condd rfl (fun h1 => ?_) (fun h1 => ?_))))))
  · refine R_ (M_ r_ (o_ r_ (bt_ [0] rfl rfl (Nx_c _ hL hLn g_) (fun i hi => o_ r_ (cg_ r_ r_ g_ (E_ r_ (T_ (ar_ (az_ (aw_ (jq_ret1 rfl rfl [0] rfl (fun K h => h _ g_))))))))))))
  refine R_ (o_ r_ (bn_ r_ r_ (E_ r_ (T_ (jc_condd rfl (fun h2 => ?_) (fun h2 => ?_))))))
  · refine R_ (M_ r_ (o_ r_ (bt_ [0] rfl rfl (Nx_c _ hL hLn g_) (fun i hi => o_ r_ (bj_ r_ r_ g_ (E_ r_ (T_ (ar_ (az_ (aw_ (jq_ret1 rfl rfl [0] rfl (fun K h => h _ g_))))))))))))
  refine R_ (o_ r_ (bn_ r_ r_ (E_ r_ (T_ (jc_condd rfl (fun h3 => ?_) (fun h3 => ?_))))))
  · refine R_ (M_ r_ (o_ r_ (bt_ [0] rfl rfl (Nx_c _ hL hLn g_) (fun i hi => ?_))))
    have h5 : (0 : Int) ≤ 1 * 2 ^ i.toNat ∧ (1 : Int) * 2 ^ i.toNat ≤ 1073741824 := by
      have h6 : (2 : Nat) ^ i.toNat ≤ 2 ^ 30 := Nat.pow_le_pow_right (by omega) (by omega)
      have h7 : ((2 ^ i.toNat : Nat) : Int) = (2 : Int) ^ i.toNat := by simp
      have h8 : (0 : Int) ≤ (2 : Int) ^ i.toNat := h7 ▸ Int.natCast_nonneg _
      omega
    refine o_ r_ (ow_convU64 r_ r_ r_ g_ (o_ r_ (ow_shl64 r_ r_ g_ g_ (E_ r_ (T_ (ar_ (az_ (aw_ (jq_ret1 rfl rfl [0] rfl (fun K h => h _ g_))))))))))
  · refine as_ (ay_ (al_ (R_ (M_ r_ (o_ r_ (bt_ [0] rfl rfl (Nx_c _ hL hLn g_) (fun i hi => E_ r_ (T_ (ar_ (jq_ret1 rfl rfl [0] rfl (fun K h => h _ g_)))))))))))

/-- The deck, the variables, the slice of the loops under way, the arrays, the shared arrays, what is held, labels, statements left, loops under way. -/
abbrev MkRow (bd : Nat) (V : List ByteArray) (lv : Value) (A : List ByteArray) (Sh : List Shd) (hs : ByteArray) (lab st il : Int) : List C :=
  [.val (.pointer (some ⟨bd, 0, none⟩)), .list (V.map Wrow), .val lv, .list (A.map Wrow), .list (Sh.map ShRow), .val (.string hs), .val (.int .i64 lab), .val (.int .i64 st), .val (.int .i64 il)]
abbrev Mk (bm bd : Nat) (V : List ByteArray) (lv : Value) (A : List ByteArray) (Sh : List Shd) (hs : ByteArray) (lab st il : Int) : Ch := .blk bm 138 (MkRow bd V lv A Sh hs lab st il)

theorem gname_c {L : List Int} {bm bd : Nat} {V A : List ByteArray} {lv : Value} {Sh : List Shd} {hs : ByteArray} {lab st il : Int} (hL : InR L) (hLn : L.length ≤ 400) (l : List ByteArray) (h0 : 0 < l.length) (h1 : l.length ≤ 1000) :
    Con Tryd.prog 126 [Ptr bm, .cell (.list (l.map Wrow))] [Mk bm bd V lv A Sh hs lab st il, Dk bd L] (fun K => ∀ s : ByteArray, s ∈ l → K (Str s) [Mk bm bd V lv A Sh hs lab st il, Dk bd L]) := by
  refine con_intro Tryd.func126 rfl rfl (Nat.le_of_ble_eq_true rfl) (fun c hc => R_ (E_ r_ (T_ (R_ (M_ r_ (M_ r_ (N_ r_ (F_ r_ (L_ 0 r_ (M_ r_ (o_ r_ (br_ r_ (fun hlen => o_ r_ (bt_ [1] rfl rfl (Nx_c _ hL hLn (by simp; omega)) (fun i hi => ?_)))))))))))))))
  simp only [List.length_map] at hi
  refine o_ r_ (cv_ r_ r_ g_ g_ r_ r_ b_ (o_ r_ (cb_ r_ r_ (E_ r_ (T_ (ar_ (jq_ret1 rfl rfl [1, 0] rfl (fun K h => h _ (List.getElem_mem _)))))))))
end Go.Proofs.YtamajcgdfjeehaaDoor
end

section
namespace Go.Proofs.YtamajcgdfjeehaaDoor
open Go.Vc
set_option maxHeartbeats 4000000
attribute [local irreducible] JL JC JQ OpWp Con ConN


def usableF (A : List ByteArray) (Sh : List Shd) (hs : ByteArray) : List ByteArray := A ++ Sh.filterMap fun s => if s.2.2 = hs then some s.1 else none
theorem usable_len (A : List ByteArray) (Sh : List Shd) (hs : ByteArray) : (usableF A Sh hs).length ≤ A.length + Sh.length := by
  unfold usableF
  rw [List.length_append]
  have := List.length_filterMap_le (fun s : Shd => if s.2.2 = hs then some s.1 else none) Sh
  omega
/-- An expression of at most a depth, of some variables, arrays. -/
inductive ExG (V U : List ByteArray) : Nat → T → Prop
  | nu (d : Nat) (n : Int) (h : -2147483647 ≤ n ∧ n ≤ 2147483647) : ExG V U d (.nu n)
  | nm (d : Nat) (s : ByteArray) (h : s ∈ V) : ExG V U d (.nm s)
  | ix (d : Nat) (s : ByteArray) (t : T) (h : s ∈ U) (ht : ExG V U d t) : ExG V U (d + 1) (.ix s t)
  | bn (d : Nat) (o : Int) (a b : T) (ho : 1 ≤ o ∧ o ≤ 14) (ha : ExG V U d a) (hb : ExG V U d b) : ExG V U (d + 1) (.bn o a b)
theorem ExG.pos {x : Int} (h : 0 < x) : x.toNat = (x - 1).toNat + 1 := by omega
section
variable {L : List Int} {bm bd : Nat} {V A LS : List ByteArray} {lv : Value} {Sh : List Shd} {hs : ByteArray} {lab st il : Int}

theorem gusable_c (hA : A.length ≤ 100) (hSh : Sh.length ≤ 100) :
    Con Tryd.prog 125 [Ptr bm] [Mk bm bd V lv A Sh hs lab st il] (fun K => K (.cell (.list ((usableF A Sh hs).map Wrow))) [Mk bm bd V lv A Sh hs lab st il]) := by
  have eS : (Sh.map ShRow).length = Sh.length := List.length_map _
  refine con_intro Tryd.func125 rfl rfl (Nat.le_of_ble_eq_true rfl) (fun c hc => R_ (E_ r_ (T_ (R_ (o_ r_ (ow_buildSliceOwn rfl rfl b_ rfl rfl b_ (fun v0 hv0 fv0 => M_ r_ (N_ r_ (F_ r_ (L_ 1 r_ (o_ r_ (ow_appendM (f := Wrow) (l1 := []) (l2 := A) 0 rfl rfl rfl rfl rfl rfl rfl (fun _ => rfl) (by show (0 + _) * 16 ≤ _; omega) (by simp; omega) (fun v1 hv1 => E_ r_ (T_ (am_ (R_ (E_ r_ ?_)))))))))))))))))
  refine T_ (au_ (jc_loopS (ι := Nat × Value) [] (fun i => i.1 ≤ Sh.length) (fun i => [(0, Ptr bm), (3, .cell (.val i.2)), (4, In .i64 (i.1 : Int))]) (fun i => [.own i.2 9 1 ((usableF A (Sh.take i.1) hs).map Wrow), Mk bm bd V lv A Sh hs lab st il]) (fun i => Sh.length - i.1) (0, v1) (Nat.zero_le _) ?_ ?_ ?_))
  · rw [show usableF A (Sh.take 0) hs = A by simp [usableF]]
    exact bc_ 0 r_ (bc_ 0 r_ sub_end)
  · (repeat (first | exact True.intro | refine ⟨rfl, ?_⟩))
  rintro ⟨k, v⟩ hk
  dsimp only at hk ⊢
  have hlen := usable_len A (Sh.take k) hs
  have htk : (Sh.take k).length ≤ k := by rw [List.length_take]; omega
  refine jc_reset [(0, Ptr bm), (3, .cell (.val v)), (4, In .i64 (k : Int))] [.own v 9 1 ((usableF A (Sh.take k) hs).map Wrow), Mk bm bd V lv A Sh hs lab st il] ?_ ⟨[0, 0], [], rfl⟩ ?_
  · (repeat (first | exact True.intro | refine ⟨rfl, ?_⟩))
  by_cases hlt : k < Sh.length
  · have hlt' : (k : Int) < ((Sh.map ShRow).length : Int) := by omega
    by_cases he : Sh[k].2.2 = hs
    · have e2 : usableF A (Sh.take (k + 1)) hs = usableF A (Sh.take k) hs ++ [Sh[k].1] := by
        unfold usableF
        rw [List.take_succ_eq_append_getElem hlt, List.filterMap_append, List.append_assoc]
        simp [he]
      refine am_ (R_ (M_ r_ (M_ r_ (N_ r_ (F_ r_ (L_ 1 r_ (o_ r_ (br_ r_ (fun hlen => o_ r_ (bw_ r_ r_ (T_ (aq_ r_ u_ (as_ (al_ (B_ (am_ (ao_ r_ r_ k_ k_ ?_)))))))))))))))))
      refine yM_ r_ (yN_ r_ (yF_ r_ (yL_ 1 r_ (yM_ r_ (aa_ (fun c => cc_ r_ r_ g_ r_ r_ b_ p_) (aa_ (fun c => cf_ r_ r_ r_ b_ r_ b_ p_) (aa_ (fun c => cb_ r_ r_ p_) (yM_ r_ (yN_ r_ (yF_ r_ (yL_ 1 r_ (aa_ (fun c => cs_ r_ r_ p_) (ae_ (al_ (aq_ r_ u_ ?_)))))))))))))))
      refine an_ (M_ r_ (M_ r_ (N_ r_ (F_ r_ (L_ 1 r_ (M_ r_ (o_ r_ (cc_ r_ r_ g_ r_ r_ b_ (o_ r_ (cf_ r_ r_ r_ b_ r_ b_ (o_ r_ (cf_ r_ r_ r_ b_ r_ b_ (o_ r_ (cb_ r_ r_ (o_ r_ (bq_ r_ r_ b_ r_ r_ b_ ?_))))))))))))))))
      refine o_ r_ (ow_append1 0 (Sh[k].1) rfl rfl rfl rfl rfl rfl rfl (fun _ => rfl) (by show (_ + _) * 16 ≤ _; first | omega | (simp only [List.length_append]; omega)) (by first | omega | (simp only [List.length_append]; omega)) (fun v2 hv2 => E_ r_ (ak_ (ay_ (al_ (an_ (M_ r_ (o_ r_ (bj_ r_ r_ g_ (E_ r_ (ak_ (jq_againS (i := (k, v)) ((k + 1, v2) : Nat × Value) hlt (by dsimp only; omega) ?_ ?_))))))))))))
      · rw [e2]
        exact bc_ 0 r_ (bc_ 0 r_ sub_end)
      · (repeat (first | exact True.intro | refine ⟨rfl, ?_⟩))
    · have e2 : usableF A (Sh.take (k + 1)) hs = usableF A (Sh.take k) hs := by
        unfold usableF
        rw [List.take_succ_eq_append_getElem hlt, List.filterMap_append]
        simp [he]
      refine am_ (R_ (M_ r_ (M_ r_ (N_ r_ (F_ r_ (L_ 1 r_ (o_ r_ (br_ r_ (fun hlen => o_ r_ (bw_ r_ r_ (T_ (aq_ r_ u_ (as_ (al_ (B_ (am_ (ao_ r_ r_ k_ k_ ?_)))))))))))))))))
      refine yM_ r_ (yN_ r_ (yF_ r_ (yL_ 1 r_ (yM_ r_ (aa_ (fun c => cc_ r_ r_ g_ r_ r_ b_ p_) (aa_ (fun c => cf_ r_ r_ r_ b_ r_ b_ p_) (aa_ (fun c => cb_ r_ r_ p_) (yM_ r_ (yN_ r_ (yF_ r_ (yL_ 1 r_ (aa_ (fun c => cs_ r_ r_ p_) (ae_ (al_ (ap_ r_ w_ ?_)))))))))))))))
      refine as_ (ay_ (al_ (an_ (M_ r_ (o_ r_ (bj_ r_ r_ g_ (E_ r_ (ak_ (jq_againS (i := (k, v)) ((k + 1, v) : Nat × Value) hlt (by dsimp only; omega) ?_ ?_)))))))))
      · rw [e2]
        exact bc_ 0 r_ (bc_ 0 r_ sub_end)
      · (repeat (first | exact True.intro | refine ⟨rfl, ?_⟩))
  · have hlt' : ¬ (k : Int) < ((Sh.map ShRow).length : Int) := by omega
    have e2 : Sh.take k = Sh := List.take_of_length_le (by omega)
    rw [e2]
    refine am_ (R_ (M_ r_ (M_ r_ (N_ r_ (F_ r_ (L_ 1 r_ (o_ r_ (br_ r_ (fun hlen => o_ r_ (bw_ r_ r_ (T_ (ap_ r_ w_ (av_ (ax_ (ax_ (ba_ (al_ ?_)))))))))))))))))
    refine R_ (M_ r_ (E_ r_ (T_ (ar_ (jq_freeze 2 0 rfl rfl (by rw [hc]; simp [hb]) (jq_ret1 rfl rfl [0] rfl (fun K h => h)))))))
theorem gtarget_c (hL : InR L) (hLn : L.length ≤ 400) (hV0 : 0 < V.length) (hV : V.length ≤ 100) (hLS : LS.length ≤ 100) :
    Con Tryd.prog 130 [Ptr bm] [Mk bm bd V lv A Sh hs lab st il, Dk bd L, .own lv 9 1 (LS.map Wrow)] (fun K => ∀ s : ByteArray, s ∈ V → K (Str s) [Mk bm bd V lv A Sh hs lab st il, Dk bd L, .own lv 9 1 (LS.map Wrow)]) := by
  have eV : (V.map Wrow).length = V.length := List.length_map _
  refine con_intro Tryd.func130 rfl rfl (Nat.le_of_ble_eq_true rfl) (fun c hc => R_ (E_ r_ (T_ (R_ (M_ r_ (M_ r_ (N_ r_ (F_ r_ (L_ 0 r_ (o_ r_ (bt_ [0, 0] rfl rfl (gname_c hL hLn V hV0 g_) (fun s hs1 => E_ r_ (T_ (am_ (R_ (E_ r_ ?_))))))))))))))))
  refine T_ (au_ (jc_loop [0, 3] (fun k => k ≤ LS.length) (fun k => [(4, In .i64 (k : Int))]) (fun _ => [Mk bm bd V lv A Sh hs lab st il, Dk bd L, .own lv 9 1 (LS.map Wrow)]) (fun k => LS.length - k) 0 [0, 0, 0] (Nat.zero_le _) rfl ?_ ?_))
  · (repeat (first | exact True.intro | refine ⟨rfl, ?_⟩))
  · intro k hk
    refine am_ (R_ (M_ r_ (M_ r_ (N_ r_ (F_ r_ (L_ 0 r_ (o_ r_ (cw_ 2 r_ r_ (fun hlen => o_ r_ (bw_ r_ r_ (T_ (jc_condd rfl (fun hlt => ?_) (fun hge => ?_)))))))))))))
    · simp only [List.length_map, Int.ofNat_lt] at hlt
      refine as_ (al_ (B_ (R_ (M_ r_ (N_ r_ (F_ r_ (L_ 0 r_ (M_ r_ (o_ r_ (dc_ 2 rfl rfl rfl g_ (by simp only [List.length_map]; omega) rfl (o_ r_ (db_ 2 r_ r_ r_ g_ r_ (M_ r_ (o_ r_ (cs_ r_ r_ (T_ (jc_condd rfl (fun he => ?_) (fun hne => ?_))))))))))))))))))
      · refine am_ (ao_ r_ r_ k_ k_ (yM_ r_ (yN_ r_ (yF_ r_ (yL_ 0 r_ (yM_ r_ (yN_ r_ (yF_ r_ (yL_ 0 r_ (aa_ (fun c => br_ r_ (fun hlen => p_)) (aa_ (fun c => cg_ r_ r_ g_ p_) (aa_ (fun c => cv_ r_ r_ g_ g_ r_ r_ b_ p_) (aa_ (fun c => cb_ r_ r_ p_) (yE_ r_ (ae_ ?_)))))))))))))))
        refine al_ (ar_ (az_ (aw_ (aw_ (az_ (aw_ (jq_ret1 rfl rfl [0, 0, 0] rfl (fun K h => h _ (List.getElem_mem _)))))))))
      · refine as_ (ay_ (al_ (an_ (M_ r_ (o_ r_ (bj_ r_ r_ g_ (E_ r_ (ak_ (jq_again (k + 1) [0, 0, 0] hlt g_ rfl ?_)))))))))
        (repeat (first | exact True.intro | refine ⟨rfl, ?_⟩))
    · refine av_ (ax_ (ax_ (ba_ (al_ (R_ (M_ r_ (E_ r_ (T_ (ar_ (jq_ret1 rfl rfl [0, 0, 0] rfl (fun K h => h _ hs1)))))))))))

theorem gexpr_step (hL : InR L) (hLn : L.length ≤ 400) (hV0 : 0 < V.length) (hV : V.length ≤ 100) (hA : A.length ≤ 100) (hSh : Sh.length ≤ 100) (d : Int) (hd0 : -100 ≤ d) (hd1 : d ≤ 100)
    (ih : 0 < d → Con Tryd.prog 127 [Ptr bm, In .i64 (d - 1)] [Mk bm bd V lv A Sh hs lab st il, Dk bd L] (fun K => ∀ e : T, ExG V (usableF A Sh hs) (d - 1).toNat e → K (.row e.row') [Mk bm bd V lv A Sh hs lab st il, Dk bd L])) :
    Con Tryd.prog 127 [Ptr bm, In .i64 d] [Mk bm bd V lv A Sh hs lab st il, Dk bd L] (fun K => ∀ e : T, ExG V (usableF A Sh hs) d.toNat e → K (.row e.row') [Mk bm bd V lv A Sh hs lab st il, Dk bd L]) := by
  refine con_intro Tryd.func127 rfl rfl (Nat.le_of_ble_eq_true rfl) (fun c hc => R_ (o_ r_ (bl_ r_ r_ (fun bl => T_ (R_ (M_ r_ (N_ r_ (F_ r_ (L_ 1 r_ (o_ r_ (bt_ [2] rfl rfl (Nx_c _ hL hLn g_) (fun k0 hk0 => E_ r_ (T_ (am_ (R_ (M_ r_ (o_ r_ (cu_ r_ r_ ?_))))))))))))))))))
  refine T_ ?_
  have ht : 0 ≤ k0 % 3 ∧ k0 % 3 ≤ 2 := by omega
  refine jc_cut (ι := Int) [0, 1, 4] (fun k => 0 ≤ k ∧ k ≤ 5 ∧ (d ≤ 0 → k ≤ 2)) (fun k => [(5, In .i64 k)]) (fun _ => [Mk bm bd V lv A Sh hs lab st il, Dk bd L, .blk bl 27 [.val (.int .i64 0), .val (.int .i64 0), .val (.string ⟨#[]⟩), .val (.int .i64 0), .val (.slice none 0 0)]]) ?_ ?_
  · refine jc_condd rfl (fun hd => ?_) (fun hd => ?_)
    · refine an_ (M_ r_ (o_ r_ (ow_rem64 r_ r_ g_ g_ (E_ r_ (ak_ (jq_cut (k0 % 3) [2, 0, 0] ⟨ht.1, by omega, fun _ => ht.2⟩ rfl ?_))))))
      (repeat (first | exact True.intro | refine ⟨rfl, ?_⟩))
    · refine as_ (jq_cut k0 [2, 0, 0] ⟨hk0.1, by omega, fun h => absurd h hd⟩ rfl ?_)
      (repeat (first | exact True.intro | refine ⟨rfl, ?_⟩))
  · intro k ⟨hka, hkb, hkd⟩
    refine am_ (R_ (M_ r_ (T_ (au_ (R_ (o_ r_ (bn_ r_ r_ (E_ r_ (T_ (jc_condd rfl (fun h0 => ?_) (fun h0 => ?_)))))))))))
    · refine R_ (M_ r_ (N_ r_ (F_ r_ (L_ 0 r_ (o_ r_ (bt_ [1] rfl rfl (Nx_c _ hL hLn g_) (fun n1 hn1 => E_ r_ (T_ (am_ (R_ (M_ r_ (N_ r_ (F_ r_ (L_ 1 r_ (o_ r_ (bt_ [0] rfl rfl (Nx_c _ hL hLn g_) (fun n2 hn2 => o_ r_ (bn_ r_ r_ ?_))))))))))))))))))
      refine T_ (jc_cut (ι := Int) [0, 1, 4] (fun k => -2147483647 ≤ k ∧ k ≤ 2147483647) (fun k => [(6, In .i64 k)]) (fun _ => [Mk bm bd V lv A Sh hs lab st il, Dk bd L, .blk bl 27 [.val (.int .i64 0), .val (.int .i64 0), .val (.string ⟨#[]⟩), .val (.int .i64 0), .val (.slice none 0 0)]]) ?_ ?_)
      · refine jc_condd rfl (fun _ => ?_) (fun _ => ?_)
        · refine an_ (M_ r_ (N_ r_ (F_ r_ (L_ 1 r_ (o_ r_ (bt_ [0] rfl rfl (gWord_c hL hLn) (fun n3 hn3 => o_ r_ (ck_ r_ r_ (E_ r_ (ak_ (jq_cut (max (-2147483647) n3) [1, 0, 0] g_ rfl ?_)))))))))))
          (repeat (first | exact True.intro | refine ⟨rfl, ?_⟩))
        · refine as_ (jq_cut n1 [1, 0, 0] g_ rfl ?_)
          (repeat (first | exact True.intro | refine ⟨rfl, ?_⟩))
      · intro n3 hn3
        refine R_ (M_ r_ (o_ r_ (bm_ r_ (gNum_c _) (S_ 2 r_ (T_ (ar_ (az_ (aw_ (jq_retRow rfl rfl rfl rfl 0 rfl [1, 1] rfl (fun K h => h _ (.nu _ _ hn3)))))))))))
    · refine R_ (o_ r_ (bn_ r_ r_ (E_ r_ (T_ (jc_condd rfl (fun h3 => ?_) (fun h3 => ?_))))))
      · refine R_ (M_ r_ ?_)
        have hU := usable_len A Sh hs
        refine o_ r_ (bi_ [0] r_ r_ (gusable_c hA hSh) (E_ r_ (T_ (R_ (M_ r_ (o_ r_ (br_ r_ (fun hlen => o_ r_ (bz_ r_ r_ (T_ (jc_condd rfl (fun hp => ?_) (fun hp => ?_))))))))))))
        · simp only [List.length_map] at hp
          refine R_ (M_ r_ (M_ r_ (o_ r_ (bt_ [0, 0] rfl rfl (gname_c hL hLn (usableF A Sh hs) g_ g_) (fun s hs1 => M_ r_ (M_ r_ (o_ r_ (cg_ r_ r_ g_ (o_ r_ (bt_ [0, 0] rfl rfl (ih g_) (fun e1 he1 => o_ r_ (bq_ r_ r_ b_ r_ r_ b_ (o_ r_ (bu_ r_ r_ r_ r_ r_ (S_ 2 r_ (T_ (ar_ (az_ (aw_ (jq_row 0 (T.ix s e1).row' rfl ?_ ?_))))))))))))))))))))
          · (repeat (first | exact RowLe.nil | refine RowLe.cons (CLe.refl _) ?_ | refine RowLe.cons CLe.nil ?_))
            exact RowLe.cons (CLe.eq (by simp [T.row_eq, T.args])) .nil
          · refine jq_retRow rfl rfl rfl rfl 0 rfl [1, 1] rfl (fun K h => h _ (by rw [ExG.pos (x := d) g_]; exact .ix _ _ _ hs1 he1))
        · refine as_ (ay_ (al_ (R_ (M_ r_ (M_ r_ (N_ r_ (F_ r_ (L_ 0 r_ (o_ r_ (bt_ [0, 0] rfl rfl (gname_c hL hLn V hV0 g_) (fun s hs1 => o_ r_ (bm_ r_ (gName_c _) (S_ 2 r_ (T_ (ar_ (jq_retRow rfl rfl rfl rfl 0 rfl [1, 1] rfl (fun K h => h _ (.nm _ _ hs1))))))))))))))))))
      · refine am_ (R_ (o_ r_ (bn_ r_ r_ (E_ r_ (T_ (jc_condd rfl (fun h4 => ?_) (fun h4 => ?_)))))))
        · refine as_ (al_ (jc_condd rfl (fun _ => R_ (M_ r_ (N_ r_ (F_ r_ (L_ 0 r_ (o_ r_ (bt_ [1] rfl rfl (gOp_c hL hLn) (fun o ho => M_ r_ (M_ r_ (o_ r_ (cg_ r_ r_ g_ (o_ r_ (bt_ [1, 0] rfl rfl (ih g_) (fun e1 he1 => M_ r_ (M_ r_ (o_ r_ (cg_ r_ r_ g_ ?_))))))))))))))))) (fun h => absurd h4 h)))
          refine o_ r_ (bt_ [0, 0] rfl rfl (ih g_) (fun e2 he2 => o_ r_ (bm_ r_ (gBin_c _ _ _) (S_ 2 r_ (T_ (ar_ (az_ (aw_ (jq_retRow rfl rfl rfl rfl 0 rfl [1, 1] rfl (fun K h => h _ (by rw [ExG.pos (x := d) g_]; exact .bn _ _ _ _ ho he1 he2)))))))))))
        · refine an_ (o_ r_ (bn_ r_ r_ (E_ r_ (T_ (jc_condd rfl (fun h5 => ?_) (fun h5 => ?_))))))
          · refine R_ (M_ r_ (N_ r_ (F_ r_ (L_ 0 r_ (o_ r_ (bt_ [1] rfl rfl (gOp_c hL hLn) (fun o ho => M_ r_ (M_ r_ (o_ r_ (cg_ r_ r_ g_ (o_ r_ (bt_ [1, 0] rfl rfl (ih g_) (fun e1 he1 => M_ r_ (M_ r_ (o_ r_ (cg_ r_ r_ g_ (o_ r_ (bt_ [0, 0] rfl rfl (ih g_) (fun e2 he2 => o_ r_ (bm_ r_ (gBin_c _ _ _) (S_ 2 r_ ?_)))))))))))))))))))))
            refine T_ (ar_ (az_ (aw_ (jq_retRow rfl rfl rfl rfl 0 rfl [1, 1] rfl (fun K h => h _ (by rw [ExG.pos (x := d) g_]; exact .bn _ _ _ _ ho he1 he2))))))
          · refine as_ (ay_ (al_ (R_ (M_ r_ (M_ r_ (N_ r_ (F_ r_ (L_ 0 r_ (o_ r_ (bt_ [0, 0] rfl rfl (gname_c hL hLn V hV0 g_) (fun s hs1 => o_ r_ (bm_ r_ (gName_c _) (S_ 2 r_ (T_ (ar_ (jq_retRow rfl rfl rfl rfl 0 rfl [1, 1] rfl (fun K h => h _ (.nm _ _ hs1))))))))))))))))))

theorem gexpr_c (hL : InR L) (hLn : L.length ≤ 400) (hV0 : 0 < V.length) (hV : V.length ≤ 100) (hA : A.length ≤ 100) (hSh : Sh.length ≤ 100) : ∀ (n : Nat) (d : Int), d ≤ n → -100 ≤ d → n ≤ 100 →
    Con Tryd.prog 127 [Ptr bm, In .i64 d] [Mk bm bd V lv A Sh hs lab st il, Dk bd L] (fun K => ∀ e : T, ExG V (usableF A Sh hs) d.toNat e → K (.row e.row') [Mk bm bd V lv A Sh hs lab st il, Dk bd L])
  | 0, d, h1, h2, _ => gexpr_step hL hLn hV0 hV hA hSh d h2 (by omega) (fun h => by omega)
  | n + 1, d, h1, h2, h3 => gexpr_step hL hLn hV0 hV hA hSh d h2 (by omega) (fun h => gexpr_c hL hLn hV0 hV hA hSh n (d - 1) (by omega) (by omega) (by omega))
end
end Go.Proofs.YtamajcgdfjeehaaDoor
end

section
namespace Go.Proofs.YtamajcgdfjeehaaDoor
open Go.Vc
set_option maxHeartbeats 4000000
attribute [local irreducible] JL JC JQ OpWp Con ConN


section
variable {L : List Int} {bm bd : Nat} {V A LS : List ByteArray} {lv : Value} {Sh : List Shd} {hs : ByteArray} {lab st il : Int}

theorem gcondition_c (hL : InR L) (hLn : L.length ≤ 400) (hV0 : 0 < V.length) (hV : V.length ≤ 100) (hA : A.length ≤ 100) (hSh : Sh.length ≤ 100) :
    Con Tryd.prog 128 [Ptr bm] [Mk bm bd V lv A Sh hs lab st il, Dk bd L] (fun K => ∀ e : T, ExG V (usableF A Sh hs) 2 e → K (.row e.row') [Mk bm bd V lv A Sh hs lab st il, Dk bd L]) := by
  refine con_intro Tryd.func128 rfl rfl (Nat.le_of_ble_eq_true rfl) (fun c hc => R_ (o_ r_ (bl_ r_ r_ (fun bl => T_ (am_ (R_ (M_ r_ (N_ r_ (F_ r_ (L_ 1 r_ (o_ r_ (bt_ [2] rfl rfl (Nx_c _ hL hLn g_) (fun k0 hk0 => o_ r_ (bn_ r_ r_ (T_ (jc_condd rfl (fun h3 => ?_) (fun h3 => ?_)))))))))))))))))
  · refine R_ (M_ r_ (o_ r_ (bt_ [2, 0] rfl rfl (gexpr_c hL hLn hV0 hV hA hSh 2 2 g_ g_ g_) (fun e1 he1 => S_ 2 r_ (T_ (ar_ (aw_ (jq_retRow rfl rfl rfl rfl 0 rfl [1, 1] rfl (fun K h => h _ he1)))))))))
  · refine as_ (al_ (am_ (jc_anyB 20 none rfl k_ k_ (yM_ r_ (yN_ r_ (yF_ r_ (yL_ 2 r_ (aa_ (fun c => ow_callA [0] r_ r_ (gNext_c L _ _ hL hLn g_)) (aa_ (fun c => ow_exarg 15 rfl (fun i => bj_ rfl rfl (by have := i.2; omega) ⟨rfl, .refl _⟩)) (yM_ r_ (yM_ r_ (yN_ r_ (yF_ r_ (yL_ 2 r_ (aa_ (fun c => ow_callA [2, 0] r_ r_ (con_toEx (gname_c hL hLn V hV0 g_))) ?_)))))))))))))))
    refine aa_ (fun c => ow_exarg 22 rfl (fun i => bm_ rfl (gName_c _) ⟨rfl, .refl _⟩)) (yM_ r_ (yN_ r_ (yF_ r_ (yL_ 2 r_ (aa_ (fun c => ow_callA [0] r_ r_ (gNext_c L _ _ hL hLn g_)) (aa_ (fun c => ow_exarg 28 rfl (fun i => bm_ rfl (gNum_c _) ⟨rfl, .refl _⟩)) (aa_ (fun c => ow_exarg 16 rfl (fun i => ow_exarg 23 rfl (fun j => ow_exarg 29 rfl (fun k => bm_ rfl (gBin_c _ _ _) ⟨rfl, .refl _⟩)))) (ae_ (afin_none ?_)))))))))
    refine jl_slot 30 rfl (fun i => jl_slot 30 rfl (fun j => jl_slot 30 rfl (fun k => S_ 1 r_ (T_ (ar_ (jq_retRow rfl rfl rfl rfl 0 rfl [2, 1] rfl (fun K h => h _ (.bn _ _ _ _ (by have := i.2; omega) (.nm _ _ j.2) (.nu _ _ (by have := k.2; omega))))))))))
end

inductive PcG (St : Int → Int → List Sm → Prop) : Nat → Int → Int → List Sm → Prop
  | nil (lab : Int) : PcG St 0 lab lab []
  | snoc (n : Nat) (lab lab1 lab2 : Int) (l l2 : List Sm) (h1 : PcG St n lab lab1 l) (h2 : St lab1 lab2 l2) : PcG St (n + 1) lab lab2 (l ++ l2)
/-- At most so many pieces, whose labels go from one to another. -/
def BlG (St : Int → Int → List Sm → Prop) (most : Int) (lab lab' : Int) (l : List Sm) : Prop := ∃ n : Nat, (n : Int) ≤ most ∧ PcG St n lab lab' l
abbrev E0 : ByteArray := ⟨#[]⟩
def LeafG (V U : List ByteArray) (lab lab' : Int) (l : List Sm) : Prop :=
  lab' = lab ∧ ((∃ s e, s ∈ V ∧ ExG V U 2 e ∧ l = [.mk 1 s [] [e] 0 0 [] []]) ∨ ∃ s e1 e2, s ∈ U ∧ ExG V U 1 e1 ∧ ExG V U 2 e2 ∧ l = [.mk 2 s [e1] [e2] 0 0 [] []])
def IfG (V U : List ByteArray) (St : Int → Int → List Sm → Prop) (lab lab' : Int) (l : List Sm) : Prop :=
  lab < 12 ∧ ∃ c l1 l2 lab1, ExG V U 2 c ∧ BlG St 2 (lab + 1) lab1 l1 ∧ (l2 = [] ∧ lab' = lab1 ∨ BlG St 2 lab1 lab' l2) ∧ l = [.mk 3 E0 [] [c] 0 (lab + 1) l1 l2]
def WhG (V U : List ByteArray) (St : Int → Int → List Sm → Prop) (lab lab' : Int) (l : List Sm) : Prop :=
  ∃ c mx l1, ExG V U 2 c ∧ (0 ≤ mx ∧ mx ≤ 5) ∧ BlG St 2 (lab + 1) lab' l1 ∧ l = [.mk 4 E0 [] [c] mx (lab + 1) l1 []]
def CtG (V : List ByteArray) (St : Int → Int → List Sm → Prop) (lab lab' : Int) (l : List Sm) : Prop :=
  ∃ v n op top mx l1 st, v ∈ V ∧ (0 ≤ n ∧ n ≤ 2) ∧ (0 ≤ op ∧ op ≤ 1) ∧ ((∃ t, (0 ≤ t ∧ t ≤ 5) ∧ top = .nu t) ∨ ∃ s ∈ V, top = .nm s) ∧ (0 ≤ mx ∧ mx ≤ 5) ∧ (1 ≤ st ∧ st ≤ 3) ∧ BlG St 2 (lab + 1) lab' l1 ∧
    l = [.mk 1 v [] [.nu n] 0 0 [] [], .mk 4 E0 [] [.bn (11 + op) (.nm v) top] mx (lab + 1) (l1 ++ [.mk 1 v [] [.bn 1 (.nm v) (.nu st)] 0 0 [] []]) []]
def LpG (V U : List ByteArray) (il : Int) (St : Int → Int → List Sm → Prop) (lab lab' : Int) (l : List Sm) : Prop := il < 2 ∧ lab < 12 ∧ (WhG V U St lab lab' l ∨ CtG V St lab lab' l)
def LkG (Sh : List Shd) (hs : ByteArray) (St : ByteArray → Int → Int → List Sm → Prop) (lab lab' : Int) (l : List Sm) : Prop := hs = E0 ∧ ∃ sh ∈ Sh, ∃ l1, BlG (St sh.2.2) 2 lab lab' l1 ∧ l = [.mk 5 sh.2.2 [] [] 0 0 l1 []]
/-- What one call makes, at a depth, within so many loops, with a resource held. -/
def StG (V A : List ByteArray) (Sh : List Shd) : Nat → Int → ByteArray → Int → Int → List Sm → Prop
  | 0, _, hs => LeafG V (usableF A Sh hs)
  | d + 1, il, hs => fun lab lab' l => LeafG V (usableF A Sh hs) lab lab' l ∨ IfG V (usableF A Sh hs) (StG V A Sh d il hs) lab lab' l ∨ LpG V (usableF A Sh hs) il (StG V A Sh d (il + 1) hs) lab lab' l ∨ LkG Sh hs (StG V A Sh d il) lab lab' l
theorem StG.leaf {V A : List ByteArray} {Sh : List Shd} {d : Nat} {il : Int} {hs : ByteArray} {lab lab' : Int} {l : List Sm} (h : LeafG V (usableF A Sh hs) lab lab' l) : StG V A Sh d il hs lab lab' l := by
  cases d with
  | zero => exact h
  | succ d => exact .inl h

/-- What turns in a maker. -/
structure Ms where
  lv : Value
  lab : Int
  st : Int
abbrev Ms.ok (m : Ms) : Prop := (0 ≤ m.lab ∧ m.lab ≤ 12) ∧ 0 ≤ m.st ∧ m.st ≤ 14
/-- What is given throughout. -/
structure Gv (L : List Int) (V A : List ByteArray) (Sh : List Shd) : Prop where
  hL : InR L
  hLn : L.length ≤ 400
  hV0 : 0 < V.length
  hV : V.length ≤ 100
  hA : A.length ≤ 100
  hSh : Sh.length ≤ 100
def StmtP (L : List Int) (bm bd : Nat) (V A : List ByteArray) (Sh : List Shd) (d : Nat) : Prop :=
  ∀ (m : Ms) (hs : ByteArray) (il : Int) (LS : List ByteArray) (x : Int), m.ok → 0 ≤ il → il ≤ 2 → LS.length ≤ il → x = d →
    Con Tryd.prog 114 [Ptr bm, In .i64 x] [Mk bm bd V m.lv A Sh hs m.lab m.st il, Dk bd L, .own m.lv 9 1 (LS.map Wrow)]
      (fun K => ∀ r : Ms × List Sm, (r.1.ok ∧ r.2.length ≤ 2 ∧ StG V A Sh d il hs m.lab r.1.lab r.2) → K (.cell (.list (r.2.map Sm.row))) [Mk bm bd V r.1.lv A Sh hs r.1.lab r.1.st il, Dk bd L, .own r.1.lv 9 1 (LS.map Wrow)])
def BlockP (L : List Int) (bm bd : Nat) (V A : List ByteArray) (Sh : List Shd) (d : Nat) : Prop :=
  ∀ (m : Ms) (hs : ByteArray) (il : Int) (LS : List ByteArray) (x most : Int), m.ok → 0 ≤ il → il ≤ 2 → LS.length ≤ il → x = d → 1 ≤ most → most ≤ 5 →
    ConN Tryd.prog 85 [Ptr bm, In .i64 x, In .i64 most] [Mk bm bd V m.lv A Sh hs m.lab m.st il, Dk bd L, .own m.lv 9 1 (LS.map Wrow)]
      (fun n K => ∀ r : Ms × Value × List Sm, (r.1.ok ∧ FreshN n r.2.1 ∧ (r.2.2.length : Int) ≤ 2 * most ∧ BlG (StG V A Sh d il hs) most m.lab r.1.lab r.2.2) →
        K (.cell (.val r.2.1)) [.own r.2.1 52 8 (r.2.2.map Sm.row), Mk bm bd V r.1.lv A Sh hs r.1.lab r.1.st il, Dk bd L, .own r.1.lv 9 1 (LS.map Wrow)])
section
variable {L : List Int} {bm bd : Nat} {V A : List ByteArray} {Sh : List Shd}

theorem block_step (gv : Gv L V A Sh) (d : Nat) (hstm : StmtP L bm bd V A Sh d) : BlockP L bm bd V A Sh d := by
  intro m hs0 il LS x most hm hil hil2 hLS hx hmo hmo5
  obtain ⟨lv0, lab0, st0⟩ := m
  refine con_introN Tryd.func85 rfl rfl (Nat.le_of_ble_eq_true rfl) (fun c hc => R_ (E_ r_ (T_ (R_ (E_ r_ (T_ (am_ (R_ (M_ r_ (N_ r_ (F_ r_ (L_ 0 r_ (M_ r_ (o_ r_ (bt_ [1] rfl rfl (Nx_c _ gv.hL gv.hLn g_) (fun k0 hk0 => o_ r_ (bj_ r_ r_ g_ ?_)))))))))))))))))
  refine E_ r_ (T_ (au_ (jc_ownNil 52 8 g_ ?_)))
  obtain ⟨n0, hn0⟩ : ∃ n : Nat, 1 + k0 = (n : Int) := ⟨(1 + k0).toNat, by omega⟩
  rw [hn0]
  refine jc_loop (ι := Nat × Ms × Value × List Sm) [0, 1, 2] (fun i => ((i.1 : Int) ≤ most ∧ i.2.1.ok) ∧ c.Fresh i.2.2.1 ∧ ((i.2.2.2.length : Int) + 2 * (i.1 : Int) ≤ 2 * most ∧ ∃ n : Nat, (n : Int) + (i.1 : Int) ≤ most ∧ PcG (StG V A Sh d il hs0) n lab0 i.2.1.lab i.2.2.2)) (fun i => [(7, .cell (.val i.2.2.1)), (8, In .i64 (i.1 : Int))])
    (fun i => [.own i.2.2.1 52 8 (i.2.2.2.map Sm.row), Mk bm bd V i.2.1.lv A Sh hs0 i.2.1.lab i.2.1.st il, Dk bd L, .own i.2.1.lv 9 1 (LS.map Wrow)]) (fun i => i.1) (n0, ⟨lv0, lab0, st0⟩, .slice none 0 0, []) [0, 1, 0, 0] ⟨⟨by dsimp only; omega, hm⟩, fresh_nil, by dsimp only; simp only [List.length_nil]; omega, 0, by dsimp only; omega, .nil _⟩ rfl ?_ ?_
  · (repeat (first | exact True.intro | refine ⟨rfl, ?_⟩))
  · rintro ⟨k, m, v, l⟩ ⟨⟨hk, hok⟩, hf, hl, np, hnp, hsh⟩
    obtain ⟨lv, lab, st⟩ := m
    obtain ⟨⟨hlab0, hlab1⟩, hst0, hst1⟩ := hok
    dsimp only at hk hlab0 hlab1 hst0 hst1 hf hl hnp hsh ⊢
    have fin : ∀ K : S → List Ch → Prop, (∀ r : Ms × Value × List Sm, (r.1.ok ∧ FreshN c.B.heap.size r.2.1 ∧ (r.2.2.length : Int) ≤ 2 * most ∧ BlG (StG V A Sh d il hs0) most lab0 r.1.lab r.2.2) →
        K (.cell (.val r.2.1)) [.own r.2.1 52 8 (r.2.2.map Sm.row), Mk bm bd V r.1.lv A Sh hs0 r.1.lab r.1.st il, Dk bd L, .own r.1.lv 9 1 (LS.map Wrow)]) →
        K (.cell (.val v)) [.own v 52 8 (l.map Sm.row), Mk bm bd V lv A Sh hs0 lab st il, Dk bd L, .own lv 9 1 (LS.map Wrow)] :=
      fun K h => h (⟨lv, lab, st⟩, v, l) ⟨⟨⟨hlab0, hlab1⟩, hst0, hst1⟩, hf, by dsimp only; omega, np, by omega, hsh⟩
    by_cases hk0 : (0 : Int) < (k : Int)
    · refine am_ (R_ (M_ r_ (o_ r_ (bz_ r_ r_ (M_ r_ (ah_ r_ u_ b_ (bd_ r_ (ah_ r_ u_ b_ (bh_ r_ (ah_ r_ u_ b_ (bf_ r_ r_ r_ b_ (ah_ r_ u_ b_ (bg_ 1 r_ r_ r_ r_ (ah_ r_ u_ b_ (bz_ r_ r_ (o_ r_ (bp_ r_ u_ r_ (T_ (jc_condd rfl (fun hst => ?_) (fun hst => ?_))))))))))))))))))))
      · refine as_ (al_ (B_ (R_ (M_ r_ (N_ r_ (F_ r_ (L_ 1 r_ (o_ r_ (cg_ r_ r_ g_ (N_ r_ (F_ r_ (W_ 1 r_ (T_ (an_ (M_ r_ (M_ r_ ?_))))))))))))))))
        refine M_ r_ (o_ r_ (bt_ [0, 1, 1] rfl rfl (hstm ⟨lv, lab, st - 1⟩ hs0 il LS x ⟨⟨hlab0, hlab1⟩, by dsimp only; omega⟩ hil hil2 hLS hx) (fun r hr => ?_)))
        obtain ⟨⟨lv2, lab2, st2⟩, l2⟩ := r
        obtain ⟨hok2, hl2, hsh2⟩ := hr
        dsimp only at hok2 hl2 hsh2 ⊢
        skip
        refine o_ r_ (ow_appendMF 3 rfl rfl rfl rfl rfl rfl rfl (fun a => by rw [Sm.row_eq]; rfl) (by show (_ + _) * 136 ≤ _; first | omega | (simp only [List.length_append]; omega)) (by first | omega | (simp only [List.length_append]; omega)) (fun v2 hv2 fv2 => E_ r_ (ak_ (ay_ (al_ (an_ (M_ r_ (o_ r_ (cg_ r_ r_ g_ (E_ r_ (ak_ ?_)))))))))))
        refine jq_again (i := (k, ⟨lv, lab, st⟩, v, l)) (k - 1, ⟨lv2, lab2, st2⟩, v2, l ++ l2) [0, 0, 0, 0] ⟨⟨by dsimp only; omega, hok2⟩, fv2 hf, by dsimp only; simp only [List.length_append]; omega, np + 1, by dsimp only; omega, .snoc _ _ _ _ _ _ hsh hsh2⟩ (by dsimp only; omega) rfl ?_
        rw [show (((k - 1 : Nat) : Int)) = (k : Int) - 1 by omega]
        (repeat (first | exact True.intro | refine ⟨rfl, ?_⟩))
      · exact av_ (ax_ (ax_ (ba_ (al_ (R_ (M_ r_ (E_ r_ (T_ (ar_ (jq_ret1 rfl rfl [0, 0, 0, 0] rfl fin))))))))))
    · refine am_ (R_ (M_ r_ (o_ r_ (bz_ r_ r_ (M_ r_ (ai_ r_ w_ b_ (ai_ r_ w_ b_ (ai_ r_ w_ b_ (ai_ r_ w_ b_ (ai_ r_ w_ b_ (o_ r_ (bv_ r_ w_ r_ (T_ (jc_cond rfl (fun h => by cases h) (fun _ => av_ (ax_ (ax_ ?_)))))))))))))))))
      exact ba_ (al_ (R_ (M_ r_ (E_ r_ (T_ (ar_ (jq_ret1 rfl rfl [0, 0, 0, 0] rfl fin)))))))
end
end Go.Proofs.YtamajcgdfjeehaaDoor
end

section
namespace Go.Proofs.YtamajcgdfjeehaaDoor
open Go.Vc
set_option maxHeartbeats 4000000
attribute [local irreducible] JL JC JQ OpWp Con ConN
attribute [local irreducible] StG

def LoopP (L : List Int) (bm bd : Nat) (V A : List ByteArray) (Sh : List Shd) (d : Nat) : Prop :=
  ∀ (m : Ms) (hs : ByteArray) (il : Int) (LS : List ByteArray) (x : Int), m.ok → m.lab ≤ 11 → 0 ≤ il → il ≤ 1 → LS.length ≤ il → x = (d + 1 : Nat) →
    Con Tryd.prog 129 [Ptr bm, In .i64 x] [Mk bm bd V m.lv A Sh hs m.lab m.st il, Dk bd L, .own m.lv 9 1 (LS.map Wrow)]
      (fun K => ∀ r : Ms × List Sm, (r.1.ok ∧ r.2.length ≤ 2 ∧ LpG V (usableF A Sh hs) il (StG V A Sh d (il + 1) hs) m.lab r.1.lab r.2) → K (.cell (.list (r.2.map Sm.row))) [Mk bm bd V r.1.lv A Sh hs r.1.lab r.1.st il, Dk bd L, .own r.1.lv 9 1 (LS.map Wrow)])

theorem sm_le (k : Int) (nm : ByteArray) (I V : List T) (mx lb : Int) (tt ee : List Sm) {cI cV cT cE : C} (hI : CLe cI (.list (I.map T.row))) (hV : CLe cV (.list (V.map T.row))) (hT : CLe cT (.list (tt.map Sm.row))) (hE : CLe cE (.list (ee.map Sm.row))) :
    RowLe [.val (.int .i64 k), .val (.string nm), cI, cV, .val (.int .i64 mx), .val (.int .i64 lb), cT, cE] (Sm.row (.mk k nm I V mx lb tt ee)) := by
  rw [Sm.row_eq]
  exact .cons (.refl _) (.cons (.refl _) (.cons hI (.cons hV (.cons (.refl _) (.cons (.refl _) (.cons hT (.cons hE .nil)))))))
theorem sm_le' (k : Int) (nm : ByteArray) (I V : List T) (mx lb : Int) (tt ee : List Sm) {cI cV cT cE : C} (hI : CLe cI (.list (I.map T.row))) (hV : CLe cV (.list (V.map T.row))) (hT : CLe cT (.list (tt.map Sm.row))) (hE : CLe cE (.list (ee.map Sm.row))) :
    RowLe [.val (.int .i64 k), .val (.string nm), cI, cV, .val (.int .i64 mx), .val (.int .i64 lb), cT, cE] (Sm.row' (.mk k nm I V mx lb tt ee)) := by
  rw [← Sm.row_eq]; exact sm_le k nm I V mx lb tt ee hI hV hT hE
theorem ex1_le (e : T) : CLe (.list [e.row']) (.list ([e].map T.row)) := CLe.eq (by simp [T.row_eq])
section
variable {L : List Int} {bm bd : Nat} {V A : List ByteArray} {Sh : List Shd}

theorem loop_step (gv : Gv L V A Sh) (d : Nat) (hd10 : d ≤ 10) (hblk : BlockP L bm bd V A Sh d) : LoopP L bm bd V A Sh d := by
  intro m hs0 il LS x hm hm11 hil hil2 hLS hx
  obtain ⟨lv0, lab0, st0⟩ := m
  obtain ⟨⟨hlab0, hlab1⟩, hst0, hst1⟩ := hm
  dsimp only at hlab0 hlab1 hst0 hst1 hm11 ⊢
  refine con_intro Tryd.func129 rfl rfl (Nat.le_of_ble_eq_true rfl) (fun c hc => R_ (E_ r_ (T_ (R_ (M_ r_ (N_ r_ (F_ r_ (L_ 0 r_ (o_ r_ (bj_ r_ r_ g_ (N_ r_ (F_ r_ (W_ 0 r_ (T_ (R_ (M_ r_ ?_))))))))))))))))
  refine N_ r_ (F_ r_ (L_ 0 r_ (o_ r_ (bj_ r_ r_ g_ (N_ r_ (F_ r_ (W_ 0 r_ (T_ (am_ (jc_anyB 11 (some 10) rfl k_ k_ (yM_ r_ (yN_ r_ (yF_ r_ (yL_ 0 r_ (yM_ r_ (yN_ r_ ?_))))))))))))))))
  refine yF_ r_ (yL_ 0 r_ (aa_ (fun c => ow_callA [1] r_ r_ (gNext_c L _ _ gv.hL gv.hLn g_)) (aa_ (fun c => ow_exarg 31 rfl (fun i => bu_ rfl rfl rfl rfl rfl ⟨rfl, .refl _⟩)) (af_ (ae_ (afin_some rfl rfl rfl (fun bS => jl_slot 32 rfl (fun mx => S_ 0 r_ (T_ (am_ (R_ (M_ r_ (N_ r_ (F_ r_ (L_ 1 r_ ?_)))))))))))))))
  refine o_ r_ (bt_ [2] rfl rfl (Nx_c _ gv.hL gv.hLn g_) (fun k0 hk0 => o_ r_ (bn_ r_ r_ (T_ (jc_condd rfl (fun h3 => ?_) (fun h3 => ?_))))))
  · refine R_ (M_ r_ (o_ r_ (bt_ [2, 0] rfl rfl (gcondition_c gv.hL gv.hLn gv.hV0 gv.hV gv.hA gv.hSh) (fun e1 he1 => o_ r_ (bq_ r_ r_ b_ r_ r_ b_ (F_ r_ (W_ 2 r_ (T_ (R_ (M_ r_ (M_ r_ (o_ r_ (cg_ r_ r_ g_ (o_ r_ (ow_callNP [1, 1, 1] rfl rfl (hblk ⟨lv0, lab0 + 1, st0⟩ hs0 (il + 1) LS (x - 1) 2 ⟨⟨by dsimp only; omega, by dsimp only; omega⟩, hst0, hst1⟩ g_ g_ g_ g_ g_ g_) (fun r n hn hr => ?_))))))))))))))))
    obtain ⟨⟨lv2, lab2, st2⟩, v2, l2⟩ := r
    obtain ⟨hok2, hf2, hl2, hsh2⟩ := hr
    dsimp only at hok2 hl2 hsh2 ⊢
    refine jl_freezeF 46 0 rfl rfl (hf2.mono hn) (F_ r_ (W_ 3 r_ (T_ (R_ (M_ r_ (N_ r_ (F_ r_ (L_ 1 r_ (o_ r_ (cg_ r_ r_ g_ (N_ r_ (F_ r_ (W_ 1 r_ (T_ (R_ (A_ 1 r_ ?_))))))))))))))))
    refine o_ r_ (bq_ r_ r_ b_ r_ r_ b_ (E_ r_ (T_ (ar_ (aw_ (jq_sle 4 rfl (SLe.cell (CLe.list (.cons (sm_le 4 ⟨#[]⟩ [] [e1] mx.1 (lab0 + 1) l2 [] .nil (ex1_le e1) (.refl _) .nil) .nil))) ?_))))))
    have fin : ∀ K : S → List Ch → Prop, (∀ r : Ms × List Sm, (r.1.ok ∧ r.2.length ≤ 2 ∧ LpG V (usableF A Sh hs0) il (StG V A Sh d (il + 1) hs0) lab0 r.1.lab r.2) → K (.cell (.list (r.2.map Sm.row))) [Mk bm bd V r.1.lv A Sh hs0 r.1.lab r.1.st il, Dk bd L, .own r.1.lv 9 1 (LS.map Wrow)]) →
        K (.cell (.list [Sm.row (.mk 4 ⟨#[]⟩ [] [e1] mx.1 (lab0 + 1) l2 [])])) [Mk bm bd V lv2 A Sh hs0 lab2 st2 (il + 1 - 1), Dk bd L, .own lv2 9 1 (LS.map Wrow)] := by
      intro K h
      rw [show il + 1 - 1 = il by omega]
      exact h (⟨lv2, lab2, st2⟩, [.mk 4 ⟨#[]⟩ [] [e1] mx.1 (lab0 + 1) l2 []]) ⟨hok2, by simp, by omega, by omega, .inl ⟨e1, mx.1, l2, he1, by have := mx.2; omega, hsh2, rfl⟩⟩
    exact jq_ret1 rfl rfl [0, 1, 1] rfl fin
  · refine as_ (al_ (R_ (M_ r_ (o_ r_ (bt_ [2, 0, 1] rfl rfl (gtarget_c gv.hL gv.hLn gv.hV0 gv.hV g_) (fun tg htg => E_ r_ (T_ (R_ (M_ r_ (N_ r_ (F_ r_ (L_ 0 r_ (o_ r_ (bt_ [1] rfl rfl (Nx_c _ gv.hL gv.hLn g_) (fun sp hsp => o_ r_ (bj_ r_ r_ g_ (E_ r_ (T_ ?_))))))))))))))))))
    refine R_ (M_ r_ (N_ r_ (F_ r_ (L_ 1 r_ (o_ r_ (bt_ [0] rfl rfl (Nx_c _ gv.hL gv.hLn g_) (fun tp htp => o_ r_ (bm_ r_ (gNum_c _) (o_ r_ (bl_ r_ r_ (fun bl => S_ 0 r_ (T_ (am_ (R_ (M_ r_ (N_ r_ (F_ r_ (L_ 2 r_ ?_))))))))))))))))))
    refine o_ r_ (bt_ [1] rfl rfl (Nx_c _ gv.hL gv.hLn g_) (fun k4 hk4 => o_ r_ (bn_ r_ r_ (T_ ?_))))
    refine jc_cut (ι := T) [0, 1, 5, 6, 7, 8] (fun top => (∃ t, (0 ≤ t ∧ t ≤ 5) ∧ top = .nu t) ∨ ∃ s ∈ V, top = .nm s) (fun _ => []) (fun e => [Mk bm bd V lv0 A Sh hs0 (lab0 + 1) st0 (il + 1), Dk bd L, .own lv0 9 1 (LS.map Wrow), .blk bS 52 [.val (.int .i64 4), .val (.string ⟨#[]⟩), .val (.slice none 0 0), .val (.slice none 0 0), .val (.int .i64 mx.1), .val (.int .i64 (lab0 + 1)), .val (.slice none 0 0), .val (.slice none 0 0)], .blk bl 27 (T.row' e)]) ?_ ?_
    · refine jc_condd rfl (fun h2 => ?_) (fun h2 => ?_)
      · refine an_ (M_ r_ (M_ r_ (N_ r_ (F_ r_ (L_ 2 r_ (o_ r_ (bt_ [2, 0] rfl rfl (gname_c gv.hL gv.hLn V gv.hV0 (by have := gv.hV; omega)) (fun nm hnm => o_ r_ (bm_ r_ (gName_c _) (S_ 2 r_ (ak_ (jq_cut (T.nm nm) [1, 1, 1, 1, 0] (.inr ⟨nm, hnm, rfl⟩) rfl ?_))))))))))))
        (repeat (first | exact True.intro | refine ⟨rfl, ?_⟩))
      · refine as_ (jq_cut (T.nu tp) [2, 0, 1, 1, 0] (.inl ⟨tp, by omega, rfl⟩) rfl ?_)
        (repeat (first | exact True.intro | refine ⟨rfl, ?_⟩))
    · intro e8 he8
      refine R_ (M_ r_ (M_ r_ (N_ r_ (F_ r_ (L_ 0 r_ (M_ r_ (o_ r_ (bq_ r_ r_ b_ r_ r_ b_ (o_ r_ (ow_append1F 2 (tg) rfl rfl rfl rfl rfl rfl rfl (fun _ => rfl) (by show (_ + _) * 16 ≤ _; first | omega | (simp only [List.length_append]; omega)) (by first | omega | (simp only [List.length_append]; omega)) (fun lv1 hlv1 flv1 => N_ r_ (F_ r_ (W_ 1 r_ (T_ (am_ (jc_anyB 12 none rfl k_ k_ (yM_ r_ ?_)))))))))))))))))
      refine yN_ r_ (yF_ r_ (yL_ 0 r_ (aa_ (fun c => ow_callA [2] r_ r_ (gNext_c L _ _ gv.hL gv.hLn g_)) (aa_ (fun c => ow_exarg 98 rfl (fun i => bj_ rfl rfl (by have := i.2; omega) ⟨rfl, .refl _⟩)) (yM_ r_ (aa_ (fun c => bm_ r_ (gName_c _) p_) (aa_ (fun c => bs_ 4 r_ r_ r_ r_ p_) (aa_ (fun c => ow_exarg 99 rfl (fun i => bm_ rfl (gBin_c _ _ _) ⟨rfl, .refl _⟩)) ?_))))))))
      refine aa_ (fun c => ow_exarg 103 rfl (fun i => bq_ rfl rfl b_ rfl rfl b_ ⟨rfl, .refl _⟩)) (yF_ r_ (ae_ (afin_none (jl_slot 104 rfl (fun op => W_ 3 r_ (T_ (R_ (M_ r_ (M_ r_ (o_ r_ (cg_ r_ r_ g_ ?_)))))))))))
      have con := hblk ⟨lv1, lab0 + 1, st0⟩ hs0 (il + 1) (LS ++ [tg]) (x - 1) 2 ⟨⟨by dsimp only; omega, by dsimp only; omega⟩, hst0, hst1⟩ (by omega) (by omega) (by simp only [List.length_append, List.length_cons, List.length_nil]; omega) (by omega) (by omega) (by omega)
      dsimp only at con
      refine o_ r_ (ow_callNP [1, 2, 1] rfl rfl (con) (fun r n hn hr => ?_))
      obtain ⟨⟨lv2, lab2, st2⟩, v2, l2⟩ := r
      obtain ⟨hok2, hf2, hl2, hsh2⟩ := hr
      dsimp only at hok2 hl2 hsh2 hf2 ⊢
      refine M_ r_ (M_ r_ (o_ r_ (bm_ r_ (gName_c _) (M_ r_ (o_ r_ (bm_ r_ (gNum_c _) (o_ r_ (bm_ r_ (gBin_c _ _ _) (o_ r_ (bq_ r_ r_ b_ r_ r_ b_ (o_ r_ (bu_ r_ r_ r_ r_ r_ (o_ r_ (bq_ r_ r_ b_ r_ r_ b_ (jl_sle 118 rfl (SLe.cell (CLe.list (.cons (sm_le 1 tg [] [.bn 1 (.nm tg) (.nu (1 + sp))] 0 0 [] [] .nil (ex1_le _) .nil .nil) .nil))) ?_)))))))))))))))
      refine o_ r_ (ow_append1F 0 ((.mk 1 tg [] [.bn 1 (.nm tg) (.nu (1 + sp))] 0 0 [] [])) rfl rfl rfl rfl rfl rfl rfl (fun a => by rw [Sm.row_eq]; rfl) (by show (_ + _) * 136 ≤ _; first | omega | (simp only [List.length_append]; omega)) (by first | omega | (simp only [List.length_append]; omega)) (fun v3 hv3 fv3 => jl_freezeF 119 0 rfl rfl (fv3 (hf2.mono hn)) (F_ r_ (W_ 3 r_ (T_ (am_ ?_))))))
      have eL : (List.map Wrow (LS ++ [tg])).length = LS.length + 1 := by simp
      refine jc_anyB 12 none rfl k_ k_ (yM_ r_ (yM_ r_ (yN_ r_ (yF_ r_ (yL_ 1 r_ (yM_ r_ (yN_ r_ (yF_ r_ (yL_ 1 r_ (aa_ (fun c => cw_ 3 r_ r_ (fun hlen => p_)) (aa_ (fun c => cg_ r_ r_ g_ p_) ?_)))))))))))
      (first | refine any_op (fun c => ow_trim 3 rfl rfl rfl (by omega) (by omega) ⟨rfl, .refl _⟩) ?_ | refine any_op (fun c => ow_trim 2 rfl rfl rfl (by omega) (by omega) ⟨rfl, .refl _⟩) ?_ | refine any_op (fun c => ow_trim 4 rfl rfl rfl (by omega) (by omega) ⟨rfl, .refl _⟩) ?_)
      refine ae_ ?_
      try refine afin_none ?_
      rw [show ((((List.map Wrow (LS ++ [tg])).length : Nat) : Int) - 1).toNat = LS.length by omega]
      (first | refine jl_trim 3 LS.length rfl (by omega) ?_ | refine jl_trim 2 LS.length rfl (by omega) ?_ | refine jl_trim 4 LS.length rfl (by omega) ?_)
      rw [show (List.map Wrow (LS ++ [tg])).take LS.length = List.map Wrow LS by rw [List.map_append, List.take_left' (by simp)]]
      generalize trimV lv2 LS.length = lv3
      refine N_ r_ (F_ r_ (W_ 2 r_ (T_ (R_ (M_ r_ (N_ r_ (F_ r_ (L_ 0 r_ (o_ r_ (cg_ r_ r_ g_ (N_ r_ (F_ r_ (W_ 0 r_ (T_ (am_ (ao_ r_ r_ k_ k_ ?_))))))))))))))))
      refine yM_ r_ (yM_ r_ (yN_ r_ (yF_ r_ (yL_ 0 r_ (aa_ (fun c => ow_callA [3] r_ r_ (gNext_c L _ _ gv.hL gv.hLn g_)) (aa_ (fun c => ow_exarg 147 rfl (fun i => bm_ rfl (gNum_c _) ⟨rfl, .refl _⟩)) (aa_ (fun c => ow_exarg 148 rfl (fun i => bq_ rfl rfl b_ rfl rfl b_ ⟨rfl, .refl _⟩)) (aa_ (fun c => ow_exarg 149 rfl (fun i => bu_ rfl rfl rfl rfl rfl ⟨rfl, .refl _⟩)) (aa_ (fun c => bs_ 2 r_ r_ r_ r_ p_) ?_)))))))))
      refine aa_ (fun c => ow_exarg 150 rfl (fun i => bq_ rfl rfl b_ rfl rfl b_ ⟨rfl, .refl _⟩)) (yE_ r_ (ae_ (al_ (ar_ (jq_slot 4 rfl (fun i => ?_))))))
      refine jq_sle 4 rfl (SLe.cell (CLe.list (.cons (sm_le 1 tg [] [.nu i.1] 0 0 [] [] .nil (ex1_le _) .nil .nil) (.cons (sm_le 4 ⟨#[]⟩ [] [.bn (11 + op.1) (.nm tg) e8] mx.1 (lab0 + 1) (l2 ++ [(.mk 1 tg [] [.bn 1 (.nm tg) (.nu (1 + sp))] 0 0 [] [])]) [] .nil (ex1_le _) (.refl _) .nil) .nil)))) ?_
      have fin : ∀ K : S → List Ch → Prop, (∀ r : Ms × List Sm, (r.1.ok ∧ r.2.length ≤ 2 ∧ LpG V (usableF A Sh hs0) il (StG V A Sh d (il + 1) hs0) lab0 r.1.lab r.2) → K (.cell (.list (r.2.map Sm.row))) [Mk bm bd V r.1.lv A Sh hs0 r.1.lab r.1.st il, Dk bd L, .own r.1.lv 9 1 (LS.map Wrow)]) →
          K (.cell (.list [Sm.row (.mk 1 tg [] [.nu i.1] 0 0 [] []), Sm.row (.mk 4 ⟨#[]⟩ [] [.bn (11 + op.1) (.nm tg) e8] mx.1 (lab0 + 1) (l2 ++ [.mk 1 tg [] [.bn 1 (.nm tg) (.nu (1 + sp))] 0 0 [] []]) [])])) [Mk bm bd V lv3 A Sh hs0 lab2 st2 (il + 1 - 1), Dk bd L, .own lv3 9 1 (LS.map Wrow)] := by
        intro K h
        rw [show il + 1 - 1 = il by omega]
        exact h (⟨lv3, lab2, st2⟩, [.mk 1 tg [] [.nu i.1] 0 0 [] [], .mk 4 ⟨#[]⟩ [] [.bn (11 + op.1) (.nm tg) e8] mx.1 (lab0 + 1) (l2 ++ [.mk 1 tg [] [.bn 1 (.nm tg) (.nu (1 + sp))] 0 0 [] []]) []])
          ⟨hok2, by simp, by clear he8; omega, by clear he8; omega, .inr ⟨tg, i.1, op.1, e8, mx.1, l2, 1 + sp, htg, by clear he8; have := i.2; omega, by clear he8; have := op.2; omega, he8, by clear he8; have := mx.2; omega, by clear he8 hok2; omega, hsh2, rfl⟩⟩
      first | exact jq_ret1 rfl rfl [0, 1, 0] rfl fin | exact jq_ret1 rfl rfl [0, 2, 0] rfl fin | exact jq_ret1 rfl rfl [0, 3, 0] rfl fin | exact jq_ret1 rfl rfl [0, 4, 0] rfl fin
end
end Go.Proofs.YtamajcgdfjeehaaDoor
end

section
namespace Go.Proofs.YtamajcgdfjeehaaDoor
open Go.Vc
set_option maxHeartbeats 4000000
attribute [local irreducible] JL JC JQ OpWp Con ConN
theorem StG.inn {V A : List ByteArray} {Sh : List Shd} {d : Nat} {il : Int} {hs : ByteArray} {lab lab' : Int} {l : List Sm} (h : IfG V (usableF A Sh hs) (StG V A Sh d il hs) lab lab' l ∨ LpG V (usableF A Sh hs) il (StG V A Sh d (il + 1) hs) lab lab' l ∨ LkG Sh hs (StG V A Sh d il) lab lab' l) : StG V A Sh (d + 1) il hs lab lab' l := .inr h
attribute [local irreducible] StG

section
variable {L : List Int} {bm bd : Nat} {V A : List ByteArray} {Sh : List Shd}

theorem stmt_step (gv : Gv L V A Sh) (d : Nat) (hd10 : d ≤ 10) (hblk : ∀ d', d = d' + 1 → BlockP L bm bd V A Sh d') (hloop : ∀ d', d = d' + 1 → LoopP L bm bd V A Sh d') : StmtP L bm bd V A Sh d := by
  intro m hs0 il LS x hm hil hil2 hLS hx
  obtain ⟨lv0, lab0, st0⟩ := m
  obtain ⟨⟨hlab0, hlab1⟩, hst0, hst1⟩ := hm
  dsimp only at hlab0 hlab1 hst0 hst1 ⊢
  refine con_intro Tryd.func114 rfl rfl (Nat.le_of_ble_eq_true rfl) (fun c hc => R_ (E_ r_ (T_ (R_ (M_ r_ (N_ r_ (F_ r_ (L_ 0 r_ (o_ r_ (bt_ [1] rfl rfl (Nx_c _ gv.hL gv.hLn g_) (fun k0 hk0 => E_ r_ (T_ (am_ (am_ (jc_cut (ι := Bool) [0, 1, 4, 5] (fun b => b = false → 0 < x ∧ lab0 < 12) (fun b => [(23, Bl b)]) (fun _ => [Mk bm bd V lv0 A Sh hs0 lab0 st0 il, Dk bd L, .own lv0 9 1 (LS.map Wrow)]) ?_ ?_)))))))))))))))
  · by_cases hx0 : x ≤ 0
    · refine an_ (M_ r_ (o_ r_ (cu_ r_ r_ (M_ r_ (ai_ r_ u_ b_ (ai_ r_ u_ b_ (ai_ r_ u_ b_ (ai_ r_ u_ b_ (ai_ r_ u_ b_ (o_ r_ (bp_ r_ u_ r_ (ak_ (jq_cut true [1, 0, 0] (by simp) rfl ?_)))))))))))))
      (repeat (first | exact True.intro | refine ⟨rfl, ?_⟩))
    · refine an_ (M_ r_ (o_ r_ (cu_ r_ r_ (M_ r_ (ah_ r_ w_ b_ (bd_ r_ (ah_ r_ w_ b_ (bh_ r_ (ah_ r_ w_ b_ (bf_ r_ r_ r_ b_ (ah_ r_ w_ b_ (bg_ 1 r_ r_ r_ r_ (ah_ r_ w_ b_ (cn_ r_ r_ (o_ r_ (bv_ r_ w_ r_ (ak_ (jq_cut (decide (12 ≤ lab0)) [1, 0, 0] (by simp; omega) rfl ?_))))))))))))))))))
      (repeat (first | exact True.intro | refine ⟨rfl, ?_⟩))
  intro b hb
  skip
  have ht : 0 ≤ k0 % 3 ∧ k0 % 3 ≤ 2 := by omega
  refine jc_cut (ι := Int) [0, 1, 4] (fun k => 0 ≤ k ∧ k ≤ 8 ∧ (2 < k → 0 < x ∧ lab0 < 12)) (fun k => [(5, In .i64 k)]) (fun _ => [Mk bm bd V lv0 A Sh hs0 lab0 st0 il, Dk bd L, .own lv0 9 1 (LS.map Wrow)]) ?_ ?_
  · refine jc_cond rfl (fun h => ?_) (fun h => ?_)
    · refine an_ (M_ r_ (o_ r_ (ow_rem64 r_ r_ g_ g_ (E_ r_ (ak_ (jq_cut (k0 % 3) [0, 0, 0] g_ rfl ?_))))))
      (repeat (first | exact True.intro | refine ⟨rfl, ?_⟩))
    · refine as_ (jq_cut k0 [0, 0, 0] ⟨hk0.1, by omega, fun _ => hb h⟩ rfl ?_)
      (repeat (first | exact True.intro | refine ⟨rfl, ?_⟩))
  intro k ⟨hk1, hk8, hkd⟩
  clear ht
  have fin1 : ∀ (s : Sm) (m : Ms), m.ok → StG V A Sh d il hs0 lab0 m.lab [s] → ∀ K : S → List Ch → Prop, (∀ r : Ms × List Sm, (r.1.ok ∧ r.2.length ≤ 2 ∧ StG V A Sh d il hs0 lab0 r.1.lab r.2) → K (.cell (.list (r.2.map Sm.row))) [Mk bm bd V r.1.lv A Sh hs0 r.1.lab r.1.st il, Dk bd L, .own r.1.lv 9 1 (LS.map Wrow)]) →
      K (.cell (.list [s.row])) [Mk bm bd V m.lv A Sh hs0 m.lab m.st il, Dk bd L, .own m.lv 9 1 (LS.map Wrow)] :=
    fun s m hm hs K h => h (m, [s]) ⟨hm, by simp, hs⟩
  have fin0 : ∀ (s : Sm), LeafG V (usableF A Sh hs0) lab0 lab0 [s] → ∀ K : S → List Ch → Prop, (∀ r : Ms × List Sm, (r.1.ok ∧ r.2.length ≤ 2 ∧ StG V A Sh d il hs0 lab0 r.1.lab r.2) → K (.cell (.list (r.2.map Sm.row))) [Mk bm bd V r.1.lv A Sh hs0 r.1.lab r.1.st il, Dk bd L, .own r.1.lv 9 1 (LS.map Wrow)]) →
      K (.cell (.list [s.row])) [Mk bm bd V lv0 A Sh hs0 lab0 st0 il, Dk bd L, .own lv0 9 1 (LS.map Wrow)] :=
    fun s hs => fin1 s ⟨lv0, lab0, st0⟩ ⟨⟨hlab0, hlab1⟩, hst0, hst1⟩ (.leaf hs)
  have hU := usable_len A Sh hs0
  have hUA := gv.hA
  have hUS := gv.hSh
  refine am_ (R_ (M_ r_ (T_ (jc_cut (ι := Unit) [0, 1] (fun _ => True) (fun _ => []) (fun _ => [Mk bm bd V lv0 A Sh hs0 lab0 st0 il, Dk bd L, .own lv0 9 1 (LS.map Wrow)]) ?_ ?_))))
  · refine au_ (R_ (o_ r_ (bn_ r_ r_ (E_ r_ (T_ (jc_condd rfl (fun h1 => ?_) (fun h1 => ?_)))))))
    · refine R_ (M_ r_ (o_ r_ (bi_ [0] r_ r_ (gusable_c gv.hA gv.hSh) (E_ r_ (T_ (R_ (M_ r_ (o_ r_ (br_ r_ (fun hlen => o_ r_ (bz_ r_ r_ (T_ (jc_condd rfl (fun hp => ?_) (fun hp => ?_))))))))))))))
      · simp only [List.length_map] at hp
        refine R_ (M_ r_ (M_ r_ (o_ r_ (bt_ [0, 0] rfl rfl (gname_c gv.hL gv.hLn (usableF A Sh hs0) g_ g_) (fun s1 hs1 => M_ r_ (o_ r_ (bt_ [0, 0] rfl rfl (gexpr_c gv.hL gv.hLn gv.hV0 gv.hV gv.hA gv.hSh 1 1 g_ g_ g_) (fun e1 he1 => o_ r_ (bq_ r_ r_ b_ r_ r_ b_ (M_ r_ (o_ r_ (bt_ [0, 0] rfl rfl (gexpr_c gv.hL gv.hLn gv.hV0 gv.hV gv.hA gv.hSh 2 2 g_ g_ g_) (fun e2 he2 => o_ r_ (bq_ r_ r_ b_ r_ r_ b_ ?_))))))))))))))
        exact o_ r_ (bu_ r_ r_ r_ r_ r_ (o_ r_ (bq_ r_ r_ b_ r_ r_ b_ (E_ r_ (T_ (ar_ (az_ (aw_ (jq_sle 4 rfl (SLe.cell (CLe.list (.cons (sm_le 2 s1 [e1] [e2] 0 0 [] [] (ex1_le e1) (ex1_le e2) .nil .nil) .nil))) (jq_ret1 rfl rfl [0, 0, 0] rfl (fin0 _ ⟨rfl, .inr ⟨s1, e1, e2, hs1, he1, he2, rfl⟩⟩)))))))))))
      · refine as_ (ay_ (jq_cut () [0, 0, 0] trivial rfl ?_))
        (repeat (first | exact True.intro | refine ⟨rfl, ?_⟩))
    · refine am_ (jc_cut (ι := Bool) [0, 1, 26] (fun b => b = decide (k = 3 ∨ k = 4 ∨ k = 5)) (fun b => [(45, Bl b)]) (fun _ => [Mk bm bd V lv0 A Sh hs0 lab0 st0 il, Dk bd L, .own lv0 9 1 (LS.map Wrow)]) ?_ ?_)
      · refine R_ (o_ r_ (bn_ r_ r_ (E_ r_ (T_ (jc_condd rfl (fun h3 => ?_) (fun h3 => ?_))))))
        · refine as_ (jq_cut (decide (k = 3)) [0, 0, 0] (by rw [decide_eq_decide]; omega) rfl ?_)
          (repeat (first | exact True.intro | refine ⟨rfl, ?_⟩))
        · refine R_ (o_ r_ (bn_ r_ r_ (E_ r_ (T_ (jc_condd rfl (fun h4 => ?_) (fun h4 => ?_))))))
          · refine as_ (jq_cut (decide (k = 4)) [0, 0, 0] (by rw [decide_eq_decide]; omega) rfl ?_)
            (repeat (first | exact True.intro | refine ⟨rfl, ?_⟩))
          · refine an_ (o_ r_ (bn_ r_ r_ (E_ r_ (ak_ (jq_cut (decide (k = 5)) [0, 0, 0] (by rw [decide_eq_decide]; omega) rfl ?_)))))
            (repeat (first | exact True.intro | refine ⟨rfl, ?_⟩))
      intro b hb
      refine jc_cond rfl (fun hbt => ?_) (fun hbt => ?_)
      · have hk3 : k = 3 ∨ k = 4 ∨ k = 5 := by rw [hb] at hbt; exact of_decide_eq_true hbt
        obtain ⟨hx0, hl12⟩ := hkd (by omega)
        obtain ⟨d', rfl⟩ : ∃ d', d = d' + 1 := ⟨d - 1, by omega⟩
        have hblk := hblk d' rfl
        clear hloop
        refine R_ (M_ r_ (N_ r_ (F_ r_ (L_ 0 r_ (o_ r_ (bj_ r_ r_ g_ (N_ r_ (F_ r_ (W_ 0 r_ (T_ (am_ (jc_anyB 9 (some 8) rfl k_ k_ (yM_ r_ (yN_ r_ (yF_ r_ (yL_ 0 r_ ?_))))))))))))))))
        refine yM_ r_ (aa_ (fun c => ow_callA [0, 0] r_ r_ (con_toEx (gcondition_c gv.hL gv.hLn gv.hV0 gv.hV gv.hA gv.hSh))) (aa_ (fun c => ow_exarg 61 rfl (fun i => bq_ rfl rfl b_ rfl rfl b_ ⟨rfl, .refl _⟩)) (aa_ (fun c => ow_exarg 62 rfl (fun i => bu_ rfl rfl rfl rfl rfl ⟨rfl, .refl _⟩)) (af_ (ae_ (afin_some rfl rfl rfl (fun bS => jl_slot 63 rfl (fun e1 => S_ 0 r_ (T_ (R_ (M_ r_ (M_ r_ (o_ r_ (cg_ r_ r_ g_ ?_))))))))))))))
        refine o_ r_ (ow_callNP [1, 1, 1] rfl rfl (hblk ⟨lv0, lab0 + 1, st0⟩ hs0 il LS (x - 1) 2 ⟨⟨by dsimp only; omega, by dsimp only; omega⟩, hst0, hst1⟩ hil hil2 hLS g_ g_ g_) (fun r n hn hr => ?_))
        obtain ⟨⟨lv1, lab1, st1⟩, v1, l1⟩ := r
        obtain ⟨hok1, hf1, hl1, hsh1⟩ := hr
        dsimp only at hok1 hl1 hsh1 hf1 ⊢
        refine jl_freezeF 67 0 rfl rfl (hf1.mono hn) (F_ r_ (W_ 3 r_ (T_ (am_ (jc_cut (ι := Ms × List Sm) [0, 1, 7] (fun r => r.1.ok ∧ r.2.length ≤ 4 ∧ (r.2 = [] ∧ r.1.lab = lab1 ∨ BlG (StG V A Sh d' il hs0) 2 lab1 r.1.lab r.2)) (fun _ => []) (fun r => [Mk bm bd V r.1.lv A Sh hs0 r.1.lab r.1.st il, Dk bd L, .own r.1.lv 9 1 (LS.map Wrow), .blk bS 52 (Sm.row' (.mk 3 ⟨#[]⟩ [] [e1.1] 0 (lab0 + 1) l1 r.2))]) ?_ ?_)))))
        · refine R_ (M_ r_ (N_ r_ (F_ r_ (L_ 1 r_ (o_ r_ (bt_ [2] rfl rfl (Nx_c _ gv.hL gv.hLn g_) (fun k4 hk4 => o_ r_ (bn_ r_ r_ (T_ (jc_condd rfl (fun h2 => ?_) (fun h2 => ?_)))))))))))
          · refine an_ (M_ r_ (M_ r_ (o_ r_ (cg_ r_ r_ g_ (o_ r_ (ow_callNP [2, 0, 1] rfl rfl (hblk ⟨lv1, lab1, st1⟩ hs0 il LS (x - 1) 2 hok1 hil hil2 hLS g_ g_ g_) (fun r n2 hn2 hr => ?_)))))))
            obtain ⟨⟨lv2, lab2, st2⟩, v2, l2⟩ := r
            obtain ⟨hok2, hf2, hl2, hsh2⟩ := hr
            dsimp only at hok2 hl2 hsh2 hf2 ⊢
            refine jl_freezeF 78 0 rfl rfl (hf2.mono hn2) (F_ r_ (W_ 3 r_ (ak_ ?_)))
            (first | refine jq_row 0 _ rfl (sm_le' 3 ⟨#[]⟩ [] [e1.1] 0 (lab0 + 1) l1 l2 .nil (ex1_le e1.1) (.refl _) (.refl _)) ?_ | refine jq_row 1 _ rfl (sm_le' 3 ⟨#[]⟩ [] [e1.1] 0 (lab0 + 1) l1 l2 .nil (ex1_le e1.1) (.refl _) (.refl _)) ?_ | refine jq_row 2 _ rfl (sm_le' 3 ⟨#[]⟩ [] [e1.1] 0 (lab0 + 1) l1 l2 .nil (ex1_le e1.1) (.refl _) (.refl _)) ?_ | refine jq_row 3 _ rfl (sm_le' 3 ⟨#[]⟩ [] [e1.1] 0 (lab0 + 1) l1 l2 .nil (ex1_le e1.1) (.refl _) (.refl _)) ?_)
            (first | refine jq_cut (⟨lv2, lab2, st2⟩, l2) [1, 1, 1, 0] ⟨hok2, by dsimp only; omega, .inr hsh2⟩ rfl ?_ | refine jq_cut (⟨lv2, lab2, st2⟩, l2) [1, 2, 1, 0] ⟨hok2, by dsimp only; omega, .inr hsh2⟩ rfl ?_ | refine jq_cut (⟨lv2, lab2, st2⟩, l2) [2, 1, 1, 0] ⟨hok2, by dsimp only; omega, .inr hsh2⟩ rfl ?_ | refine jq_cut (⟨lv2, lab2, st2⟩, l2) [2, 2, 1, 0] ⟨hok2, by dsimp only; omega, .inr hsh2⟩ rfl ?_ | refine jq_cut (⟨lv2, lab2, st2⟩, l2) [3, 1, 1, 0] ⟨hok2, by dsimp only; omega, .inr hsh2⟩ rfl ?_ | refine jq_cut (⟨lv2, lab2, st2⟩, l2) [3, 2, 1, 0] ⟨hok2, by dsimp only; omega, .inr hsh2⟩ rfl ?_)
            (repeat (first | exact True.intro | refine ⟨rfl, ?_⟩))
          · refine as_ ?_
            (first | refine jq_row 0 _ rfl (sm_le' 3 ⟨#[]⟩ [] [e1.1] 0 (lab0 + 1) l1 [] .nil (ex1_le e1.1) (.refl _) .nil) ?_ | refine jq_row 1 _ rfl (sm_le' 3 ⟨#[]⟩ [] [e1.1] 0 (lab0 + 1) l1 [] .nil (ex1_le e1.1) (.refl _) .nil) ?_ | refine jq_row 2 _ rfl (sm_le' 3 ⟨#[]⟩ [] [e1.1] 0 (lab0 + 1) l1 [] .nil (ex1_le e1.1) (.refl _) .nil) ?_ | refine jq_row 3 _ rfl (sm_le' 3 ⟨#[]⟩ [] [e1.1] 0 (lab0 + 1) l1 [] .nil (ex1_le e1.1) (.refl _) .nil) ?_)
            (first | refine jq_cut (⟨lv1, lab1, st1⟩, []) [1, 1, 1, 0] ⟨hok1, by simp, .inl ⟨rfl, rfl⟩⟩ rfl ?_ | refine jq_cut (⟨lv1, lab1, st1⟩, []) [1, 2, 1, 0] ⟨hok1, by simp, .inl ⟨rfl, rfl⟩⟩ rfl ?_ | refine jq_cut (⟨lv1, lab1, st1⟩, []) [2, 1, 1, 0] ⟨hok1, by simp, .inl ⟨rfl, rfl⟩⟩ rfl ?_ | refine jq_cut (⟨lv1, lab1, st1⟩, []) [2, 2, 1, 0] ⟨hok1, by simp, .inl ⟨rfl, rfl⟩⟩ rfl ?_ | refine jq_cut (⟨lv1, lab1, st1⟩, []) [3, 1, 1, 0] ⟨hok1, by simp, .inl ⟨rfl, rfl⟩⟩ rfl ?_ | refine jq_cut (⟨lv1, lab1, st1⟩, []) [3, 2, 1, 0] ⟨hok1, by simp, .inl ⟨rfl, rfl⟩⟩ rfl ?_)
            (repeat (first | exact True.intro | refine ⟨rfl, ?_⟩))
        · rintro ⟨⟨lv2, lab2, st2⟩, l2⟩ ⟨hok2, hl2, hsh2⟩
          dsimp only at hok2 hl2 hsh2 ⊢
          exact R_ (A_ 3 r_ (o_ r_ (bq_ r_ r_ b_ r_ r_ b_ (E_ r_ (T_ (ar_ (az_ (aw_ (jq_sle 4 rfl (SLe.cell (CLe.list (.cons (sm_le 3 ⟨#[]⟩ [] [e1.1] 0 (lab0 + 1) l1 l2 (.refl _) (.refl _) (.refl _) (.refl _)) .nil))) (jq_ret1 rfl rfl [0, 0, 0] rfl (fin1 _ ⟨lv2, lab2, st2⟩ hok2 (.inn (.inl ⟨hl12, e1.1, l1, l2, lab1, e1.2, hsh1, hsh2, rfl⟩)))))))))))))
      · refine am_ (jc_cut (ι := Bool) [0, 1, 26] (fun b => b = decide (k = 6 ∨ k = 7)) (fun b => [(82, Bl b)]) (fun _ => [Mk bm bd V lv0 A Sh hs0 lab0 st0 il, Dk bd L, .own lv0 9 1 (LS.map Wrow)]) ?_ ?_)
        · refine R_ (o_ r_ (bn_ r_ r_ (E_ r_ (T_ (jc_condd rfl (fun h6 => ?_) (fun h6 => ?_))))))
          · refine as_ (jq_cut (decide (k = 6)) [0, 0, 0] (by rw [decide_eq_decide]; omega) rfl ?_)
            (repeat (first | exact True.intro | refine ⟨rfl, ?_⟩))
          · refine an_ (o_ r_ (bn_ r_ r_ (E_ r_ (ak_ (jq_cut (decide (k = 7)) [0, 0, 0] (by rw [decide_eq_decide]; omega) rfl ?_)))))
            (repeat (first | exact True.intro | refine ⟨rfl, ?_⟩))
        intro b hb
        refine jc_cond rfl (fun hbt => ?_) (fun hbt => ?_)
        · have hk6 : k = 6 ∨ k = 7 := by rw [hb] at hbt; exact of_decide_eq_true hbt
          obtain ⟨hx0, hl12⟩ := hkd (by omega)
          obtain ⟨d', rfl⟩ : ∃ d', d = d' + 1 := ⟨d - 1, by omega⟩
          have hloop := hloop d' rfl
          clear hblk
          refine R_ (M_ r_ (N_ r_ (F_ r_ (L_ 0 r_ (o_ r_ (bw_ r_ r_ (T_ (jc_condd rfl (fun hil1 => ?_) (fun hil1 => ?_)))))))))
          · refine R_ (M_ r_ (M_ r_ (o_ r_ (bt_ [0, 0, 0] rfl rfl (hloop ⟨lv0, lab0, st0⟩ hs0 il LS x ⟨⟨hlab0, hlab1⟩, hst0, hst1⟩ (by dsimp only; omega) hil g_ hLS hx) (fun r hr => ?_)))))
            obtain ⟨m1, l1⟩ := r
            dsimp only at hr ⊢
            exact E_ r_ (T_ (ar_ (az_ (aw_ (jq_ret1 rfl rfl [0, 0, 0] rfl (fun K h => h (m1, l1) ⟨hr.1, hr.2.1, .inn (.inr (.inl hr.2.2))⟩))))))
          · refine as_ (ay_ (jq_cut () [0, 0, 0] trivial rfl ?_))
            (repeat (first | exact True.intro | refine ⟨rfl, ?_⟩))
        · refine R_ (o_ r_ (bn_ r_ r_ (E_ r_ (T_ (jc_condd rfl (fun h8 => ?_) (fun h8 => ?_))))))
          · obtain ⟨hx0, hl12⟩ := hkd (by omega)
            obtain ⟨d', rfl⟩ : ∃ d', d = d' + 1 := ⟨d - 1, by omega⟩
            have hblk := hblk d' rfl
            clear hloop
            refine am_ (jc_cut (ι := Bool) [0, 1] (fun b => b = true → hs0 = ⟨#[]⟩ ∧ 0 < Sh.length) (fun b => [(107, Bl b)]) (fun _ => [Mk bm bd V lv0 A Sh hs0 lab0 st0 il, Dk bd L, .own lv0 9 1 (LS.map Wrow)]) ?_ ?_)
            · by_cases hh : hs0 = ⟨#[]⟩
              · refine an_ (M_ r_ (N_ r_ (F_ r_ (L_ 0 r_ (o_ r_ (cs_ r_ r_ (M_ r_ (ah_ r_ u_ b_ (bd_ r_ (ah_ r_ u_ b_ (bh_ r_ (ah_ r_ u_ b_ (bf_ r_ r_ r_ b_ (ah_ r_ u_ b_ (bg_ 0 r_ r_ r_ r_ (ah_ r_ u_ b_ (br_ r_ (fun hlen => ah_ r_ u_ b_ (bz_ r_ r_ (o_ r_ (bp_ r_ u_ r_ (ak_ (jq_cut (decide (0 < ((Sh.map ShRow).length : Int))) [0, 0, 0] (by simp [hh]) rfl ?_)))))))))))))))))))))))
                (repeat (first | exact True.intro | refine ⟨rfl, ?_⟩))
              · refine an_ (M_ r_ (N_ r_ (F_ r_ (L_ 0 r_ (o_ r_ (cs_ r_ r_ (M_ r_ (ai_ r_ w_ b_ (ai_ r_ w_ b_ (ai_ r_ w_ b_ (ai_ r_ w_ b_ (ai_ r_ w_ b_ (ai_ r_ w_ b_ (o_ r_ (bv_ r_ w_ r_ (ak_ (jq_cut false [0, 0, 0] (by simp) rfl ?_)))))))))))))))))
                (repeat (first | exact True.intro | refine ⟨rfl, ?_⟩))
            intro b2 hb2
            refine jc_cond rfl (fun hbt => ?_) (fun hbt => ?_)
            · obtain ⟨rfl, hSh0⟩ := hb2 hbt
              have hShm := gv.hSh
              have eSh : (Sh.map ShRow).length = Sh.length := List.length_map _
              refine am_ (jc_anyB 18 none rfl k_ k_ (yM_ r_ (yM_ r_ (yN_ r_ (yF_ r_ (yL_ 0 r_ (yM_ r_ (yN_ r_ (yF_ r_ (yL_ 0 r_ (yM_ r_ (yN_ r_ (yF_ r_ (yL_ 0 r_ (aa_ (fun c => br_ r_ (fun hlen => p_)) ?_)))))))))))))))
              refine aa_ (fun c => ow_callA [1] r_ r_ (gNext_c L _ _ gv.hL gv.hLn g_)) (aa_ (fun c => ow_exarg 122 rfl (fun i => cv_ rfl rfl (by have := i.2; omega) (by have := i.2; omega) rfl rfl b_ ⟨rfl, .refl _⟩)) (aa_ (fun c => ow_exarg 123 rfl (fun i => cf_ rfl rfl rfl b_ rfl b_ ⟨rfl, .refl _⟩)) (aa_ (fun c => ow_exarg 124 rfl (fun i => cb_ rfl rfl ⟨rfl, .refl _⟩)) (ae_ (afin_none (jl_slot 125 rfl (fun i => N_ r_ (F_ r_ ?_))))))))
              refine W_ 0 r_ (T_ (R_ (M_ r_ (N_ r_ (F_ r_ (L_ 0 r_ (E_ r_ (T_ (R_ (M_ r_ (M_ r_ (M_ r_ (o_ r_ (cg_ r_ r_ g_ (o_ r_ (ow_callNP [0, 0, 0] rfl rfl (hblk ⟨lv0, lab0, st0⟩ Sh[i.1.toNat].2.2 il LS (x - 1) 2 ⟨⟨hlab0, hlab1⟩, hst0, hst1⟩ hil hil2 hLS g_ g_ g_) (fun r n hn hr => ?_)))))))))))))))))
              obtain ⟨⟨lv1, lab1, st1⟩, v1, l1⟩ := r
              obtain ⟨hok1, hf1, hl1, hsh1⟩ := hr
              dsimp only at hok1 hl1 hsh1 hf1 ⊢
              refine jl_freezeF 136 0 rfl rfl (hf1.mono hn) (o_ r_ (bu_ r_ r_ r_ r_ r_ (o_ r_ (bl_ r_ r_ (fun bl => S_ 0 r_ (T_ (R_ (M_ r_ (N_ r_ (F_ r_ (W_ 1 r_ (T_ (R_ (A_ 1 r_ (o_ r_ (bq_ r_ r_ b_ r_ r_ b_ (E_ r_ (T_ ?_))))))))))))))))))
              refine ar_ (az_ (aw_ (jq_sle 4 rfl (SLe.cell (CLe.list (.cons (sm_le 5 Sh[i.1.toNat].2.2 [] [] 0 0 l1 [] .nil .nil (.refl _) .nil) .nil))) ?_)))
              first | exact jq_ret1 rfl rfl [0, 1, 1] rfl (fin1 _ ⟨lv1, lab1, st1⟩ hok1 (.inn (.inr (.inr ⟨rfl, _, List.getElem_mem (h := by have := i.2; omega), l1, hsh1, rfl⟩)))) | exact jq_ret1 rfl rfl [0, 2, 1] rfl (fin1 _ ⟨lv1, lab1, st1⟩ hok1 (.inn (.inr (.inr ⟨rfl, _, List.getElem_mem (h := by have := i.2; omega), l1, hsh1, rfl⟩)))) | exact jq_ret1 rfl rfl [0, 0, 0] rfl (fin1 _ ⟨lv1, lab1, st1⟩ hok1 (.inn (.inr (.inr ⟨rfl, _, List.getElem_mem (h := by have := i.2; omega), l1, hsh1, rfl⟩)))) | exact jq_ret1 rfl rfl [0, 0, 1] rfl (fin1 _ ⟨lv1, lab1, st1⟩ hok1 (.inn (.inr (.inr ⟨rfl, _, List.getElem_mem (h := by have := i.2; omega), l1, hsh1, rfl⟩)))) | exact jq_ret1 rfl rfl [0, 1, 0] rfl (fin1 _ ⟨lv1, lab1, st1⟩ hok1 (.inn (.inr (.inr ⟨rfl, _, List.getElem_mem (h := by have := i.2; omega), l1, hsh1, rfl⟩)))) | exact jq_ret1 rfl rfl [1, 0, 0] rfl (fin1 _ ⟨lv1, lab1, st1⟩ hok1 (.inn (.inr (.inr ⟨rfl, _, List.getElem_mem (h := by have := i.2; omega), l1, hsh1, rfl⟩)))) | exact jq_ret1 rfl rfl [1, 1, 0] rfl (fin1 _ ⟨lv1, lab1, st1⟩ hok1 (.inn (.inr (.inr ⟨rfl, _, List.getElem_mem (h := by have := i.2; omega), l1, hsh1, rfl⟩))))
            · refine as_ (ay_ (jq_cut () [0, 0, 0] trivial rfl ?_))
              (repeat (first | exact True.intro | refine ⟨rfl, ?_⟩))
          · refine as_ (ay_ (jq_cut () [0, 0, 0] trivial rfl ?_))
            (repeat (first | exact True.intro | refine ⟨rfl, ?_⟩))
  · intro _ _
    refine R_ (M_ r_ (o_ r_ (bt_ [0, 0, 0] rfl rfl (gtarget_c gv.hL gv.hLn gv.hV0 gv.hV g_) (fun s1 hs1 => M_ r_ (o_ r_ (bt_ [0, 0] rfl rfl (gexpr_c gv.hL gv.hLn gv.hV0 gv.hV gv.hA gv.hSh 2 2 g_ g_ g_) (fun e1 he1 => o_ r_ (bq_ r_ r_ b_ r_ r_ b_ (o_ r_ (bu_ r_ r_ r_ r_ r_ (o_ r_ (bq_ r_ r_ b_ r_ r_ b_ (E_ r_ (T_ (ar_ ?_)))))))))))))))
    exact jq_sle 4 rfl (SLe.cell (CLe.list (.cons (sm_le 1 s1 [] [e1] 0 0 [] [] .nil (ex1_le e1) .nil .nil) .nil))) (jq_ret1 rfl rfl [0, 0, 0] rfl (fin0 _ ⟨rfl, .inl ⟨s1, e1, hs1, he1, rfl⟩⟩))
end
end Go.Proofs.YtamajcgdfjeehaaDoor
end
