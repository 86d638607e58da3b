import Derived.Test.YtamajcgdfjeehaaGreatDoorMn1
import Derived.Lib.SliceRun
import Derived.Laws.OwnMore
import Derived.Laws.StructEq
import Derived.OrdersHeld
import Derived.Test.YtamajcgdfjeehaaGreatDoorProg
import Derived.KernelRfl
import Derived.Recover
section
namespace Go.Vc

section
variable {α : Type} (key : α → Int)
end
end Go.Vc
end

section
namespace Go.Vc
open Go.RowKit

section
variable {P : Program} [Gl P] {nt : Nat} {c : Cx P nt} {env : Env} {H : List Ch} {K : S → List Ch → Prop}
variable {d : Option Tmp} {ty t t' : TypeId} {pos : String} {af : Array Edge} {g : Option (Nat × Bool)} {x y : Operand}

/-- What lies behind the first m elements. -/
def sufV (v : Value) (m k : Nat) : Value := match v with
  | .slice a n cap => .slice (if cap = m then a else a.map (·.add (m * k))) (n - m) (cap - m)
  | v => v
end
end Go.Vc
end

section
namespace Go.Vc
open Go.RowKit

section
variable {P : Program} [Gl P] {nt : Nat} {c : Cx P nt} {env : Env} {H : List Ch} {K : S → List Ch → Prop}
variable {d : Option Tmp} {ty t t' : TypeId} {pos : String} {af : Array Edge} {g : Option (Nat × Bool)} {x y : Operand}

/-- What is asked of a type of two integers, to compare its values. -/
structure Two (P : Program) (t : TypeId) (u : TypeId) (k : IntKind) : Prop where
  ht : P.underlying t = some (.struct (P.fieldsOf t))
  hp : P.stoodInHeld t = false
  hm : P.eqGuardType P.depth t = false
  hf : ∃ f0 f1, (P.fieldsOf t).toList = [f0, f1] ∧ f0.name ≠ "_" ∧ f1.name ≠ "_" ∧ f0.offset = 0 ∧ f1.offset = 1 ∧ f0.type = u ∧ f1.type = u
  hu : P.underlying u = some (.int k)
end
end Go.Vc
end

section
namespace Go.Vc
open Go.RowKit

def Keep (L : List (Nat × List Value × TypeId)) (w : World) : Prop := ∀ p ∈ L, w.heap[p.1]? = some (.cells p.2.1.toArray p.2.2 (0, 0))
theorem rdRow_vals {w : World} {A : Nat → Prop} : ∀ {vs cs : List Value}, RdRow w A (vs.map C.val) cs → cs = vs
  | [], _, h => h
  | v :: vs, _, h => by
    obtain ⟨x, r, rfl, g1, g2⟩ := h
    rw [g1.1, rdRow_vals g2]
theorem rdRow_exact {w w' : World} {A A' : Nat → Prop} {row : List C} {cs : List Value} (h : RdRow w A row cs) : RdRow w' A' (cs.map C.val) cs := by
  have h1 := rdRow_one h
  clear h
  induction cs with
  | nil => rfl
  | cons v vs ih => exact ⟨v, vs, rfl, ⟨rfl, h1 v (by simp)⟩, ih (fun u hu => h1 u (by simp [hu]))⟩

section
variable {P : Program} [Gl P] {nt : Nat} {c : Cx P nt} {env : Env} {H Hr : List Ch} {ops : Array Oper} {Q : Exit → Act → World → Prop} {Sw : World → Prop} {L : List (Nat × List Value × TypeId)}
variable {fuel : Nat} {listed : Array Bool} {d ty t t' : TypeId} {pos : String} {af : Array Edge} {x y : Operand}

def HOk (c : Cx P nt) (Sw : World → Prop) (env : Env) (H : List Ch) (o : Oper) (s : S) : Prop :=
  ∀ a w, St c env H a w → Sw w → ∃ v, (∀ w', Sw w' → (execOp a.eval o).run P w' = .ok (.value v) w') ∧ SOk w (c.av H) s v

/-- What stands in H still stands. -/
theorem keep_of (h : ∀ p ∈ L, Ch.blk p.1 p.2.2 (p.2.1.map C.val) ∈ H) : ∀ w, StW c H w → Keep L w := by
  intro w hw p hp
  obtain ⟨cs, g1, g2⟩ := hw.ok _ (h p hp)
  rw [rdRow_vals g2] at g1
  exact g1
theorem keep_of2 {b1 b2 : Nat} {t1 t2 : TypeId} {cs1 cs2 : List Value} (h1 : Ch.blk b1 t1 (cs1.map C.val) ∈ H) (h2 : Ch.blk b2 t2 (cs2.map C.val) ∈ H) : ∀ w, StW c H w → Keep [(b1, cs1, t1), (b2, cs2, t2)] w :=
  keep_of (fun p hp => by
    rcases List.mem_cons.1 hp with rfl | hp
    · exact h1
    · obtain rfl := List.mem_singleton.1 hp
      exact h2)
theorem hok_move {d : Option Tmp} {s : S} (hx : env.ev x = some s) : HOk c Sw env H ⟨d, .move x, ty, pos, af, none⟩ s :=
  fun a _ hst _ => ⟨a.eval x, fun _ _ => rfl, ev_ok hst hx⟩
theorem hok_add {d : Option Tmp} {m n : Int} (hx : env.ev x = some (In .i64 m)) (hy : env.ev y = some (In .i64 n)) (hb : -9223372036854775808 ≤ m + n ∧ m + n ≤ 9223372036854775807) : HOk c Sw env H ⟨d, .binOp .add t x y t', ty, pos, af, none⟩ (In .i64 (m + n)) :=
  fun _ _ hst _ => ⟨.int .i64 (m + n), fun _ _ => by simp [execOp, ev_val hst hx, ev_val hst hy, eqGuard, binOp, Op.intArith, IntWalk.i64_in _ hb], rfl, rfl⟩
theorem hok_fieldAddr {d : Option Tmp} {b o f off size : Nat} [TI P t] [TS P t] (hs : structB (TI.u P t) = true) (hx : env.ev x = some (.cell (.val (.pointer (some ⟨b, o, none⟩))))) (hf : (TS.pl P t)[f]? = some (off, size)) (hz : 0 < size) :
    HOk c Sw env H ⟨d, .fieldAddr t x f, ty, pos, af, none⟩ (.cell (.val (.pointer (some ⟨b, o + off, none⟩)))) :=
  fun _ _ hst _ => ⟨.pointer (some ⟨b, o + off, none⟩), fun _ _ => by simp only [execOp, ev_val hst hx, Sem.run_bind, run_fieldAt t hs hf hz, Result.andThen_ok, Sem.run_pure], rfl, rfl⟩
theorem blk_keep {a : Act} {w : World} {b : Nat} {bt : TypeId} {row : List C} {cs : List Value} {is : List Nat} (hst : St c env H a w) (hp : pick is H = some ([.blk b bt row], Hr)) (hS : Keep L w) (hm : (b, cs, bt) ∈ L) : RdRow w (c.av H) row cs := by
  obtain ⟨cs', g1, g2⟩ := blk_ok hst hp
  have g3 := hS _ hm
  dsimp only at g3
  rw [g1] at g3
  obtain rfl : cs' = cs := by simpa using g3
  exact g2
theorem hok_load {d : Option Tmp} {b o : Nat} {row : List C} {e : C} {bt : TypeId} {cs : List Value} [TI P t] (j : Nat) (ha : aggB (TI.u P t) = false) (hx : env.ev x = some (.cell (.val (.pointer (some ⟨b, o, none⟩))))) (hp : pick [j] H = some ([.blk b bt row], Hr))
    (hm : (b, cs, bt) ∈ L) (he : row[o]? = some e) : HOk c (Keep L) env H ⟨d, .load t x, ty, pos, af, none⟩ (.cell e) :=
  fun _ _ hst hS => by
    obtain ⟨v, hv, hrd⟩ := rdRow_get (blk_keep hst hp hS hm) he
    refine ⟨v, fun w' hS' => ?_, hrd⟩
    have hh := hS' _ hm
    simp only [execOp, ev_val hst hx, Instr.loadAt, Instr.sureAddr, Sem.run_bind, Sem.run_pure, Result.andThen_ok, run_loadVar1 t ha (show w'.cell? ⟨b, o, none⟩ = some v by simp [World.cell?, hh, hv])]
theorem hok_loadAll {d : Option Tmp} {b : Nat} {row : List C} {bt : TypeId} {cs : List Value} [TI P t] (j : Nat) (ha : aggB (TI.u P t) = true) (hx : env.ev x = some (.cell (.val (.pointer (some ⟨b, 0, none⟩))))) (hp : pick [j] H = some ([.blk b bt row], Hr))
    (hm : (b, cs, bt) ∈ L) (hz : (TI.i P t).size = row.length) : HOk c (Keep L) env H ⟨d, .load t x, ty, pos, af, none⟩ (.row row) :=
  fun _ _ hst hS => by
    have hrd := blk_keep hst hp hS hm
    refine ⟨.agg cs.toArray, fun w' hS' => ?_, cs.toArray, rfl, by simpa using hrd⟩
    have hh := hS' _ hm
    simp only [execOp, ev_val hst hx, Instr.loadAt, Instr.sureAddr, Sem.run_bind, Sem.run_pure, Result.andThen_ok, run_loadVarN t ha (hz.trans (rdRow_length hrd).symm) (cells_of_blk hh 0)]
end
end Go.Vc
end

section
namespace Go.Vc
open Go.RowKit

section
variable {P : Program} [Gl P] {nt : Nat} {c : Cx P nt} {env : Env} {H : List Ch}
end
end Go.Vc
end

section
namespace Go.Vc
open Go.RowKit

section
variable {P : Program} [Gl P] {nt : Nat} {c : Cx P nt} {env : Env} {H : List Ch} {K : S → List Ch → Prop}
variable {d : Option Tmp} {ty t t' : TypeId} {pos : String} {af : Array Edge} {g : Option (Nat × Bool)} {x y : Operand}
/-- An element of an array, by its address. -/
theorem ow_indexArr {b o n : Nat} {e : TypeId} {m : Int} [TI P t] [TI P e] (hu : TI.u P t = .array n e) (hx : env.ev x = some (.cell (.val (.pointer (some ⟨b, o, none⟩))))) (hy : env.ev y = some (In .i64 m)) (h0 : 0 ≤ m) (hlt : m < (n : Int))
    (hK : K (.cell (.val (.pointer (some ⟨b, o + m.toNat * (TI.i P e).size, none⟩)))) H) : OpWp c ⟨d, .indexAddr t x y, ty, pos, af, g⟩ env H K :=
  ow_valx rfl (fun a w h => by
    have hu' : (underlying t).run P w = .ok (.array n e) w := by rw [run_underlying (TI.hu (P := P) (t := t)), hu]
    simp [execOp, ev_val h hx, ev_val h hy, Instr.indexAt, asIntOf, hu', Instr.sureAddr, h0, hlt, run_sizeOf, add_at]) hK
theorem rdRows_flat {w : World} {A : Nat → Prop} {k : Nat} : ∀ {rows : List (List C)} {vs : List Value}, RdRows w A k rows vs → RdRow w A rows.flatten vs
  | [], _, h => h
  | _ :: _, _, ⟨x, r, e, _, g1, g2⟩ => by subst e; exact rdRow_append g1 (rdRows_flat g2)
/-- An array that is written out, all its elements in order. -/
theorem ow_buildArr {n : Nat} {e : TypeId} [TI P t] [TI P e] (hu : TI.u P t = .array n e) {z : Value} (hz : (TI.i P t).zero = some z) {ps : Array (Nat × Operand)} {ss : List (Nat × S)} (hp : env.parts ps.toList = some ss) {rows : List (List C)}
    (hs : sliceRows (TI.i P e).size 0 ss = some rows) (hl : z.cells.toList.length = rows.length * (TI.i P e).size) (hK : K (.row rows.flatten) H) : OpWp c ⟨d, .build t ps, ty, pos, af, g⟩ env H K :=
  ow_val (s := .row rows.flatten) (fun a w h => by
    obtain ⟨cs, g1, g2⟩ := fill_rows (pre := []) (post := z.cells.toList) (parts_ok h hp) hs (by simp) hl
    refine ⟨.agg cs.toArray, ?_, cs.toArray, rfl, by simpa using rdRows_flat g2⟩
    simp only [List.nil_append, Array.toArray_toList] at g1
    have hu' : (underlying t).run P w = .ok (.array n e) w := by rw [run_underlying (TI.hu (P := P) (t := t)), hu]
    simp only [execOp, Instr.build, Sem.run_bind, run_zeroValue t hz, hu', run_sizeOf, Result.andThen_ok, Array.toList_map, g1, Sem.run_pure]) hK
/-- A package variable that reads so. -/
def GV (w : World) (A : Nat → Prop) (b : Nat) (row : List C) : Prop := ¬ A b ∧ ∃ cs t f, w.heap[b]? = some (.cells cs t f) ∧ RdRow w A row cs.toList
theorem GV.up {w w' : World} {A A' : Nat → Prop} {b : Nat} {row : List C} (hu : Up A w w') (hA : ∀ b, A' b → A b ∨ w.heap.size ≤ b) (h : GV w A b row) : GV w' A' b row := by
  obtain ⟨h1, cs, t, f, h2, h3⟩ := h
  have hlt : b < w.heap.size := (Array.getElem?_eq_some_iff.1 h2).1
  exact ⟨fun h => (hA b h).elim h1 (by omega), cs, t, f, by rw [hu.block b hlt h1]; exact h2, rdRow_up hu hA _ _ h3⟩
theorem ow_loadG [TI P t] {b o : Nat} {row : List C} {e : C} (hg : ∀ w A, Gl.ok P w A → GV w A b row) (ha : aggB (TI.u P t) = false) (hx : env.ev x = some (.cell (.val (.pointer (some ⟨b, o, none⟩))))) (he : row[o]? = some e) (hK : K (.cell e) H) : OpWp c ⟨d, .load t x, ty, pos, af, g⟩ env H K :=
  ow_val (fun a w h => by
    obtain ⟨_, cs, bt, f, hh, hr⟩ := hg _ _ h.heap.gl
    obtain ⟨v, hv, hrd⟩ := rdRow_get hr he
    refine ⟨v, ?_, hrd⟩
    simp only [execOp, ev_val h hx, Instr.loadAt, Instr.sureAddr, Sem.run_bind, Sem.run_pure, Result.andThen_ok, run_loadVar1 t ha (show w.cell? ⟨b, o, none⟩ = some v by simp [World.cell?, hh]; simpa using hv)]) hK
end
end Go.Vc
end

section
namespace Go.Proofs.YtamajcgdfjeehaaGreatDoor
open Go.Vc

def words : List ByteArray := [⟨#[114, 101, 115, 111, 117, 114, 99, 101]⟩, ⟨#[115, 104, 97, 114, 101, 100]⟩, ⟨#[116, 97, 115, 107]⟩, ⟨#[112, 101, 114, 105, 111, 100]⟩, ⟨#[100, 101, 97, 100, 108, 105, 110, 101]⟩, ⟨#[112, 114, 105, 111, 114, 105, 116, 121]⟩, ⟨#[106, 105, 116, 116, 101, 114]⟩, ⟨#[105, 110, 112, 117, 116]⟩, ⟨#[118, 97, 114]⟩, ⟨#[97, 114, 114, 97, 121]⟩, ⟨#[109, 111, 100, 101]⟩, ⟨#[110, 101, 118, 101, 114]⟩, ⟨#[98, 111, 100, 121]⟩, ⟨#[101, 110, 100]⟩, ⟨#[105, 102]⟩, ⟨#[108, 97, 98, 101, 108]⟩, ⟨#[101, 108, 115, 101]⟩, ⟨#[119, 104, 105, 108, 101]⟩, ⟨#[109, 97, 120]⟩, ⟨#[108, 111, 99, 107]⟩]
def signL : List ByteArray := [⟨#[43]⟩, ⟨#[45]⟩, ⟨#[42]⟩, ⟨#[47]⟩, ⟨#[37]⟩, ⟨#[38]⟩, ⟨#[124]⟩, ⟨#[94]⟩, ⟨#[60, 60]⟩, ⟨#[62, 62]⟩, ⟨#[60]⟩, ⟨#[60, 61]⟩, ⟨#[61, 61]⟩, ⟨#[33, 61]⟩]
def addL : List ByteArray := [⟨#[43]⟩, ⟨#[45]⟩, ⟨#[124]⟩, ⟨#[94]⟩]
def mulL : List ByteArray := [⟨#[42]⟩, ⟨#[47]⟩, ⟨#[37]⟩, ⟨#[38]⟩, ⟨#[60, 60]⟩, ⟨#[62, 62]⟩]
def cmpL : List ByteArray := [⟨#[60]⟩, ⟨#[60, 61]⟩, ⟨#[61, 61]⟩, ⟨#[33, 61]⟩]
abbrev Wrow (s : ByteArray) : List C := [.val (.string s)]
instance gl : Gl Tryz.prog where
  ok w A := GV w A 3 [.list (words.map Wrow)] ∧ GV w A 2 (signL.map (fun s => .val (.string s))) ∧ GV w A 1 [.list (addL.map Wrow), .list (mulL.map Wrow)] ∧ GV w A 0 [.list (cmpL.map Wrow)]
  up := fun hu hA ⟨h2, h3, h4, h5⟩ => ⟨h2.up hu hA, h3.up hu hA, h4.up hu hA, h5.up hu hA⟩
theorem gl_words (w : World) (A : Nat → Prop) (h : Gl.ok Tryz.prog w A) : GV w A 3 [.list (words.map Wrow)] := h.1
theorem gl_signs (w : World) (A : Nat → Prop) (h : Gl.ok Tryz.prog w A) : GV w A 2 (signL.map (fun s => .val (.string s))) := h.2.1
theorem gl_lines (w : World) (A : Nat → Prop) (h : Gl.ok Tryz.prog w A) : GV w A 1 [.list (addL.map Wrow), .list (mulL.map Wrow)] := h.2.2.1
theorem gl_cmps (w : World) (A : Nat → Prop) (h : Gl.ok Tryz.prog w A) : GV w A 0 [.list (cmpL.map Wrow)] := h.2.2.2
end Go.Proofs.YtamajcgdfjeehaaGreatDoor
end

section
namespace Go.Proofs.YtamajcgdfjeehaaGreatDoor
open Go.Vc

noncomputable instance ti3 : TI Tryz.prog 3 := ⟨_, Tryz.underlying3, Tryz.t3, by kernel_rfl⟩
noncomputable instance ti4 : TI Tryz.prog 4 := ⟨_, Tryz.underlying4, Tryz.t4, by kernel_rfl⟩
noncomputable instance ti5 : TI Tryz.prog 5 := ⟨_, Tryz.underlying5, Tryz.t5, by kernel_rfl⟩
noncomputable instance ti9 : TI Tryz.prog 9 := ⟨_, Tryz.underlying9, Tryz.t9, by kernel_rfl⟩
noncomputable instance ti20 : TI Tryz.prog 20 := ⟨_, Tryz.underlying20, Tryz.t20, by kernel_rfl⟩
noncomputable instance ti22 : TI Tryz.prog 22 := ⟨_, Tryz.underlying22, Tryz.t22, by kernel_rfl⟩
noncomputable instance ti25 : TI Tryz.prog 25 := ⟨_, Tryz.underlying25, Tryz.t25, by kernel_rfl⟩
noncomputable instance ti28 : TI Tryz.prog 28 := ⟨_, Tryz.underlying28, Tryz.t28, by kernel_rfl⟩
noncomputable instance ti29 : TI Tryz.prog 29 := ⟨_, Tryz.underlying29, Tryz.t29, by kernel_rfl⟩
noncomputable instance ti30 : TI Tryz.prog 30 := ⟨_, Tryz.underlying30, Tryz.t30, by kernel_rfl⟩
noncomputable instance ti32 : TI Tryz.prog 32 := ⟨_, Tryz.underlying32, Tryz.t32, by kernel_rfl⟩
noncomputable instance ti34 : TI Tryz.prog 34 := ⟨_, Tryz.underlying34, Tryz.t34, by kernel_rfl⟩
noncomputable instance ti41 : TI Tryz.prog 41 := ⟨_, Tryz.underlying41, Tryz.t41, by kernel_rfl⟩
noncomputable instance ti42 : TI Tryz.prog 42 := ⟨_, Tryz.underlying42, Tryz.t42, by kernel_rfl⟩
noncomputable instance ti43 : TI Tryz.prog 43 := ⟨_, Tryz.underlying43, Tryz.t43, by kernel_rfl⟩
noncomputable instance ti44 : TI Tryz.prog 44 := ⟨_, Tryz.underlying44, Tryz.t44, by kernel_rfl⟩
noncomputable instance ti45 : TI Tryz.prog 45 := ⟨_, Tryz.underlying45, Tryz.t45, by kernel_rfl⟩
noncomputable instance ti47 : TI Tryz.prog 47 := ⟨_, Tryz.underlying47, Tryz.t47, by kernel_rfl⟩
noncomputable instance ti49 : TI Tryz.prog 49 := ⟨_, Tryz.underlying49, Tryz.t49, by kernel_rfl⟩
noncomputable instance ti51 : TI Tryz.prog 51 := ⟨_, Tryz.underlying51, Tryz.t51, by kernel_rfl⟩
noncomputable instance ti53 : TI Tryz.prog 53 := ⟨_, Tryz.underlying53, Tryz.t53, by kernel_rfl⟩
noncomputable instance ti55 : TI Tryz.prog 55 := ⟨_, Tryz.underlying55, Tryz.t55, by kernel_rfl⟩
noncomputable instance ti57 : TI Tryz.prog 57 := ⟨_, Tryz.underlying57, Tryz.t57, by kernel_rfl⟩
noncomputable instance ti59 : TI Tryz.prog 59 := ⟨_, Tryz.underlying59, Tryz.t59, by kernel_rfl⟩
noncomputable instance ti68 : TI Tryz.prog 68 := ⟨_, Tryz.underlying68, Tryz.t68, by kernel_rfl⟩
noncomputable instance ti75 : TI Tryz.prog 75 := ⟨_, Tryz.underlying75, Tryz.t75, by kernel_rfl⟩
noncomputable instance ti87 : TI Tryz.prog 87 := ⟨_, Tryz.underlying87, Tryz.t87, by kernel_rfl⟩
noncomputable instance ti93 : TI Tryz.prog 93 := ⟨_, Tryz.underlying93, Tryz.t93, by kernel_rfl⟩
noncomputable instance ti95 : TI Tryz.prog 95 := ⟨_, Tryz.underlying95, Tryz.t95, by kernel_rfl⟩
noncomputable instance ti97 : TI Tryz.prog 97 := ⟨_, Tryz.underlying97, Tryz.t97, by kernel_rfl⟩
noncomputable instance ti99 : TI Tryz.prog 99 := ⟨_, Tryz.underlying99, Tryz.t99, by kernel_rfl⟩
noncomputable instance ti106 : TI Tryz.prog 106 := ⟨_, Tryz.underlying106, Tryz.t106, by kernel_rfl⟩
noncomputable instance ti110 : TI Tryz.prog 110 := ⟨_, Tryz.underlying110, Tryz.t110, by kernel_rfl⟩
noncomputable instance ti114 : TI Tryz.prog 114 := ⟨_, Tryz.underlying114, Tryz.t114, by kernel_rfl⟩
noncomputable instance ti118 : TI Tryz.prog 118 := ⟨_, Tryz.underlying118, Tryz.t118, by kernel_rfl⟩
noncomputable instance ti150 : TI Tryz.prog 150 := ⟨_, Tryz.underlying150, Tryz.t150, by kernel_rfl⟩
noncomputable instance ti164 : TI Tryz.prog 164 := ⟨_, Tryz.underlying164, Tryz.t164, by kernel_rfl⟩
noncomputable instance ti165 : TI Tryz.prog 165 := ⟨_, Tryz.underlying165, Tryz.t165, by kernel_rfl⟩
noncomputable instance ti169 : TI Tryz.prog 169 := ⟨_, Tryz.underlying169, Tryz.t169, by kernel_rfl⟩
noncomputable instance ti171 : TI Tryz.prog 171 := ⟨_, Tryz.underlying171, Tryz.t171, by kernel_rfl⟩
noncomputable instance ti185 : TI Tryz.prog 185 := ⟨_, Tryz.underlying185, Tryz.t185, by kernel_rfl⟩
noncomputable instance sl22 : SL Tryz.prog 22 := ⟨3, inferInstance, Tryz.underlying22⟩
noncomputable instance sl28 : SL Tryz.prog 28 := ⟨9, inferInstance, Tryz.underlying28⟩
noncomputable instance sl29 : SL Tryz.prog 29 := ⟨87, inferInstance, Tryz.underlying29⟩
noncomputable instance sl30 : SL Tryz.prog 30 := ⟨47, inferInstance, Tryz.underlying30⟩
noncomputable instance sl36 : SL Tryz.prog 36 := ⟨5, inferInstance, Tryz.underlying36⟩
noncomputable instance sl41 : SL Tryz.prog 41 := ⟨49, inferInstance, Tryz.underlying41⟩
noncomputable instance sl42 : SL Tryz.prog 42 := ⟨51, inferInstance, Tryz.underlying42⟩
noncomputable instance sl43 : SL Tryz.prog 43 := ⟨93, inferInstance, Tryz.underlying43⟩
noncomputable instance sl44 : SL Tryz.prog 44 := ⟨53, inferInstance, Tryz.underlying44⟩
noncomputable instance sl45 : SL Tryz.prog 45 := ⟨57, inferInstance, Tryz.underlying45⟩
noncomputable instance sl55 : SL Tryz.prog 55 := ⟨59, inferInstance, Tryz.underlying55⟩
noncomputable instance sl68 : SL Tryz.prog 68 := ⟨106, inferInstance, Tryz.underlying68⟩
noncomputable instance sl166 : SL Tryz.prog 166 := ⟨165, inferInstance, Tryz.underlying166⟩
noncomputable instance mp139 : MP Tryz.prog 139 := ⟨9, 4, Tryz.underlying139, Tryz.underlying9⟩
noncomputable instance mpe139 : TI Tryz.prog (MP.e Tryz.prog 139) := inferInstanceAs (TI Tryz.prog 4)
instance fi6 : FI Tryz.prog 6 := ⟨fun args w => by kernel_rfl⟩
instance fi7 : FI Tryz.prog 7 := ⟨fun args w => by kernel_rfl⟩
instance fi8 : FI Tryz.prog 8 := ⟨fun args w => by kernel_rfl⟩
instance fi9 : FI Tryz.prog 9 := ⟨fun args w => by kernel_rfl⟩
instance fi10 : FI Tryz.prog 10 := ⟨fun args w => by kernel_rfl⟩
instance fi11 : FI Tryz.prog 11 := ⟨fun args w => by kernel_rfl⟩
instance fi12 : FI Tryz.prog 12 := ⟨fun args w => by kernel_rfl⟩
instance fi14 : FI Tryz.prog 14 := ⟨fun args w => by kernel_rfl⟩
instance fi15 : FI Tryz.prog 15 := ⟨fun args w => by kernel_rfl⟩
instance fi16 : FI Tryz.prog 16 := ⟨fun args w => by kernel_rfl⟩
instance fi18 : FI Tryz.prog 18 := ⟨fun args w => by kernel_rfl⟩
instance fi19 : FI Tryz.prog 19 := ⟨fun args w => by kernel_rfl⟩
instance fi20 : FI Tryz.prog 20 := ⟨fun args w => by kernel_rfl⟩
instance fi21 : FI Tryz.prog 21 := ⟨fun args w => by kernel_rfl⟩
instance fi22 : FI Tryz.prog 22 := ⟨fun args w => by kernel_rfl⟩
instance fi23 : FI Tryz.prog 23 := ⟨fun args w => by kernel_rfl⟩
instance fi24 : FI Tryz.prog 24 := ⟨fun args w => by kernel_rfl⟩
instance fi33 : FI Tryz.prog 33 := ⟨fun args w => by kernel_rfl⟩
instance fi34 : FI Tryz.prog 34 := ⟨fun args w => by kernel_rfl⟩
instance fi35 : FI Tryz.prog 35 := ⟨fun args w => by kernel_rfl⟩
instance fi36 : FI Tryz.prog 36 := ⟨fun args w => by kernel_rfl⟩
instance fi37 : FI Tryz.prog 37 := ⟨fun args w => by kernel_rfl⟩
instance fi38 : FI Tryz.prog 38 := ⟨fun args w => by kernel_rfl⟩
instance fi39 : FI Tryz.prog 39 := ⟨fun args w => by kernel_rfl⟩
instance fi40 : FI Tryz.prog 40 := ⟨fun args w => by kernel_rfl⟩
instance fi41 : FI Tryz.prog 41 := ⟨fun args w => by kernel_rfl⟩
instance fi42 : FI Tryz.prog 42 := ⟨fun args w => by kernel_rfl⟩
instance fi43 : FI Tryz.prog 43 := ⟨fun args w => by kernel_rfl⟩
instance fi44 : FI Tryz.prog 44 := ⟨fun args w => by kernel_rfl⟩
instance fi45 : FI Tryz.prog 45 := ⟨fun args w => by kernel_rfl⟩
instance fi46 : FI Tryz.prog 46 := ⟨fun args w => by kernel_rfl⟩
instance fi47 : FI Tryz.prog 47 := ⟨fun args w => by kernel_rfl⟩
instance fi48 : FI Tryz.prog 48 := ⟨fun args w => by kernel_rfl⟩
instance fi49 : FI Tryz.prog 49 := ⟨fun args w => by kernel_rfl⟩
instance fi50 : FI Tryz.prog 50 := ⟨fun args w => by kernel_rfl⟩
instance fi51 : FI Tryz.prog 51 := ⟨fun args w => by kernel_rfl⟩
instance fi52 : FI Tryz.prog 52 := ⟨fun args w => by kernel_rfl⟩
instance fi53 : FI Tryz.prog 53 := ⟨fun args w => by kernel_rfl⟩
instance fi54 : FI Tryz.prog 54 := ⟨fun args w => by kernel_rfl⟩
instance fi70 : FI Tryz.prog 70 := ⟨fun args w => by kernel_rfl⟩
instance fi71 : FI Tryz.prog 71 := ⟨fun args w => by kernel_rfl⟩
instance fi72 : FI Tryz.prog 72 := ⟨fun args w => by kernel_rfl⟩
instance fi73 : FI Tryz.prog 73 := ⟨fun args w => by kernel_rfl⟩
instance fi74 : FI Tryz.prog 74 := ⟨fun args w => by kernel_rfl⟩
instance fi75 : FI Tryz.prog 75 := ⟨fun args w => by kernel_rfl⟩
instance fi76 : FI Tryz.prog 76 := ⟨fun args w => by kernel_rfl⟩
instance fi77 : FI Tryz.prog 77 := ⟨fun args w => by kernel_rfl⟩
instance fi78 : FI Tryz.prog 78 := ⟨fun args w => by kernel_rfl⟩
instance fi79 : FI Tryz.prog 79 := ⟨fun args w => by kernel_rfl⟩
instance fi80 : FI Tryz.prog 80 := ⟨fun args w => by kernel_rfl⟩
instance fi81 : FI Tryz.prog 81 := ⟨fun args w => by kernel_rfl⟩
instance fi82 : FI Tryz.prog 82 := ⟨fun args w => by kernel_rfl⟩
instance fi83 : FI Tryz.prog 83 := ⟨fun args w => by kernel_rfl⟩
instance fi84 : FI Tryz.prog 84 := ⟨fun args w => by kernel_rfl⟩
instance fi85 : FI Tryz.prog 85 := ⟨fun args w => by kernel_rfl⟩
instance fi86 : FI Tryz.prog 86 := ⟨fun args w => by kernel_rfl⟩
instance fi87 : FI Tryz.prog 87 := ⟨fun args w => by kernel_rfl⟩
instance fi88 : FI Tryz.prog 88 := ⟨fun args w => by kernel_rfl⟩
instance fi89 : FI Tryz.prog 89 := ⟨fun args w => by kernel_rfl⟩
instance fi90 : FI Tryz.prog 90 := ⟨fun args w => by kernel_rfl⟩
instance fi91 : FI Tryz.prog 91 := ⟨fun args w => by kernel_rfl⟩
instance fi92 : FI Tryz.prog 92 := ⟨fun args w => by kernel_rfl⟩
instance fi93 : FI Tryz.prog 93 := ⟨fun args w => by kernel_rfl⟩
instance fi94 : FI Tryz.prog 94 := ⟨fun args w => by kernel_rfl⟩
instance fi95 : FI Tryz.prog 95 := ⟨fun args w => by kernel_rfl⟩
instance fi96 : FI Tryz.prog 96 := ⟨fun args w => by kernel_rfl⟩
instance fi100 : FI Tryz.prog 100 := ⟨fun args w => by kernel_rfl⟩
instance fi108 : FI Tryz.prog 108 := ⟨fun args w => by kernel_rfl⟩
instance fi109 : FI Tryz.prog 109 := ⟨fun args w => by kernel_rfl⟩
instance fi110 : FI Tryz.prog 110 := ⟨fun args w => by kernel_rfl⟩
instance fi111 : FI Tryz.prog 111 := ⟨fun args w => by kernel_rfl⟩
instance fi112 : FI Tryz.prog 112 := ⟨fun args w => by kernel_rfl⟩
instance fi113 : FI Tryz.prog 113 := ⟨fun args w => by kernel_rfl⟩
instance fi114 : FI Tryz.prog 114 := ⟨fun args w => by kernel_rfl⟩
instance fi115 : FI Tryz.prog 115 := ⟨fun args w => by kernel_rfl⟩
instance fi116 : FI Tryz.prog 116 := ⟨fun args w => by kernel_rfl⟩
instance fi117 : FI Tryz.prog 117 := ⟨fun args w => by kernel_rfl⟩
instance fi118 : FI Tryz.prog 118 := ⟨fun args w => by kernel_rfl⟩
instance fi119 : FI Tryz.prog 119 := ⟨fun args w => by kernel_rfl⟩
instance fi120 : FI Tryz.prog 120 := ⟨fun args w => by kernel_rfl⟩
instance fi121 : FI Tryz.prog 121 := ⟨fun args w => by kernel_rfl⟩
instance fi122 : FI Tryz.prog 122 := ⟨fun args w => by kernel_rfl⟩
instance fi123 : FI Tryz.prog 123 := ⟨fun args w => by kernel_rfl⟩
instance fi124 : FI Tryz.prog 124 := ⟨fun args w => by kernel_rfl⟩
instance fi125 : FI Tryz.prog 125 := ⟨fun args w => by kernel_rfl⟩
instance fi126 : FI Tryz.prog 126 := ⟨fun args w => by kernel_rfl⟩
instance fi127 : FI Tryz.prog 127 := ⟨fun args w => by kernel_rfl⟩
instance fi128 : FI Tryz.prog 128 := ⟨fun args w => by kernel_rfl⟩
instance fi129 : FI Tryz.prog 129 := ⟨fun args w => by kernel_rfl⟩
instance fi130 : FI Tryz.prog 130 := ⟨fun args w => by kernel_rfl⟩
instance fi131 : FI Tryz.prog 131 := ⟨fun args w => by kernel_rfl⟩
instance fi132 : FI Tryz.prog 132 := ⟨fun args w => by kernel_rfl⟩
instance fi133 : FI Tryz.prog 133 := ⟨fun args w => by kernel_rfl⟩
instance fi141 : FI Tryz.prog 141 := ⟨fun args w => by kernel_rfl⟩
instance fi142 : FI Tryz.prog 142 := ⟨fun args w => by kernel_rfl⟩
instance fi143 : FI Tryz.prog 143 := ⟨fun args w => by kernel_rfl⟩
instance fi144 : FI Tryz.prog 144 := ⟨fun args w => by kernel_rfl⟩
instance fi145 : FI Tryz.prog 145 := ⟨fun args w => by kernel_rfl⟩
instance fi146 : FI Tryz.prog 146 := ⟨fun args w => by kernel_rfl⟩
instance fi147 : FI Tryz.prog 147 := ⟨fun args w => by kernel_rfl⟩
instance fi148 : FI Tryz.prog 148 := ⟨fun args w => by kernel_rfl⟩
instance fi149 : FI Tryz.prog 149 := ⟨fun args w => by kernel_rfl⟩
instance fi150 : FI Tryz.prog 150 := ⟨fun args w => by kernel_rfl⟩
instance fi151 : FI Tryz.prog 151 := ⟨fun args w => by kernel_rfl⟩
instance fi152 : FI Tryz.prog 152 := ⟨fun args w => by kernel_rfl⟩
instance fi153 : FI Tryz.prog 153 := ⟨fun args w => by kernel_rfl⟩
instance fi154 : FI Tryz.prog 154 := ⟨fun args w => by kernel_rfl⟩
instance fi155 : FI Tryz.prog 155 := ⟨fun args w => by kernel_rfl⟩
instance fi156 : FI Tryz.prog 156 := ⟨fun args w => by kernel_rfl⟩
instance fi157 : FI Tryz.prog 157 := ⟨fun args w => by kernel_rfl⟩
instance fi158 : FI Tryz.prog 158 := ⟨fun args w => by kernel_rfl⟩
instance fi164 : FI Tryz.prog 164 := ⟨fun args w => by kernel_rfl⟩
instance fi165 : FI Tryz.prog 165 := ⟨fun args w => by kernel_rfl⟩
instance fi166 : FI Tryz.prog 166 := ⟨fun args w => by kernel_rfl⟩
instance fi167 : FI Tryz.prog 167 := ⟨fun args w => by kernel_rfl⟩
instance fi168 : FI Tryz.prog 168 := ⟨fun args w => by kernel_rfl⟩
instance fi169 : FI Tryz.prog 169 := ⟨fun args w => by kernel_rfl⟩
instance fi170 : FI Tryz.prog 170 := ⟨fun args w => by kernel_rfl⟩
instance fi176 : FI Tryz.prog 176 := ⟨fun args w => by kernel_rfl⟩
instance fi177 : FI Tryz.prog 177 := ⟨fun args w => by kernel_rfl⟩
instance fi178 : FI Tryz.prog 178 := ⟨fun args w => by kernel_rfl⟩
instance fi179 : FI Tryz.prog 179 := ⟨fun args w => by kernel_rfl⟩
instance fi182 : FI Tryz.prog 182 := ⟨fun args w => by kernel_rfl⟩
noncomputable instance ts32 : TS Tryz.prog 32 := ⟨#[(0, 1), (1, 1), (2, 1)], fun w => by kernel_rfl⟩
noncomputable instance ts47 : TS Tryz.prog 47 := ⟨#[(0, 1), (1, 1), (2, 1), (3, 1), (4, 1), (5, 1), (6, 1), (7, 1), (8, 1), (9, 1), (10, 1)], fun w => by kernel_rfl⟩
noncomputable instance ts49 : TS Tryz.prog 49 := ⟨#[(0, 1), (1, 1), (2, 1)], fun w => by kernel_rfl⟩
noncomputable instance ts51 : TS Tryz.prog 51 := ⟨#[(0, 1), (1, 1)], fun w => by kernel_rfl⟩
noncomputable instance ts53 : TS Tryz.prog 53 := ⟨#[(0, 1), (1, 1)], fun w => by kernel_rfl⟩
noncomputable instance ts57 : TS Tryz.prog 57 := ⟨#[(0, 1), (1, 1), (2, 1), (3, 1), (4, 1), (5, 1), (6, 1), (7, 1)], fun w => by kernel_rfl⟩
noncomputable instance ts59 : TS Tryz.prog 59 := ⟨#[(0, 1), (1, 1), (2, 1), (3, 1), (4, 1)], fun w => by kernel_rfl⟩
noncomputable instance ts75 : TS Tryz.prog 75 := ⟨#[(0, 1), (1, 1)], fun w => by kernel_rfl⟩
noncomputable instance ts87 : TS Tryz.prog 87 := ⟨#[(0, 2), (2, 1)], fun w => by kernel_rfl⟩
noncomputable instance ts93 : TS Tryz.prog 93 := ⟨#[(0, 1), (1, 1), (2, 1), (3, 1)], fun w => by kernel_rfl⟩
noncomputable instance ts97 : TS Tryz.prog 97 := ⟨#[(0, 1), (1, 1)], fun w => by kernel_rfl⟩
noncomputable instance ts99 : TS Tryz.prog 99 := ⟨#[(0, 1), (1, 1)], fun w => by kernel_rfl⟩
noncomputable instance ts106 : TS Tryz.prog 106 := ⟨#[(0, 1), (1, 1), (2, 1), (3, 1)], fun w => by kernel_rfl⟩
noncomputable instance ts110 : TS Tryz.prog 110 := ⟨#[(0, 5), (5, 1), (6, 1)], fun w => by kernel_rfl⟩
noncomputable instance ts118 : TS Tryz.prog 118 := ⟨#[(0, 1), (1, 1), (2, 1), (3, 1), (4, 1)], fun w => by kernel_rfl⟩
noncomputable instance ts150 : TS Tryz.prog 150 := ⟨#[(0, 1), (1, 1), (2, 1), (3, 1), (4, 1), (5, 1), (6, 1), (7, 1), (8, 1)], fun w => by kernel_rfl⟩
noncomputable instance ts165 : TS Tryz.prog 165 := ⟨#[(0, 1), (1, 1)], fun w => by kernel_rfl⟩
end Go.Proofs.YtamajcgdfjeehaaGreatDoor
end

section
namespace Go.Vc
open Go.RowKit

/-- How a call ends: it returns (and what is known then), or it panics with a value. -/
inductive Fin : Type 1
  | ret (post : (S → List Ch → Prop) → Prop)
  | pan (v : Value)

def Pan (P : Program) [Gl P] (f : FuncId) (args : List S) (Hin : List Ch) (v : Value) : Prop :=
  ∀ (vs : List Value) (w : World) (A : Nat → Prop), (∀ b, A b → b < w.heap.size) → (∀ b ∈ hb Hin, A b) → (hb Hin).Nodup → SOks w A args vs → (∀ ch ∈ Hin, ch.ok w A) → Gl.ok P w A →
    Calls P f vs.toArray w (fun e w' => e = .panicked [{ v := v, recovered := false }] ∧ Grow (hb Hin) w w')
def ConE (P : Program) [Gl P] (f : FuncId) (args : List S) (Hin : List Ch) : Fin → Prop
  | .ret post => Con P f args Hin post
  | .pan v => Pan P f args Hin v

section
variable {P : Program} [Gl P] {nt : Nat} {c : Cx P nt} {env : Env} {H : List Ch} {K : S → List Ch → Prop}
variable {d : Option Tmp} {ty t t' : TypeId} {pos : String} {af : Array Edge} {g : Option (Nat × Bool)} {x y : Operand}
def RE (c : Cx P nt) : Fin → Ending → World → Prop
  | .ret post => RR c post
  | .pan v => fun e w' => e = .panicked [{ v := v, recovered := false }] ∧ Grow c.X c.B w'

theorem con_introE {f : FuncId} {fn : Func} {code : Code} {args : List S} {Hin : List Ch} {fin : Fin} (hf : P.funcs[f]? = some fn) (hbd : fn.body = some code) (hnt : fn.ntmps = nt) (hle : args.length ≤ nt)
    (h : ∀ c : Cx P nt, c.X = hb Hin → JC c code (bodyPost P fn (RE c fin)) (enum 0 args) Hin) : ConE P f args Hin fin := by
  cases fin with
  | ret post => exact con_intro hf hbd hnt hle h
  | pan u =>
    intro vs w A hA hHA hnd hvs hok hgl
    have hlen := soks_length hvs
    let c : Cx P nt := ⟨w, A, hb Hin, hA⟩
    have hav : ∀ b, c.av Hin b → A b := fun b hb => hb.elim id (hHA b)
    refine calls_of_wp hf hbd ?_
    refine h c rfl _ _ ⟨?_, rfl, ?_, ⟨rfl, rfl, rfl, Nat.le_refl _, fun _ _ _ => rfl, fun ch hch => Ch.up (Up.refl _ _) (fun b hb => .inl (hav b hb)) (fun _ _ => rfl) (hok ch hch), hnd, fun b hb => .inl hb, Gl.up (Up.refl _ _) (fun b hb => .inl (hav b hb)) hgl⟩⟩
    · simp only [Array.size_append, Array.size_replicate, List.size_toArray, hnt]
      omega
    · intro i s hi
      obtain ⟨v, _, h2, h3⟩ := enum_lookup hvs hi
      have hlt : i < vs.length := (List.getElem?_eq_some_iff.1 (by simpa using h2)).1
      rw [Array.getD_eq_getD_getElem?, Array.getElem?_append_left (by simpa using hlt)]
      simp only [List.getElem?_toArray]
      simp only [Nat.sub_zero] at h2
      rw [h2]
      exact sok_up (Up.refl _ _) (fun b hb => .inl (hav b hb)) s v h3

theorem pan_intro {f : FuncId} {fn : Func} {code : Code} {args : List S} {Hin : List Ch} {v : Value} (hf : P.funcs[f]? = some fn) (hbd : fn.body = some code) (hnt : fn.ntmps = nt) (hle : args.length ≤ nt)
    (h : ∀ c : Cx P nt, c.X = hb Hin → JC c code (bodyPost P fn (RE c (.pan v))) (enum 0 args) Hin) : Pan P f args Hin v :=
  con_introE (fin := .pan v) hf hbd hnt hle h
/-- At an exit: it has turned out how it ends. -/
theorem jq_fin {fn : Func} {fin : Fin} {post : (S → List Ch → Prop) → Prop} {ex : Exit} (he : fin = .ret post) (h : JQ c (bodyPost P fn (RR c post)) ex env H) : JQ c (bodyPost P fn (RE c fin)) ex env H := by
  subst he
  exact h

/-- A struct and two more results. -/
theorem jq_retRow2 {fn : Func} {post : (S → List Ch → Prop) → Prop} {a u u2 : Tmp} {b : Nat} {bt t : TypeId} [TI P t] {row : List C} {s' s'' : S} {Hx Hout : List Ch} (hres : fn.results = #[.cell a t, .tmp u, .tmp u2]) (ha : aggB (TI.u P t) = true) (hz : (TI.i P t).size = row.length) (hl : env.lookup a = some (.cell (.val (.pointer (some ⟨b, 0, none⟩))))) (hl' : env.lookup u = some s') (hl'' : env.lookup u2 = some s'') (j : Nat) (hj : pick [j] H = some ([.blk b bt row], Hx)) (hpost : ∀ K, post K → K (.tup [.row row, s', s'']) Hout) (hp : Sub H Hout) :
    JQ c (bodyPost P fn (RR c post)) .ret env H :=
  let ⟨_, _, hp⟩ := hp
  jq_retG (ss := [.row row, s', s'']) (.inl rfl) (by rw [hres]; exact ⟨.row row, _, b, j, bt, row, Hx, rfl, hl, hj, res_row ha hz, s', _, rfl, hl', s'', _, rfl, hl'', rfl⟩) hp hpost
/-- A test that is decided. -/
theorem jc_condT {Q : Exit → Act → World → Prop} {thn els : Code} {b : Bool} (hx : env.ev x = some (Bl b)) (hb : b = true) (h : JC c thn Q env H) : JC c (.cond x thn els) Q env H := jc_cond hx (fun _ => h) (fun h => by rw [hb] at h; cases h)
theorem jc_condF {Q : Exit → Act → World → Prop} {thn els : Code} {b : Bool} (hx : env.ev x = some (Bl b)) (hb : b = false) (h : JC c els Q env H) : JC c (.cond x thn els) Q env H := jc_cond hx (fun h => by rw [hb] at h; cases h) (fun _ => h)
/-- No result. -/
theorem jq_ret0 {fn : Func} {post : (S → List Ch → Prop) → Prop} {ex : Exit} (hex : ex = .ret ∨ ex = .normal) (hres : fn.results = #[]) (is : List Nat) {Hout Hr : List Ch} (hp : pick is H = some (Hout, Hr)) (hpost : ∀ K, post K → K (.tup []) Hout) : JQ c (bodyPost P fn (RR c post)) ex env H :=
  jq_retG (ss := []) hex (by rw [hres]; rfl) hp hpost
/-- What is asked at a panic. -/
def PanQ (c : Cx P nt) (Q : Exit → Act → World → Prop) (v : Value) : Prop := ∀ a w, a.defers = [] → Grow c.X c.B w → Q (.panic [{ v := v, recovered := false }]) a w
omit [Gl P] in
theorem pq_then {Q : Exit → Act → World → Prop} {K : Act → World → Prop} {v : Value} (h : PanQ c Q v) : PanQ c (Exit.then K Q) v := h
omit [Gl P] in
theorem pq_block {Q : Exit → Act → World → Prop} {id : Nat} {v : Value} (h : PanQ c Q v) : PanQ c (Exit.inBlock id Q) v := h
omit [Gl P] in
theorem pq_fin {fn : Func} {fin : Fin} {v : Value} (he : fin = .pan v) : PanQ c (bodyPost P fn (RE c fin)) v := by
  subst he
  exact fun a w hd hg => ⟨hd, rfl, hg⟩

theorem grow_st {w w' : World} {is : List Nat} {Hin Hr : List Ch} (h : StW c H w) (hp : pick is H = some (Hin, Hr)) (hg : Grow (hb Hin) w w') : Grow c.X c.B w' := by
  have h0 := stw_grow h
  refine ⟨hg.os.trans h0.os, hg.tape.trans h0.tape, hg.output.trans h0.output, Nat.le_trans h0.size hg.size, fun k hk hX => ?_⟩
  rw [hg.block k (Nat.lt_of_lt_of_le hk h0.size) ?_]
  · exact h0.block k hk hX
  · intro hk1
    have hm : k ∈ hb H := (hb_perm (pick_perm hp)).mem_iff.2 (by rw [hb_app]; exact List.mem_append.2 (.inl hk1))
    rcases h.mine k hm with h' | h'
    · exact hX h'
    · omega

/-- An operation that panics. -/
def OpPan (c : Cx P nt) (o : Oper) (env : Env) (H : List Ch) (v : Value) : Prop :=
  ∀ a w, St c env H a w → ∀ (next : Act → World → Prop) Q, PanQ c Q v → o.wp P a w next Q

theorem op_pan {Hin Hr : List Ch} {f : FuncId} [FI P f] {xs : Array Operand} {at_ : Array TypeId} {ss : List S} {v : Value} (is : List Nat) (hx : env.evs xs.toList = some ss) (hp : pick is H = some (Hin, Hr)) (con : Pan P f ss Hin v) :
    OpPan c ⟨d, .call { callee := .value (.func f), args := xs, argTypes := at_ }, ty, pos, af, g⟩ env H v := by
  intro a w h next Q hq
  have hperm := pick_perm hp
  have h' : StW c (Hin ++ Hr) w := h.heap.perm hperm
  have hav : c.av (Hin ++ Hr) = c.av H := av_perm c hperm
  have hnd := h'.nodup
  rw [hb_app, List.nodup_append] at hnd
  have hrun : (execOp a.eval ⟨d, .call { callee := .value (.func f), args := xs, argTypes := at_ }, ty, pos, af, g⟩).run P w = .ok (.enter f (xs.toList.map a.eval).toArray) w := by
    have e1 : (xs.map a.eval) = (xs.toList.map a.eval).toArray := by apply Array.ext'; simp
    simp only [execOp, resolve, invoke, Act.eval, Deferred.ofValue, Sem.run_bind, Sem.run_pure, Result.andThen_ok]
    rw [e1]
    simp [FI.hrun]
  unfold Oper.wp
  rw [hrun, Oper.upon_enter]
  refine (con (xs.toList.map a.eval) w (c.av H) (fun b hb => h.heap.avlt b hb) (fun b hb => by rw [← hav]; exact .inr (by rw [hb_app]; exact List.mem_append.2 (.inl hb))) hnd.1 (evs_ok h hx)
    (fun ch hch => by rw [← hav]; exact h'.ok ch (List.mem_append.2 (.inl hch))) h.heap.gl).mono ?_
  rintro e w' ⟨rfl, hg⟩
  exact hq a w' h.defers (grow_st h.heap hp hg)
theorem op_panic {u : TypeId} {v : Value} (hx : env.ev x = some (.cell (.val (.iface u v)))) : OpPan c ⟨d, .panic x, ty, pos, af, g⟩ env H (.iface u v) := by
  intro a w h next Q hq
  have hrun : (execOp a.eval ⟨d, .panic x, ty, pos, af, g⟩).run P w = .halt (.panic (.iface u v)) w := by
    simp [execOp, ev_val h hx, Instr.panic]
  unfold Oper.wp
  rw [hrun, Oper.upon_panic]
  exact hq a w h.defers (stw_grow h.heap)

theorem jl_pan {ops : Array Oper} {Q : Exit → Act → World → Prop} {l : List Oper} {op : Op} {v : Value} (h : OpPan c ⟨d, op, ty, pos, af, none⟩ env H v) (hq : PanQ c Q v) : JL c ops Q (⟨d, op, ty, pos, af, none⟩ :: l) env H := by
  intro a w hs
  exact wpList_plain rfl fun K _ => h a w hs _ _ hq
theorem ow_makeIface {vs : List Value} [TI P t] (hi : structB (TI.u P t) = true) (hx : env.ev x = some (.row (vs.map C.val))) (hK : K (.cell (.val (.iface t (.agg vs.toArray)))) H) : OpWp c ⟨d, .makeInterface t x, ty, pos, af, g⟩ env H K :=
  ow_valx rfl (fun a w h => by
    obtain ⟨cs, he, hr⟩ := ev_ok h hx
    have e1 : cs.toList = vs := rdRow_vals hr
    have e2 : cs = vs.toArray := by apply Array.ext'; simpa using e1
    subst e2
    have hu := u_of_struct hi
    have hu' : (underlying t).run P w = .ok (.struct (fieldsB (TI.u P t))) w := by rw [run_underlying (TI.hu (P := P) (t := t))]; exact congrArg (fun u => Result.ok u w) hu
    simp only [execOp, he, Instr.makeInterface, Sem.run_bind, hu', Result.andThen_ok, Sem.run_pure]) hK

def Env.vals (env : Env) : List Operand → Option (List Value)
  | [] => some []
  | x :: r => match env.ev x, Env.vals env r with
    | some (.cell (.val v)), some vs => some (v :: vs)
    | _, _ => none
theorem vals_ok {a : Act} {w : World} (h : St c env H a w) : ∀ {xs : List Operand} {vs : List Value}, env.vals xs = some vs → xs.map a.eval = vs
  | [], vs, hp => by simp only [Env.vals, Option.some.injEq] at hp; subst hp; rfl
  | x :: xs, vs, hp => by
    simp only [Env.vals] at hp
    split at hp
    · rename_i v vs' h1 h2
      simp only [Option.some.injEq] at hp
      subst hp
      rw [List.map_cons, ev_val h h1, vals_ok h h2]
    · cases hp
theorem ow_makeFunc {f : FuncId} {xs : Array Operand} {vs : List Value} (hx : env.vals xs.toList = some vs) (hK : K (.cell (.val (.func (.func f) #[] vs.toArray))) H) : OpWp c ⟨d, .makeFunc (.func f) #[] xs, ty, pos, af, g⟩ env H K :=
  ow_valx rfl (fun a w h => by
    have e1 : xs.map a.eval = vs.toArray := by apply Array.ext'; simpa using vals_ok h hx
    simp only [execOp, Instr.makeFunc, e1, Array.map_empty, Sem.run_bind, Sem.run_pure, Result.andThen_ok]) hK
theorem ow_negW {k : IntKind} {m : Int} (hx : env.ev x = some (In k m)) (hK : K (In k (k.wrap (-m))) H) : OpWp c ⟨d, .unOp .neg t x, ty, pos, af, g⟩ env H K :=
  ow_valx rfl (fun a w h => by simp [execOp, ev_val h hx, Op.unary, Op.intArith]) hK
/-- All of a package array, as a slice. -/
theorem ow_sliceG {b n : Nat} {e : TypeId} [TI P t] [TI P e] {rows : List (List C)} (hg : ∀ w A, Gl.ok P w A → GV w A b rows.flatten) (hu : TI.u P t = .array n e) (hn : rows.length = n) (hr : rows.all (fun r => decide (r.length = (TI.i P e).size)) = true) (hpos : 0 < (TI.i P e).size) (hmax : n ≤ maxLen)
    (hx : env.ev x = some (.cell (.val (.pointer (some ⟨b, 0, none⟩))))) (hK : K (.cell (.list rows)) H) : OpWp c ⟨d, .slice t x none none none, ty, pos, af, g⟩ env H K :=
  ow_val (fun a w h => by
    obtain ⟨hA, cs, bt, f, hh, hrow⟩ := hg _ _ h.heap.gl
    have hu1 : (underlying t).run P w = .ok (.array n e) w := by rw [run_underlying (TI.hu (P := P) (t := t)), hu]
    have hflat : ∀ (rows : List (List C)) (vs : List Value), rows.all (fun r => decide (r.length = (TI.i P e).size)) = true → RdRow w (c.av H) rows.flatten vs → RdRows w (c.av H) (TI.i P e).size rows vs := by
      intro rows
      induction rows with
      | nil => intro vs _ h; exact h
      | cons r rows ih =>
        intro vs hall h
        simp only [List.all_cons, Bool.and_eq_true, decide_eq_true_eq] at hall
        have h1 := rdRow_take r.length h
        have h2 := rdRow_drop r.length h
        simp only [List.flatten_cons, List.take_left', List.drop_left'] at h1 h2
        refine ⟨vs.take r.length, vs.drop r.length, (List.take_append_drop _ _).symm, ?_, h1, ih _ hall.2 h2⟩
        rw [rdRow_length h1, hall.1]
    refine ⟨.slice (some ⟨b, 0, none⟩) n n, ?_, some ⟨b, 0, none⟩, n, by rw [hn], by omega, hmax, .inr ⟨b, 0, cs.toList, (TI.i P e).size, rfl, hA, ?_, hpos, hflat _ _ hr hrow⟩⟩
    · simp [execOp, ev_val h hx, Instr.sliceAt, Instr.slice, Instr.sliceBounds, hu1, run_sizeOf, add_at, Instr.sureAddr]
    · intro j v hj
      simp only [World.cell?, hh, Nat.zero_add]
      simpa using hj) hK
end
end Go.Vc
end

section
namespace Go.Vc
open Go.RowKit

def PanI (Q : Exit → Act → World → Prop) : Prop := ∀ ch a d v w, Q (.panic ch) (Act.put a d v) w → Q (.panic ch) a w
theorem pani_then {K : Act → World → Prop} {Q : Exit → Act → World → Prop} (h : PanI Q) : PanI (Exit.then K Q) := h
theorem pani_block {id : Nat} {Q : Exit → Act → World → Prop} (h : PanI Q) : PanI (Exit.inBlock id Q) := h
theorem pani_body {P : Program} {fn : Func} {R : Ending → World → Prop} : PanI (bodyPost P fn R) := by
  intro ch a d v w h
  cases d <;> exact h

theorem len2 {α : Type} {l : List α} (h : l.length = 2) : ∃ v0 v1, l = [v0, v1] := by
  match l, h with
  | [v0, v1], _ => exact ⟨v0, v1, rfl⟩
theorem len5 {α : Type} {l : List α} (h : l.length = 5) : ∃ v0 v1 v2 v3 v4, l = [v0, v1, v2, v3, v4] := by
  match l, h with
  | [v0, v1, v2, v3, v4], _ => exact ⟨v0, v1, v2, v3, v4, rfl⟩
theorem len7 {α : Type} {l : List α} (h : l.length = 7) : ∃ v0 v1 v2 v3 v4 v5 v6, l = [v0, v1, v2, v3, v4, v5, v6] := by
  match l, h with
  | [v0, v1, v2, v3, v4, v5, v6], _ => exact ⟨v0, v1, v2, v3, v4, v5, v6, rfl⟩
theorem len8 {α : Type} {l : List α} (h : l.length = 8) : ∃ v0 v1 v2 v3 v4 v5 v6 v7, l = [v0, v1, v2, v3, v4, v5, v6, v7] := by
  match l, h with
  | [v0, v1, v2, v3, v4, v5, v6, v7], _ => exact ⟨v0, v1, v2, v3, v4, v5, v6, v7, rfl⟩
section
variable {P : Program} {ops : Array Oper} {Q : Exit → Act → World → Prop} {md : Region.Mode} {S : World → Prop} {m : Nat}
def anyX (P : Program) (md : Region.Mode) (ops : Array Oper) (Q : Exit → Act → World → Prop) (S : World → Prop) (m : Nat) : Nat → Array Bool → Act → World → Prop
  | 0, listed, a, w => Region.ready md ops listed = [] ∧ Q .normal a w
  | fuel + 1, listed, a, w => (Region.ready md ops listed = [] → Q .normal a w) ∧ ∀ i ∈ Region.ready md ops listed, wpOp P ops Q i (fun a' w' => (i < m → S w') ∧ anyX P md ops Q S m fuel (listed.setIfInBounds i true) a' w') a w
theorem any_of_x : ∀ (fuel : Nat) (listed : Array Bool) (a : Act) (w : World), anyX P md ops Q S m fuel listed a w → wpAny P md ops Q fuel listed a w
  | 0, _, _, _, h => h
  | fuel + 1, _, _, _, h => ⟨h.1, fun i hi => wpOp_mono (fun a' w' h' => any_of_x fuel _ a' w' h'.2) (h.2 i hi)⟩
/-- One that only looks is taken first; the later ones wait for it. -/
theorem anyX_first {i : Nat} {oi : Oper} {v : Value} (hi : ops[i]? = some oi) (hsel : ∀ (j : Nat) (o : Oper) cs b, ops[j]? = some o → o.op ≠ .select cs b) (hQ : ∀ c a w, Q (.panic c) (a.put oi.dst v) w → Q (.panic c) a w)
    (hlate : ∀ (j : Nat) (o : Oper), m ≤ j → ops[j]? = some o → j ≠ i → ∃ e ∈ o.after, Region.binds md e = true ∧ e.on = i) :
    ∀ (fuel : Nat) (listed : Array Bool) (a : Act) (w : World),
      (∀ j oj, ops[j]? = some oj → j ≠ i → listed.getD j true = false → (∀ e ∈ oj.after, Region.binds md e = true → e.on ≠ i) → oi.apart ops oj = true) →
      i ∈ Region.ready md ops listed → YieldsIf P ops S oi v a → S w →
      anyX P md ops Q S m fuel (listed.setIfInBounds i true) (a.put oi.dst v) w → anyX P md ops Q S m (fuel + 1) listed a w := by
  intro fuel
  induction fuel with
  | zero =>
    intro listed a w _ hr hy hS hX
    refine ⟨fun h => (by rw [h] at hr; cases hr), fun j hj => ?_⟩
    by_cases hji : j = i
    · subst hji; exact hy.wpOp hi hS ⟨fun _ => hS, hX⟩
    · have := ready_mono hj hji
      rw [hX.1] at this
      cases this
  | succ fuel ih =>
    intro listed a w hfree hr hy hS hX
    refine ⟨fun h => (by rw [h] at hr; cases hr), fun j hj => ?_⟩
    by_cases hji : j = i
    · subst hji; exact hy.wpOp hi hS ⟨fun _ => hS, hX⟩
    · obtain ⟨hjun, oj, hoj, hall⟩ := mem_ready.1 hj
      have hnot : ∀ e ∈ oj.after, Region.binds md e = true → e.on ≠ i := fun e he hbd heq => by
        have h1 := hall e he hbd
        have h0 := (mem_ready.1 hr).1
        rw [heq] at h1
        rw [Array.getD_eq_getD_getElem?] at h0 h1
        cases hl : listed[i]? with
        | none => rw [hl] at h1; cases h1
        | some bb => rw [hl] at h0 h1; simp only [Option.getD_some] at h0 h1; rw [h0] at h1; cases h1
      have hjm : j < m := by
        rcases Nat.lt_or_ge j m with h | h
        · exact h
        · obtain ⟨e, he, hbd, hon⟩ := hlate j oj h hoj hji
          exact absurd hon (hnot e he hbd)
      have h2 := wpOp_putIf hoj (hfree j oj hoj hji hjun hnot) (fun cs b => hsel i oi cs b hi) (fun cs b => hsel j oj cs b hoj) hQ hy (hX.2 j (ready_mono hj hji))
      refine wpOp_mono (fun a' w' h3 => ⟨fun _ => h3.2.1 hjm, ih (listed.setIfInBounds j true) a' w' ?_ (ready_mono hr (Ne.symm hji)) h3.1 (h3.2.1 hjm) ?_⟩) h2
      · intro k ok hk hki hun hno
        refine hfree k ok hk hki ?_ hno
        by_cases hjk : j = k
        · subst hjk; exact hjun
        · rw [getD_set_ne true hjk] at hun; exact hun
      · rw [Array.setIfInBounds_comm _ _ hji]
        exact h3.2.2
end

section
variable {P : Program} [Gl P] {nt : Nat} {c : Cx P nt} {env : Env} {H Hr : List Ch} {ops : Array Oper} {Q : Exit → Act → World → Prop} {Sw : World → Prop} {L : List (Nat × List Value × TypeId)}
variable {m fuel : Nat} {listed : Array Bool} {d ty t t' : TypeId} {pos : String} {af : Array Edge} {x y : Operand}

def HP (c : Cx P nt) (ops : Array Oper) (Q : Exit → Act → World → Prop) (Sw : World → Prop) (m fuel : Nat) (listed : Array Bool) (env : Env) (H : List Ch) : Prop :=
  ∀ a w, St c env H a w → Sw w → anyX P .any ops Q Sw m fuel listed a w
/-- From number m on each waits for this one. -/
def lateWait (ops : Array Oper) (m i : Nat) : Bool := ops.toList.zipIdx.all fun (o, j) => decide (j < m) || j == i || hasEdge o i
omit [Gl P] in
theorem late_spec {i : Nat} (h : lateWait ops m i = true) : ∀ (j : Nat) (o : Oper), m ≤ j → ops[j]? = some o → j ≠ i → ∃ e ∈ o.after, Region.binds .any e = true ∧ e.on = i := by
  intro j o hj ho hne
  have h1 := List.all_eq_true.1 h (o, j) (by rw [List.mem_zipIdx_iff_getElem?]; simpa using ho)
  have h2 : decide (j < m) = false := by simpa using hj
  have h3 : (j == i) = false := by simpa using hne
  simp only [h2, h3, Bool.false_or] at h1
  exact edge_spec h1
theorem hp_take {i : Nat} {op : Op} {s : S} (hi : ops[i]? = some ⟨some d, op, ty, pos, af, none⟩) (hs : (Region.noSelect ops && lateWait ops m i) = true) (hf : Region.free .any ops listed i = true) (hr : (Region.ready .any ops listed).contains i = true) (hd : d < nt) (hQ : PanI Q)
    (hop : HOk c Sw env H ⟨some d, op, ty, pos, af, none⟩ s) (h : HP c ops Q Sw m fuel (listed.setIfInBounds i true) ((d, s) :: env) H) : HP c ops Q Sw m (fuel + 1) listed env H := by
  intro a w hst hS
  obtain ⟨v, h1, h2⟩ := hop a w hst hS
  rw [Bool.and_eq_true] at hs
  exact anyX_first hi (Region.noSelect_spec hs.1) (fun ch a w h => hQ ch a _ _ w h) (late_spec hs.2) fuel listed a w (Region.free_spec hi hf) (by simpa using hr) (.inl ⟨rfl, h1⟩) hS (h _ _ (hst.next hd hst.heap h2 (fun _ _ h => h)) hS)
omit [Gl P] in
theorem anyX_all {rs : List Nat} {a : Act} {w : World} (hr : Region.ready .any ops listed = rs) (hne : rs ≠ []) (h : ∀ i ∈ rs, wpOp P ops Q i (fun a' w' => (i < m → Sw w') ∧ anyX P .any ops Q Sw m fuel (listed.setIfInBounds i true) a' w') a w) : anyX P .any ops Q Sw m (fuel + 1) listed a w :=
  ⟨fun h0 => absurd (hr ▸ h0) hne, hr ▸ h⟩
/-- The only one that may come up now. -/
theorem hp_op {i : Nat} {op : Op} (hi : ops[i]? = some ⟨some d, op, ty, pos, af, none⟩) (hr : Region.ready .any ops listed = [i]) (hd : d < nt)
    (h : OpWp c ⟨some d, op, ty, pos, af, none⟩ env H (fun s H' => (∀ w, StW c H' w → Sw w) ∧ HP c ops Q Sw m fuel (listed.setIfInBounds i true) ((d, s) :: env) H')) : HP c ops Q Sw m (fuel + 1) listed env H := by
  intro a w hst hS
  refine anyX_all hr (by simp) (fun j hj => ?_)
  obtain rfl : j = i := by simpa using hj
  unfold wpOp
  rw [hi]
  dsimp only
  rw [if_pos (show Region.wanted _ _ = true from rfl)]
  refine .inl (h a w hst _ _ ?_)
  intro s H' v w' hK hw' hv hk
  exact ⟨fun _ => hK.1 _ hw', hK.2 _ _ (hst.next hd hw' hv hk) (hK.1 _ hw')⟩
theorem hp_op0 {i : Nat} {op : Op} (hi : ops[i]? = some ⟨none, op, ty, pos, af, none⟩) (hr : Region.ready .any ops listed = [i])
    (h : OpWp c ⟨none, op, ty, pos, af, none⟩ env H (fun _ H' => (∀ w, StW c H' w → Sw w) ∧ HP c ops Q Sw m fuel (listed.setIfInBounds i true) env H')) : HP c ops Q Sw m (fuel + 1) listed env H := by
  intro a w hst hS
  refine anyX_all hr (by simp) (fun j hj => ?_)
  obtain rfl : j = i := by simpa using hj
  unfold wpOp
  rw [hi]
  dsimp only
  rw [if_pos (show Region.wanted _ _ = true from rfl)]
  refine .inl (h a w hst _ _ ?_)
  intro s H' v w' hK hw' hv hk
  exact ⟨fun _ => hK.1 _ hw', hK.2 _ _ (hst.next0 hw' hk) (hK.1 _ hw')⟩
theorem hp_pan {i : Nat} {dd : Option Nat} {op : Op} {v : Value} (hi : ops[i]? = some ⟨dd, op, ty, pos, af, none⟩) (hr : Region.ready .any ops listed = [i])
    (h : OpPan c ⟨dd, op, ty, pos, af, none⟩ env H v) (hq : PanQ c Q v) : HP c ops Q Sw m (fuel + 1) listed env H := by
  intro a w hst hS
  refine anyX_all hr (by simp) (fun j hj => ?_)
  obtain rfl : j = i := by simpa using hj
  unfold wpOp
  rw [hi]
  dsimp only
  rw [if_pos (show Region.wanted _ _ = true from rfl)]
  exact .inl (h a w hst _ _ hq)
theorem hp_done (hr : Region.ready .any ops listed = []) (h : JQ c Q .normal env H) : HP c ops Q Sw m fuel listed env H := by
  intro a w hst _
  cases fuel with
  | zero => exact ⟨hr, h a w hst⟩
  | succ fuel => exact ⟨fun _ => h a w hst, by rw [hr]; simp⟩
/-- What comes behind the first m, one after the other: nothing need hold any more. -/
def HT (c : Cx P nt) (ops : Array Oper) (Q : Exit → Act → World → Prop) (Sw : World → Prop) (m fuel : Nat) (listed : Array Bool) (env : Env) (H : List Ch) : Prop :=
  ∀ a w, St c env H a w → anyX P .any ops Q Sw m fuel listed a w
theorem hp_tail (h : HT c ops Q Sw m fuel listed env H) : HP c ops Q Sw m fuel listed env H := fun a w hst _ => h a w hst
theorem ht_op {i : Nat} {op : Op} (hi : ops[i]? = some ⟨some d, op, ty, pos, af, none⟩) (hr : Region.ready .any ops listed = [i]) (hd : d < nt) (hm : m ≤ i)
    (h : OpWp c ⟨some d, op, ty, pos, af, none⟩ env H (fun s H' => HT c ops Q Sw m fuel (listed.setIfInBounds i true) ((d, s) :: env) H')) : HT c ops Q Sw m (fuel + 1) listed env H := by
  intro a w hst
  refine anyX_all hr (by simp) (fun j hj => ?_)
  obtain rfl : j = i := by simpa using hj
  unfold wpOp
  rw [hi]
  dsimp only
  rw [if_pos (show Region.wanted _ _ = true from rfl)]
  refine .inl (h a w hst _ _ ?_)
  intro s H' v w' hK hw' hv hk
  exact ⟨fun hlt => absurd hlt (by omega), hK _ _ (hst.next hd hw' hv hk)⟩
theorem ht_op0 {i : Nat} {op : Op} (hi : ops[i]? = some ⟨none, op, ty, pos, af, none⟩) (hr : Region.ready .any ops listed = [i]) (hm : m ≤ i)
    (h : OpWp c ⟨none, op, ty, pos, af, none⟩ env H (fun _ H' => HT c ops Q Sw m fuel (listed.setIfInBounds i true) env H')) : HT c ops Q Sw m (fuel + 1) listed env H := by
  intro a w hst
  refine anyX_all hr (by simp) (fun j hj => ?_)
  obtain rfl : j = i := by simpa using hj
  unfold wpOp
  rw [hi]
  dsimp only
  rw [if_pos (show Region.wanted _ _ = true from rfl)]
  refine .inl (h a w hst _ _ ?_)
  intro s H' v w' hK hw' hv hk
  exact ⟨fun hlt => absurd hlt (by omega), hK _ _ (hst.next0 hw' hk)⟩
theorem ht_done (hr : Region.ready .any ops listed = []) (h : JQ c Q .normal env H) : HT c ops Q Sw m fuel listed env H := by
  intro a w hst
  cases fuel with
  | zero => exact ⟨hr, h a w hst⟩
  | succ fuel => exact ⟨fun _ => h a w hst, by rw [hr]; simp⟩
theorem hp_exact {b : Nat} {bt : TypeId} {row : List C} {cs : List Value} (j : Nat) (hp : pick [j] H = some ([.blk b bt row], Hr)) (hm : (b, cs, bt) ∈ L) (h : HP c ops Q (Keep L) m fuel listed env (.blk b bt (cs.map C.val) :: Hr)) : HP c ops Q (Keep L) m fuel listed env H := by
  intro a w hst hS
  obtain ⟨cs', g1, g2⟩ := blk_ok hst hp
  have g3 := hS _ hm
  dsimp only at g3
  rw [g1] at g3
  obtain rfl : cs' = cs := by simpa using g3
  exact h a w (st_row hst hp ⟨cs', g1, rdRow_exact g2⟩) hS
theorem hp_begin {id n : Nat} (m : Nat) (hn : ops.size = n) (hm : P.follows .mixedOrders = true) {a : Act} {w : World} (hs : St c env H a w) (hS : Sw { w with drawn := w.drawn + 1 }) (h : HP c ops Q Sw m n (Array.replicate n false) env H) : (Code.region id ops true).wp P Q a w := by
  subst hn
  refine wp_region_any hm (any_of_x (S := Sw) (m := m) _ _ _ _ ?_)
  obtain ⟨d1, d2⟩ := stw_drew hs.heap
  exact h a _ ⟨hs.size, hs.defers, fun t s hl => d2 _ _ (hs.slots t s hl), d1⟩ hS
/-- No block is looked at that is turned elsewhere. -/
theorem jc_hp0 {id n : Nat} (m : Nat) (hn : ops.size = n) (hm : P.follows .mixedOrders = true) (h : HP c ops Q (Keep []) m n (Array.replicate n false) env H) : JC c (.region id ops true) Q env H :=
  fun _ _ hs => hp_begin m hn hm hs (by intro p hp; cases hp) h
theorem jc_hp1 {id n : Nat} (m : Nat) (hn : ops.size = n) {b1 : Nat} {t1 : TypeId} {r1 : List C} (j1 : Nat) (hm : P.follows .mixedOrders = true) (hp : pick [j1] H = some ([.blk b1 t1 r1], Hr))
    (h : ∀ cs1 : List Value, cs1.length = r1.length → HP c ops Q (Keep [(b1, cs1, t1)]) m n (Array.replicate n false) env H) : JC c (.region id ops true) Q env H := by
  intro a w hs
  obtain ⟨cs1, g1, k1⟩ := blk_ok hs hp
  refine hp_begin m hn hm hs ?_ (h cs1 (rdRow_length k1))
  intro p hp
  obtain rfl := List.mem_singleton.1 hp
  exact g1
theorem jc_hp2 {id n : Nat} (m : Nat) (hn : ops.size = n) {b1 b2 : Nat} {t1 t2 : TypeId} {r1 r2 : List C} (j1 j2 : Nat) (hm : P.follows .mixedOrders = true) (hp : pick [j1, j2] H = some ([.blk b1 t1 r1, .blk b2 t2 r2], Hr))
    (h : ∀ cs1 cs2 : List Value, cs1.length = r1.length → cs2.length = r2.length → HP c ops Q (Keep [(b1, cs1, t1), (b2, cs2, t2)]) m n (Array.replicate n false) env H) : JC c (.region id ops true) Q env H := by
  intro a w hs
  have e1 := hs.heap.ok (.blk b1 t1 r1) ((pick_perm hp).mem_iff.2 (by simp))
  have e2 := hs.heap.ok (.blk b2 t2 r2) ((pick_perm hp).mem_iff.2 (by simp))
  obtain ⟨cs1, g1, k1⟩ := e1
  obtain ⟨cs2, g2, k2⟩ := e2
  refine hp_begin m hn hm hs ?_ (h cs1 cs2 (rdRow_length k1) (rdRow_length k2))
  intro p hp
  rcases List.mem_cons.1 hp with rfl | hp
  · exact g1
  · obtain rfl := List.mem_singleton.1 hp
    exact g2
/-- A block each of whose cells is known. -/
theorem jc_hpV {id n : Nat} (m : Nat) (hn : ops.size = n) {b1 : Nat} {t1 : TypeId} {r1 : List C} (j1 : Nat) (vs : List Value) (hm : P.follows .mixedOrders = true) (hp : pick [j1] H = some ([.blk b1 t1 r1], Hr)) (hv : r1 = vs.map C.val)
    (h : HP c ops Q (Keep [(b1, vs, t1)]) m n (Array.replicate n false) env H) : JC c (.region id ops true) Q env H := by
  intro a w hs
  obtain ⟨cs1, g1, g2⟩ := blk_ok hs hp
  subst hv
  obtain rfl := rdRow_vals g2
  refine hp_begin m hn hm hs ?_ h
  intro p hp
  obtain rfl := List.mem_singleton.1 hp
  exact g1
theorem keep0 : ∀ w, StW c H w → Keep [] w := by intro w _ p hp; cases hp
theorem keep1 {b1 : Nat} {t1 : TypeId} {cs1 : List Value} (j : Nat) (hp : H[j]? = some (.blk b1 t1 (cs1.map C.val))) : ∀ w, StW c H w → Keep [(b1, cs1, t1)] w :=
  keep_of (fun p hp2 => by
    obtain rfl := List.mem_singleton.1 hp2
    exact List.mem_of_getElem? hp)
theorem keep2 {b1 b2 : Nat} {t1 t2 : TypeId} {cs1 cs2 : List Value} (j k : Nat) (hp : H[j]? = some (.blk b1 t1 (cs1.map C.val))) (hq : H[k]? = some (.blk b2 t2 (cs2.map C.val))) : ∀ w, StW c H w → Keep [(b1, cs1, t1), (b2, cs2, t2)] w :=
  keep_of2 (List.mem_of_getElem? hp) (List.mem_of_getElem? hq)
theorem mem0 {α : Type} {x : α} {l : List α} : x ∈ x :: l := List.mem_cons_self ..
theorem mem1 {α : Type} {x y : α} {l : List α} : x ∈ y :: x :: l := List.mem_cons_of_mem _ (List.mem_cons_self ..)

theorem hok_nilCheck {d : Option Tmp} {b o : Nat} {sp : Option Nat} (hx : env.ev x = some (.cell (.val (.pointer (some ⟨b, o, sp⟩))))) : HOk c Sw env H ⟨d, .nilCheck x, ty, pos, af, none⟩ (.cell (.val (.pointer (some ⟨b, o, sp⟩)))) :=
  fun _ _ hst _ => ⟨.pointer (some ⟨b, o, sp⟩), fun _ _ => by simp [execOp, ev_val hst hx], rfl, rfl⟩
theorem hok_assign {d : Option Tmp} {s : S} (hx : env.ev x = some s) : HOk c Sw env H ⟨d, .assign x, ty, pos, af, none⟩ s :=
  fun a _ hst _ => ⟨a.eval x, fun _ _ => rfl, ev_ok hst hx⟩
theorem hok_loadN {d : Option Tmp} {b o : Nat} {row r : List C} {bt : TypeId} {cs : List Value} [TI P t] (j : Nat) (ha : aggB (TI.u P t) = true) (hx : env.ev x = some (.cell (.val (.pointer (some ⟨b, o, none⟩))))) (hp : pick [j] H = some ([.blk b bt row], Hr))
    (hm : (b, cs, bt) ∈ L) (hr : r = (row.drop o).take (TI.i P t).size) (hz : r.length = (TI.i P t).size) : HOk c (Keep L) env H ⟨d, .load t x, ty, pos, af, none⟩ (.row r) :=
  fun _ _ hst hS => by
    have hrd := blk_keep hst hp hS hm
    have h1 := rdRow_take (TI.i P t).size (rdRow_drop o hrd)
    rw [← hr] at h1
    have hlen := rdRow_length h1
    refine ⟨.agg ((cs.drop o).take (TI.i P t).size).toArray, fun w' hS' => ?_, _, rfl, by simpa using h1⟩
    have hh := hS' _ hm
    have hc := cells_take (cells_of_blk hh o) (TI.i P t).size
    simp only [execOp, ev_val hst hx, Instr.loadAt, Instr.sureAddr, Sem.run_bind, Sem.run_pure, Result.andThen_ok, run_loadVarN t ha (by rw [hlen, hz]) hc]
end
/-- More is known of the arguments. -/
theorem con_le {P : Program} [Gl P] {f : FuncId} {args args' : List S} {Hin : List Ch} {post : (S → List Ch → Prop) → Prop} (h : ∀ w A vs, SOks w A args vs → SOks w A args' vs) (con : Con P f args' Hin post) : Con P f args Hin post :=
  fun vs w A h1 h2 h3 h4 h5 h6 => con vs w A h1 h2 h3 (h w A vs h4) h5 h6
end Go.Vc
end

section
namespace Go.Vc
open Go.RowKit

section
variable {P : Program} [Gl P] {nt : Nat} {c : Cx P nt} {env : Env} {H : List Ch} {K : S → List Ch → Prop}
variable {d : Option Tmp} {ty t t' : TypeId} {pos : String} {af : Array Edge} {g : Option (Nat × Bool)} {x y : Operand}
/-- A slice of one constant struct. -/
theorem ow_buildSliceC [SL P t] {z : Value} {arr : Array Value} {row : List C} (cs : List Value) (hc : arr.toList = cs) (h1 : cs.all Value.oneCell' = true) (hz : (TI.i P (SL.e P t)).zero = some z) (hrow : row = cs.map C.val)
    (hpos : 0 < (TI.i P (SL.e P t)).size) (hs : sliceRows (TI.i P (SL.e P t)).size 0 [(0, S.row row)] = some [row]) (hlim : (TI.i P (SL.e P t)).size ≤ 16777216) (hK : K (.cell (.list [row])) H) : OpWp c ⟨d, .buildSlice t 1 #[(0, .const (.agg arr))], ty, pos, af, g⟩ env H K := by
  intro a w h next Q hn
  have hparts : Parts w (c.av H) [(0, S.row row)] [(0, .agg arr)] := by
    refine ⟨.agg arr, [], rfl, ⟨arr, rfl, ?_⟩, rfl⟩
    rw [hc, hrow]
    exact rdRow_zero cs (List.all_eq_true.1 h1)
  obtain ⟨cs', g1, g2⟩ := run_buildSlice (P := P) (t := t) (len := 1) hz rfl hparts hs rfl (by omega)
  have hg : Grow (hb []) w (w.alloc (.cells cs'.toArray (SL.e P t))) := ⟨rfl, rfl, rfl, by simp, fun k hk _ => Below.heap_alloc _ _ _ hk⟩
  have h' : StW c ([] ++ H) w := h.heap
  obtain ⟨s1, s2⟩ := StW.step (H1' := []) h' hg (by simp [hb]) (by simp [hb]) (by simp)
  have hav : ¬ c.av H w.heap.size := fun hx => by have := h.heap.avlt _ hx; omega
  have hr := rdRows_up (hg.up (A := c.av H) (by simp [hb])) (fun b hb => Or.inl hb) _ _ _ g2
  unfold Oper.wp
  have hrun : (execOp a.eval ⟨d, .buildSlice t 1 #[(0, .const (.agg arr))], ty, pos, af, g⟩).run P w = .ok (.value (.slice (some ⟨w.heap.size, 0, none⟩) 1 1)) (w.alloc (.cells cs'.toArray (SL.e P t))) := by
    simp only [execOp, List.map_toArray, List.map_cons, List.map_nil, Act.eval, Sem.run_bind, g1, Result.andThen_ok, Sem.run_pure]
  rw [hrun]
  refine hn _ H _ _ hK s1 ?_ s2
  exact rdRows_cells (e := SL.e P t) hr hpos (by show (w.heap.push _)[w.heap.size]? = _; simp) hav _ (Nat.le_refl _) (by unfold maxLen; omega)
/-- Append of one element, to lists that are not long. -/
theorem ow_apR {α : Type} {f : α → List C} {v : Value} {e : TypeId} {k : Nat} {l1 : List α} {Hr : List Ch} [SL P t] {z : Value} (j : Nat) (a : α) (hx : env.ev x = some (.cell (.val v))) (hp : pick [j] H = some ([.own v e k (l1.map f)], Hr)) (hy : env.ev y = some (.cell (.list [f a])))
    (he : SL.e P t = e) (hz : (TI.i P (SL.e P t)).zero = some z) (hzs : z.cells.size = k) (hsz : (TI.i P (SL.e P t)).size = k)
    (hrow : ∀ a, (f a).length = k) (hlen : l1.length ≤ 2000000) (hb : (TI.i P (SL.e P t)).bytes ≤ 1000)
    (hK : ∀ v', v'.oneCell' = true → K (.cell (.val v')) (.own v' e k ((l1 ++ [a]).map f) :: Hr)) :
    OpWp c ⟨d, .call { callee := .builtin .append, args := #[x, y], argTypes := #[t, t] }, ty, pos, af, g⟩ env H K :=
  ow_append1 j a hx hp hy he hz hzs hsz hrow (by have := Nat.mul_le_mul (show l1.length + 1 ≤ 2000001 by omega) hb; omega) (by omega) hK
/-- Append of one row. -/
theorem ow_apRow {v : Value} {e : TypeId} {k : Nat} {rows : List (List C)} {row : List C} {Hr : List Ch} [SL P t] {z : Value} (j : Nat) (hx : env.ev x = some (.cell (.val v))) (hp : pick [j] H = some ([.own v e k rows], Hr)) (hy : env.ev y = some (.cell (.list [row])))
    (he : SL.e P t = e) (hz : (TI.i P (SL.e P t)).zero = some z) (hzs : z.cells.size = k) (hsz : (TI.i P (SL.e P t)).size = k)
    (hrow : row.length = k) (hlen : rows.length ≤ 2000000) (hb : (TI.i P (SL.e P t)).bytes ≤ 1000)
    (hK : ∀ v', v'.oneCell' = true → K (.cell (.val v')) (.own v' e k (rows ++ [row]) :: Hr)) :
    OpWp c ⟨d, .call { callee := .builtin .append, args := #[x, y], argTypes := #[t, t] }, ty, pos, af, g⟩ env H K :=
  ow_append j hx hp hy he hz hzs hsz (by intro r hr; obtain rfl := List.mem_singleton.1 hr; exact hrow) (by have := Nat.mul_le_mul (show rows.length + 1 ≤ 2000001 by omega) hb; simp only [List.length_singleton]; omega) (by simp only [List.length_singleton]; omega) hK
/-- What is owned becomes what is only read: where cell i of a block holds it. -/
theorem st_freezeBi {a : Act} {w : World} {v : Value} {e t : TypeId} {b k j j2 : Nat} {rows : List (List C)} {row : List C} {Hr Hr2 : List Ch} (i : Nat) (h : St c env H a w) (hp : pick [j] H = some ([.own v e k rows], Hr)) (hp2 : pick [j2] Hr = some ([.blk b t row], Hr2)) (hi : row[i]? = some (.val v)) (hX : ∀ b ∈ c.X, b ∈ hb Hr) :
    St c env (.blk b t (row.set i (.list rows)) :: Hr2) a w := by
  have h' : StW c (.own v e k rows :: Hr) w := h.heap.perm (pick_perm hp)
  have hav : c.av (.own v e k rows :: Hr) = c.av H := av_perm c (pick_perm hp)
  obtain ⟨f1, f2, f3⟩ := stw_freeze h' hX
  have hs : St c env Hr a w := ⟨h.size, h.defers, fun t s hl => f3 _ _ (by rw [hav]; exact h.slots t s hl), f1⟩
  obtain ⟨cs, g1, g2⟩ := blk_ok hs hp2
  refine st_row hs hp2 ⟨cs, g1, ?_⟩
  obtain ⟨u, hu, hr⟩ := rdRow_get g2 hi
  have := rdRow_set (i := i) g2 (c := .list rows) (v := u) (by rw [hr.1]; exact f2)
  obtain ⟨hlt, rfl⟩ := List.getElem?_eq_some_iff.1 hu
  rwa [List.set_getElem_self] at this
theorem jq_freezeBi {Q : Exit → Act → World → Prop} {ex : Exit} (j j2 i : Nat) {v : Value} {e t : TypeId} {b k : Nat} {rows : List (List C)} {row : List C} {Hr Hr2 : List Ch} (hp : pick [j] H = some ([.own v e k rows], Hr)) (hp2 : pick [j2] Hr = some ([.blk b t row], Hr2)) (hi : row[i]? = some (.val v)) (hX : ∀ b ∈ c.X, b ∈ hb Hr)
    (h : JQ c Q ex env (.blk b t (row.set i (.list rows)) :: Hr2)) : JQ c Q ex env H := fun a w hs => h a w (st_freezeBi i hs hp hp2 hi hX)
end
end Go.Vc
end

section
namespace Go.Vc
open Go.RowKit

section
variable {P : Program} [Gl P] {nt : Nat} {c : Cx P nt} {env : Env} {H : List Ch} {K : S → List Ch → Prop}
variable {d : Option Tmp} {ty t t' : TypeId} {pos : String} {af : Array Edge} {g : Option (Nat × Bool)} {x y : Operand}
def EqSelf (P : Program) (n : Nat) (t : TypeId) (v : Value) : Prop := ∀ w, (Op.equalIn n t v v).run P w = .ok true w
omit [Gl P] in
theorem eqself_int [TI P t] {k : IntKind} (h : TI.u P t = .int k) (n : Nat) (a : Int) : EqSelf P (n + 1) t (.int k a) := fun w => by
  rw [run_equalIn_int w n t k k a a (by rw [TI.hu (P := P) (t := t), h])]
  simp
omit [Gl P] in
theorem eqself_str [TI P t] (h : TI.u P t = .string) (n : Nat) (a : ByteArray) : EqSelf P (n + 1) t (.string a) := fun w => by
  rw [run_equalIn_string w n t a a (by rw [TI.hu (P := P) (t := t), h])]
  simp
omit [Gl P] in
theorem part_leaf [TI P t] {cs : Array Value} {i : Nat} {v : Value} (ha : aggB (TI.u P t) = false) (hv : cs[i]? = some v) (w : World) : (part t cs i).run P w = .ok v w := by
  simp only [part, Sem.run_bind, run_isAgg, ha, Result.andThen_ok, Bool.false_eq_true, if_false, hv, Sem.run_pure]
omit [Gl P] in
theorem part_agg [TI P t] {cs : Array Value} {i : Nat} {vs : List Value} (ha : aggB (TI.u P t) = true) (hv : cs.extract i (i + (TI.i P t).size) = vs.toArray) (w : World) : (part t cs i).run P w = .ok (.agg vs.toArray) w := by
  simp only [part, Sem.run_bind, run_isAgg, ha, Result.andThen_ok, if_true, run_sizeOf, hv, Sem.run_pure]
/-- Each field is equal to itself. -/
def FsOk (P : Program) (n : Nat) (cs : Array Value) : List Field → Prop
  | [] => True
  | f :: fs => (∃ v, (∀ w, (part f.type cs f.offset).run P w = .ok v w) ∧ EqSelf P n f.type v) ∧ FsOk P n cs fs
omit [Gl P] in
theorem run_eqFields_self {n : Nat} {cs : Array Value} : ∀ (fs : List Field) (w : World), FsOk P n cs fs → (Op.eqFields n cs cs fs).run P w = .ok true w
  | [], w, _ => rfl
  | f :: fs, w, ⟨⟨v, h1, h2⟩, h3⟩ => by
    have ih := run_eqFields_self fs w h3
    rw [Op.eqFields]
    split
    · simp only [Sem.run_bind, h1, Result.andThen_ok, h2 w, Bool.not_true, Bool.false_eq_true, if_false, ih]
    · exact ih
omit [Gl P] in
theorem eqself_agg {n : Nat} {vs : List Value} {fs : List Field} (ht : P.underlying t = some (.struct (P.fieldsOf t))) (hp : P.stoodInHeld t = false) (hf : (P.fieldsOf t).toList = fs) (h : FsOk P n vs.toArray fs) : EqSelf P (n + 1) t (.agg vs.toArray) := fun w => by
  rw [run_equalIn_agg w n t _ _ ht hp, hf]
  exact run_eqFields_self fs w h
theorem ow_neqSelf {vs : List Value} (hm : P.eqGuardType P.depth t = false) (he : EqSelf P 10000 t (.agg vs.toArray)) (hx : env.ev x = some (.row (vs.map C.val))) (hy : env.ev y = some (.row (vs.map C.val))) (hK : K (Bl false) H) : OpWp c ⟨d, .binOp .neq t x y t', ty, pos, af, g⟩ env H K :=
  ow_valx rfl (fun ac w h => by
    have two : ∀ {z : Operand}, env.ev z = some (.row (vs.map C.val)) → ac.eval z = .agg vs.toArray := by
      intro z hz
      obtain ⟨cs, he, hr⟩ := ev_ok h hz
      have e1 : cs.toList = vs := rdRow_vals hr
      have e2 : cs = vs.toArray := by apply Array.ext'; simpa using e1
      rw [he, e2]
    simp only [execOp, two hx, two hy, Sem.run_bind, run_eqGuard_agg w _ _ _ _ _ _ hm, Result.andThen_ok, run_neq_struct, he w, Sem.run_pure]
    rfl) hK
end
end Go.Vc
end

section
namespace Go.Vc
open Go.RowKit

/-- A deferred call: what its frame's caller was doing (u), what it does then (u'). -/
def ConD (P : Program) [Gl P] (f : FuncId) (args : List S) (Hin : List Ch) (u u' : FrameMode) (Hout : List Ch) : Prop :=
  ∀ (vs : List Value) (w : World) (A : Nat → Prop), (∀ b, A b → b < w.heap.size) → (∀ b ∈ hb Hin, A b) → (hb Hin).Nodup → SOks w A args vs → (∀ ch ∈ Hin, ch.ok w A) → Gl.ok P w A →
    CallsD P f vs.toArray u w (fun e uu w' => (∃ v, e = .returned v) ∧ uu = u' ∧ (∀ ch ∈ Hout, ch.ok w' (fun b => A b ∨ b ∈ hb Hout)) ∧ (hb Hout).Nodup ∧ (∀ b ∈ hb Hout, b ∈ hb Hin ∨ w.heap.size ≤ b) ∧ Grow (hb Hin) w w')
section
variable {P : Program} [Gl P] {nt : Nat} {c : Cx P nt} {env : Env} {H : List Ch} {K : S → List Ch → Prop}
variable {d : Option Tmp} {ty t t' : TypeId} {pos : String} {af : Array Edge} {g : Option (Nat × Bool)} {x y : Operand}
def RD (c : Cx P nt) (u' : FrameMode) (Hout : List Ch) (e : Ending) (uu : FrameMode) (w' : World) : Prop :=
  (∃ v, e = .returned v) ∧ uu = u' ∧ (∀ ch ∈ Hout, ch.ok w' (fun b => c.A b ∨ b ∈ hb Hout)) ∧ (hb Hout).Nodup ∧ (∀ b ∈ hb Hout, b ∈ c.X ∨ c.B.heap.size ≤ b) ∧ Grow c.X c.B w'
theorem cond_intro {f : FuncId} {fn : Func} {code : Code} {args : List S} {Hin Hout : List Ch} {u u' : FrameMode} (hf : P.funcs[f]? = some fn) (hbd : fn.body = some code) (hnt : fn.ntmps = nt) (hle : args.length ≤ nt)
    (h : ∀ c : Cx P nt, c.X = hb Hin → ∀ (c₀ : Frame) (cs : List Frame), c₀.mode = u → ∀ a w, St c (enum 0 args) Hin a w → code.wpS P (bodyPostS P fn c₀ cs (RD c u' Hout)) a (c₀ :: cs) w) : ConD P f args Hin u u' Hout := by
  intro vs w A hA hHA hnd hvs hok hgl
  have hlen := soks_length hvs
  let c : Cx P nt := ⟨w, A, hb Hin, hA⟩
  have hav : ∀ b, c.av Hin b → A b := fun b hb => hb.elim id (hHA b)
  refine callsD_of_wpS hf hbd fun c₀ cs hu => ?_
  refine h c rfl c₀ cs hu _ _ ⟨?_, rfl, ?_, ⟨rfl, rfl, rfl, Nat.le_refl _, fun _ _ _ => rfl, fun ch hch => Ch.up (Up.refl _ _) (fun b hb => .inl (hav b hb)) (fun _ _ => rfl) (hok ch hch), hnd, fun b hb => .inl hb, Gl.up (Up.refl _ _) (fun b hb => .inl (hav b hb)) hgl⟩⟩
  · simp only [Array.size_append, Array.size_replicate, List.size_toArray, hnt]
    omega
  · intro i s hi
    obtain ⟨v, _, h2, h3⟩ := enum_lookup hvs hi
    have hlt : i < vs.length := (List.getElem?_eq_some_iff.1 (by simpa using h2)).1
    rw [Array.getD_eq_getD_getElem?, Array.getElem?_append_left (by simpa using hlt)]
    simp only [List.getElem?_toArray]
    simp only [Nat.sub_zero] at h2
    rw [h2]
    exact sok_up (Up.refl _ _) (fun b hb => .inl (hav b hb)) s v h3
/-- How such a call ends. -/
theorem jq_retD {fn : Func} {c₀ : Frame} {cs cs' : List Frame} {u' : FrameMode} {Hout : List Ch} (hres : fn.results = #[]) (hc' : cs' = { c₀ with mode := u' } :: cs) (hp : Sub H Hout) :
    JQ c (fun e a w => bodyPostS P fn c₀ cs (RD c u' Hout) e a cs' w) .normal env H := by
  obtain ⟨is, Hr, hp⟩ := hp
  intro a w h
  have hperm := pick_perm hp
  have h' : StW c (Hr ++ Hout) w := (h.heap.perm hperm).perm List.perm_append_comm
  obtain ⟨d1, d2⟩ := h'.drop
  refine ⟨h.defers, u', hc', .tuple #[], ?_, ⟨_, rfl⟩, rfl, d1.ok, d1.nodup, d1.mine, stw_grow d1⟩
  rw [results_eq, hres]
  simp
/-- What recover finds. -/
theorem wps_recover {Q : Exit → Act → List Frame → World → Prop} {a : Act} {w : World} {cs cs' : List Frame} {id d1 d2 : Nat} {ty1 ty2 : TypeId} {p1 p2 : String} {af1 af2 : Array Edge} {v : Value} {rest : Code} (h : St c env H a w) (hd1 : d1 < nt) (hd2 : d2 < nt) (hv : v.oneCell' = true)
    (hrec : recoverD cs = some (v, cs') ∨ recoverD cs = none ∧ v = .nilIface ∧ cs' = cs)
    (hr : JC c rest (fun e a w => Q e a cs' w) ((d2, .cell (.val v)) :: (d1, .cell (.val v)) :: env) H) :
    (Code.seq (.region id #[⟨some d1, .call { callee := .builtin .recover, args := #[], argTypes := #[] }, ty1, p1, af1, none⟩, ⟨some d2, .assign (.tmp d1), ty2, p2, af2, none⟩] false) rest).wpS P Q a cs w := by
  have hs1 : St c ((d1, .cell (.val v)) :: env) H (a.put (some d1) v) w := h.next hd1 h.heap ⟨rfl, hv⟩ (fun _ _ h => h)
  have hs2 : St c ((d2, .cell (.val v)) :: (d1, .cell (.val v)) :: env) H ((a.put (some d1) v).put (some d2) v) w := hs1.next hd2 hs1.heap ⟨rfl, hv⟩ (fun _ _ h => h)
  have hev : (a.put (some d1) v).eval (.tmp d1) = v := ev_val hs1 (by simp [Env.ev])
  refine wpS_seq (wpS_region ?_)
  have hex1 : (execOp a.eval ⟨some d1, .call { callee := .builtin .recover, args := #[], argTypes := #[] }, ty1, p1, af1, none⟩).run P w = .ok .recover w := by
    simp [execOp, resolve, invoke, builtin]
  have hex2 : (execOp (a.put (some d1) v).eval ⟨some d2, .assign (.tmp d1), ty2, p2, af2, none⟩).run P w = .ok (.value v) w := by
    simp [execOp, hev]
  have fin : Code.wpS P rest Q ((a.put (some d1) v).put (some d2) v) cs' w := wpS_of_wp (hr _ _ hs2)
  rcases hrec with hrec | ⟨hrec, rfl, rfl⟩
  · simp only [List.size_toArray, List.length_cons, List.length_nil, show List.range 2 = [0, 1] from rfl, wpOpsS, List.getElem?_toArray, List.getElem?_cons_zero, List.getElem?_cons_succ, Region.wanted, if_true, hex1, hrec, hex2, Oper.upon, Exit.thenS]
    exact fin
  · simp only [List.size_toArray, List.length_cons, List.length_nil, show List.range 2 = [0, 1] from rfl, wpOpsS, List.getElem?_toArray, List.getElem?_cons_zero, List.getElem?_cons_succ, Region.wanted, if_true, hex1, hrec, hex2, Oper.upon, Exit.thenS]
    exact fin
/-- What recover gave, looked at. -/
def ifaceB : TypeDesc → Bool
  | .interface _ => true
  | _ => false
omit [Gl P] in
theorem u_of_iface {u : TypeDesc} (h : ifaceB u = true) : ∃ m, u = .interface m := by cases u <;> simp_all [ifaceB]
theorem ow_neqNilIface [TI P t] (hu : ifaceB (TI.u P t) = true) (h : env.ev x = some (.cell (.val .nilIface))) (hK : K (Bl false) H) : OpWp c ⟨d, .binOp .neq t x (.const .nilIface) t', ty, pos, af, g⟩ env H K :=
  ow_valx rfl (fun a w hs => by
    have e1 : a.eval x = .nilIface := ev_val hs h
    have e2 : a.eval (.const .nilIface) = .nilIface := rfl
    obtain ⟨m, hm⟩ := u_of_iface hu
    have hu' : (underlying t).run P w = .ok (.interface m) w := by rw [run_underlying (TI.hu (P := P) (t := t)), hm]
    have h1 : ∀ n, (Op.equalIn (n + 1) t .nilIface .nilIface).run P w = .ok true w := fun n => by simp [Op.equalIn, hu']
    have h2 : (Op.equalIn Op.maxDepth t .nilIface .nilIface).run P w = .ok true w := h1 9999
    simp [execOp, e1, e2, eqGuard, binOp, Op.equal, h2]) hK
theorem ow_neqIface [TI P t] (hu : ifaceB (TI.u P t) = true) {u : TypeId} {v : Value} (h : env.ev x = some (.cell (.val (.iface u v)))) (hK : K (Bl true) H) : OpWp c ⟨d, .binOp .neq t x (.const .nilIface) t', ty, pos, af, g⟩ env H K :=
  ow_valx rfl (fun a w hs => by
    have e1 : a.eval x = .iface u v := ev_val hs h
    have e2 : a.eval (.const .nilIface) = .nilIface := rfl
    obtain ⟨m, hm⟩ := u_of_iface hu
    have hu' : (underlying t).run P w = .ok (.interface m) w := by rw [run_underlying (TI.hu (P := P) (t := t)), hm]
    have h1 : ∀ n, (Op.equalIn (n + 1) t (.iface u v) .nilIface).run P w = .ok false w := fun n => by simp [Op.equalIn, hu']
    have h2 : (Op.equalIn Op.maxDepth t (.iface u v) .nilIface).run P w = .ok false w := h1 9999
    simp [execOp, e1, e2, eqGuard, binOp, Op.equal, h2]) hK
theorem ow_typeAssert {u : TypeId} [TI P u] {vs : List Value} (hu : structB (TI.u P u) = true) (h : env.ev x = some (.cell (.val (.iface u (.agg vs.toArray))))) (h1 : vs.all Value.oneCell' = true) (hK : K (.row (vs.map C.val)) H) : OpWp c ⟨d, .typeAssert x t u false, ty, pos, af, g⟩ env H K :=
  ow_val (fun a w hs => by
    have hu' : (underlying u).run P w = .ok (.struct (fieldsB (TI.u P u))) w := by rw [run_underlying (TI.hu (P := P) (t := u))]; exact congrArg (fun u => Result.ok u w) (u_of_struct hu)
    refine ⟨.agg vs.toArray, ?_, vs.toArray, rfl, ?_⟩
    · simp [execOp, ev_val hs h, Instr.typeAssert, hu']
    · simpa using rdRow_zero vs (List.all_eq_true.1 h1)) hK

def bare (a : Act) : Act := { a with defers := [] }
def JLD (c : Cx P nt) (ds : List Deferred) (ops : Array Oper) (Q : Exit → Act → World → Prop) (l : List Oper) (env : Env) (H : List Ch) : Prop := ∀ a w, St c env H (bare a) w → a.defers = ds → wpList P ops Q l a w
def JCD (c : Cx P nt) (ds : List Deferred) (code : Code) (Q : Exit → Act → World → Prop) (env : Env) (H : List Ch) : Prop := ∀ a w, St c env H (bare a) w → a.defers = ds → code.wp P Q a w
def JQD (c : Cx P nt) (ds : List Deferred) (Q : Exit → Act → World → Prop) (e : Exit) (env : Env) (H : List Ch) : Prop := ∀ a w, St c env H (bare a) w → a.defers = ds → Q e a w
variable {ds : List Deferred} {ops : Array Oper} {Q : Exit → Act → World → Prop} {l : List Oper}
theorem jl_defer {fv : Fn} {cap : Array Value} (hx : env.ev x = some (.cell (.val (.func fv #[] cap)))) (h : JLD c [⟨.fn fv cap, #[]⟩] ops Q l env H) : JL c ops Q (⟨none, .defer { callee := .value x, args := #[], argTypes := #[] }, ty, pos, af, none⟩ :: l) env H := by
  intro a w hs
  refine wpList_plain rfl fun K hK => ?_
  have hrun : (execOp a.eval ⟨none, .defer { callee := .value x, args := #[], argTypes := #[] }, ty, pos, af, none⟩).run P w = .ok (.defer ⟨.fn fv cap, #[]⟩) w := by
    simp [execOp, resolve, Deferred.ofValue, ev_val hs hx]
  unfold Oper.wp
  rw [hrun, Oper.upon_defer]
  refine hK _ _ (h _ _ ?_ ?_)
  · exact ⟨hs.size, rfl, hs.slots, hs.heap⟩
  · show _ :: a.defers = _
    rw [hs.defers]
theorem jld_nil (h : JQD c ds Q .normal env H) : JLD c ds ops Q [] env H := fun a w hs hd => h a w hs hd
theorem put_bare (a : Act) (dst : Option Tmp) (v : Value) : { (bare a).put dst v with defers := a.defers } = a.put dst v := by cases dst <;> rfl
omit [Gl P] in
/-- What an operation that defers nothing does. -/
theorem wp_bare {o : Oper} {a : Act} {w : World} {next : Act → World → Prop} (hnd : ∀ dd w', (execOp a.eval o).run P w ≠ .ok (.defer dd) w')
    (h : o.wp P (bare a) w (fun a' w' => next { a' with defers := a.defers } w') (fun e a' w' => Q e { a' with defers := a.defers } w')) : o.wp P a w next Q := by
  unfold Oper.wp at h ⊢
  rw [show (bare a).eval = a.eval from rfl] at h
  revert h hnd
  generalize (execOp a.eval o).run P w = r
  intro hnd h
  have hb0 : ({ bare a with defers := a.defers } : Act) = a := rfl
  unfold Oper.upon at h ⊢
  split at h
  · rw [put_bare] at h; exact h
  · rw [put_bare] at h; exact h
  · exact absurd rfl (hnd _ _)
  · refine h.mono ?_
    intro e w' he
    cases e with
    | returned v => dsimp only at he ⊢; rw [put_bare] at he; exact he
    | panicked ch => exact he
    | outgrown => obtain ⟨a1, w1, h1⟩ := he; exact ⟨_, w1, h1⟩
  · refine h.mono ?_
    intro v w' he
    dsimp only at he; rw [put_bare] at he; exact he
  · exact h
  · exact h.elim
theorem jld_op {d : Nat} {op : Op} (h : OpWp c ⟨some d, op, ty, pos, af, none⟩ env H (fun s H' => JLD c ds ops Q l ((d, s) :: env) H')) (hd : d < nt)
    (hnd : ∀ a w, St c env H (bare a) w → ∀ dd w', (execOp a.eval ⟨some d, op, ty, pos, af, none⟩).run P w ≠ .ok (.defer dd) w') : JLD c ds ops Q (⟨some d, op, ty, pos, af, none⟩ :: l) env H := by
  intro a w hs hds
  refine wpList_plain rfl fun K hK => ?_
  refine wp_bare (hnd a w hs) (h _ w hs _ _ ?_)
  intro s H' v w' hJ hw' hv hk
  exact hK _ _ (hJ _ _ (hs.next hd hw' hv hk) hds)
theorem jld_op0 {op : Op} (h : OpWp c ⟨none, op, ty, pos, af, none⟩ env H (fun _ H' => JLD c ds ops Q l env H'))
    (hnd : ∀ a w, St c env H (bare a) w → ∀ dd w', (execOp a.eval ⟨none, op, ty, pos, af, none⟩).run P w ≠ .ok (.defer dd) w') : JLD c ds ops Q (⟨none, op, ty, pos, af, none⟩ :: l) env H := by
  intro a w hs hds
  refine wpList_plain rfl fun K hK => ?_
  refine wp_bare (hnd a w hs) (h _ w hs _ _ ?_)
  intro s H' v w' hJ hw' _ hk
  exact hK _ _ (hJ _ _ (hs.next0 (v := v) hw' hk) hds)
theorem jq_thenD {y : Code} (h : JCD c ds y Q env H) : JQD c ds (Exit.then (fun a w => y.wp P Q a w) Q) .normal env H := fun a w hs hd => h a w hs hd
theorem jcd_region {id : Nat} {l : List Oper} (h : JLD c ds l.toArray Q l env H) : JCD c ds (.region id l.toArray false) Q env H := fun a w hs hd => wp_region_lit (h a w hs hd)
theorem jcd_seq {x y : Code} (h : JCD c ds x (Exit.then (fun a w => y.wp P Q a w) Q) env H) : JCD c ds (.seq x y) Q env H := fun a w hs hd => wp_seq (h a w hs hd)
theorem jcd_ret (h : JQD c ds Q .ret env H) : JCD c ds .ret Q env H := fun a w hs hd => wp_ret (h a w hs hd)
/-- The frame leaves: its deferred call is made first. -/
theorem leaves_of {fn : Func} {f : FuncId} [FI P f] {cap : Array Value} {u u' : FrameMode} {w : World} {a : Act} {ss : List S} {Hd Hd' Hr : List Ch} {is : List Nat} {post : (S → List Ch → Prop) → Prop} (hs : St c env H (bare a) w) (hu : u ≠ .run) (hu' : settle u' = .returning) (hp : pick is H = some (Hd, Hr))
    (hargs : ∀ w, StW c H w → SOks w (c.av H) ss cap.toList) (con : ConD P f ss Hd u u' Hd') (h : JQ c (bodyPost P fn (RR c post)) .ret env (Hd' ++ Hr)) : Leaves P fn a.tmps (RR c post) [⟨.fn (.func f) cap, #[]⟩] u w := by
  have hperm := pick_perm hp
  have h' : StW c (Hd ++ Hr) w := hs.heap.perm hperm
  have hav : c.av (Hd ++ Hr) = c.av H := av_perm c hperm
  have hnd := h'.nodup
  rw [hb_app, List.nodup_append] at hnd
  refine leaves_cons (f := f) (args := cap.toList.toArray) hu (by simp [invoke, FI.hrun]) ?_
  refine (con cap.toList w (c.av H) (fun b hb => hs.heap.avlt b hb) (fun b hb => by rw [← hav]; exact .inr (by rw [hb_app]; exact List.mem_append.2 (.inl hb))) hnd.1 (hargs w hs.heap)
    (fun ch hch => by rw [← hav]; exact h'.ok ch (List.mem_append.2 (.inl hch))) hs.heap.gl).mono ?_
  rintro e uu w' ⟨⟨v, rfl⟩, rfl, hok, hnd', hnew, hg⟩
  have hA : ∀ b, c.av (Hd' ++ Hr) b → c.av H b ∨ b ∈ hb Hd' := by
    intro b hb
    rw [← hav]
    rcases hb with hb | hb
    · exact .inl (.inl hb)
    · rw [hb_app] at hb
      rcases List.mem_append.1 hb with hb | hb
      · exact .inr hb
      · exact .inl (.inr (by rw [hb_app]; exact List.mem_append.2 (.inr hb)))
  obtain ⟨s1, s2⟩ := StW.step h' hg hnew hnd' (fun ch hch => Ch.up (Up.refl _ _) (fun b hb => .inl (hA b hb)) (fun _ _ => rfl) (hok ch hch))
  have hs' : St c env (Hd' ++ Hr) (bare a) w' := ⟨hs.size, rfl, fun i s hi => s2 s _ (by rw [hav]; exact hs.slots i s hi), s1⟩
  obtain ⟨_, v, hv, hR⟩ := h _ _ hs'
  show Leaves P fn a.tmps (RR c post) [] (settle uu) w'
  rw [hu']
  exact ⟨v, hv, hR⟩
theorem jqd_ret {fn : Func} {f : FuncId} [FI P f] {cap : Array Value} {ss : List S} {Hd Hd' Hr : List Ch} {post : (S → List Ch → Prop) → Prop} (is : List Nat) (hp : pick is H = some (Hd, Hr))
    (hargs : ∀ w, StW c H w → SOks w (c.av H) ss cap.toList) (con : ConD P f ss Hd .returning .returning Hd') (h : JQ c (bodyPost P fn (RR c post)) .ret env (Hd' ++ Hr)) : JQD c [⟨.fn (.func f) cap, #[]⟩] (bodyPostD P fn (RR c post)) .ret env H := by
  intro a w hs hd
  show Leaves P fn a.tmps (RR c post) a.defers .returning w
  rw [hd]
  exact leaves_of hs (by intro h; cases h) rfl hp hargs con h
/-- A call through a function value that panics, in such a frame. -/
theorem jld_pan {fn : Func} {d : Nat} {f f' : FuncId} [FI P f] [FI P f'] {z : Operand} {cap cap' : Array Value} {ss cs : List S} {Hin Hr Hd Hd' Hr' : List Ch} {v : Value} {u' : FrameMode} {is is' : List Nat} {post : (S → List Ch → Prop) → Prop}
    (hz : env.ev z = some (.cell (.val (.func (.func f') #[] cap')))) (hcap : ∀ w, StW c H w → SOks w (c.av H) cs cap'.toList) (hp : pick is H = some (Hin, Hr)) (con : Pan P f' cs Hin v)
    (hp' : pick is' Hr = some (Hd, Hr')) (hu' : settle u' = .returning) (hargs : ∀ w, StW c Hr w → SOks w (c.av Hr) ss cap.toList) (conD : ConD P f ss Hd (.panicking [{ v := v, recovered := false }]) u' Hd')
    (hq : ∀ a w, Q (.panic [{ v := v, recovered := false }]) a w = bodyPostD P fn (RR c post) (.panic [{ v := v, recovered := false }]) a w)
    (h : JQ c (bodyPost P fn (RR c post)) .ret env (Hd' ++ Hr')) : JLD c [⟨.fn (.func f) cap, #[]⟩] ops Q (⟨some d, .call { callee := .value z, args := #[], argTypes := #[] }, ty, pos, af, none⟩ :: l) env H := by
  intro a w hs hds
  refine wpList_plain rfl fun K _ => ?_
  have hperm := pick_perm hp
  have h' : StW c (Hin ++ Hr) w := hs.heap.perm hperm
  have hav : c.av (Hin ++ Hr) = c.av H := av_perm c hperm
  have hnd := h'.nodup
  rw [hb_app, List.nodup_append] at hnd
  have hrun : (execOp a.eval ⟨some d, .call { callee := .value z, args := #[], argTypes := #[] }, ty, pos, af, none⟩).run P w = .ok (.enter f' cap'.toList.toArray) w := by
    have e1 : a.eval z = .func (.func f') #[] cap' := ev_val (a := bare a) hs hz
    simp [execOp, resolve, invoke, e1, Deferred.ofValue, FI.hrun]
  unfold Oper.wp
  rw [hrun, Oper.upon_enter]
  refine (con cap'.toList w (c.av H) (fun b hb => hs.heap.avlt b hb) (fun b hb => by rw [← hav]; exact .inr (by rw [hb_app]; exact List.mem_append.2 (.inl hb))) hnd.1 (hcap w hs.heap)
    (fun ch hch => by rw [← hav]; exact h'.ok ch (List.mem_append.2 (.inl hch))) hs.heap.gl).mono ?_
  rintro e w' ⟨rfl, hg⟩
  obtain ⟨s1, s2⟩ := StW.step (H1' := []) h' hg (by simp [hb]) (by simp [hb]) (by simp)
  show Q (.panic [{ v := v, recovered := false }]) a w'
  rw [hq]
  show Leaves P fn a.tmps (RR c post) a.defers (.panicking [{ v := v, recovered := false }]) w'
  rw [hds]
  exact leaves_of (H := Hr) ⟨hs.size, rfl, fun i s hi => s2 s _ (by rw [hav]; exact hs.slots i s hi), s1⟩ (by intro h; cases h) hu' hp' hargs conD h
/-- A function whose frame may have deferred calls. -/
theorem con_introD {f : FuncId} {fn : Func} {code : Code} {args : List S} {Hin : List Ch} {post : (S → List Ch → Prop) → Prop} (hf : P.funcs[f]? = some fn) (hbd : fn.body = some code) (hnt : fn.ntmps = nt) (hle : args.length ≤ nt)
    (h : ∀ c : Cx P nt, c.X = hb Hin → JC c code (bodyPostD P fn (RR c post)) (enum 0 args) Hin) : Con P f args Hin post := by
  intro vs w A hA hHA hnd hvs hok hgl
  have hlen := soks_length hvs
  let c : Cx P nt := ⟨w, A, hb Hin, hA⟩
  have hav : ∀ b, c.av Hin b → A b := fun b hb => hb.elim id (hHA b)
  refine calls_of_wp_defers hf hbd ?_
  refine h c rfl _ _ ⟨?_, rfl, ?_, ⟨rfl, rfl, rfl, Nat.le_refl _, fun _ _ _ => rfl, fun ch hch => Ch.up (Up.refl _ _) (fun b hb => .inl (hav b hb)) (fun _ _ => rfl) (hok ch hch), hnd, fun b hb => .inl hb, Gl.up (Up.refl _ _) (fun b hb => .inl (hav b hb)) hgl⟩⟩
  · simp only [Array.size_append, Array.size_replicate, List.size_toArray, hnt]
    omega
  · intro i s hi
    obtain ⟨v, _, h2, h3⟩ := enum_lookup hvs hi
    have hlt : i < vs.length := (List.getElem?_eq_some_iff.1 (by simpa using h2)).1
    rw [Array.getD_eq_getD_getElem?, Array.getElem?_append_left (by simpa using hlt)]
    simp only [List.getElem?_toArray]
    simp only [Nat.sub_zero] at h2
    rw [h2]
    exact sok_up (Up.refl _ _) (fun b hb => .inl (hav b hb)) s v h3
omit [Gl P] in
/-- No operation but one defers. -/
theorem nd_move {a : Act} {w : World} {dd : Deferred} {w' : World} : (execOp a.eval ⟨d, .move x, ty, pos, af, g⟩).run P w ≠ .ok (.defer dd) w' := by simp [execOp]
omit [Gl P] in
theorem nd_val {s : Sem Value} {w : World} {dd : Deferred} {w' : World} : ((do pure (.value (← s)) : Sem Next)).run P w ≠ .ok (.defer dd) w' := by
  simp only [Sem.run_bind]
  cases s.run P w <;> simp
omit [Gl P] in
theorem nd_unit {s : Sem Unit} {w : World} {dd : Deferred} {w' : World} : ((do s; pure .skip : Sem Next)).run P w ≠ .ok (.defer dd) w' := by
  simp only [Sem.run_bind]
  cases s.run P w <;> simp
omit [Gl P] in
theorem nd_build {a : Act} {w : World} {ps : Array (Nat × Operand)} {dd : Deferred} {w' : World} : (execOp a.eval ⟨d, .build t ps, ty, pos, af, g⟩).run P w ≠ .ok (.defer dd) w' := nd_val
omit [Gl P] in
theorem nd_store {a : Act} {w : World} {dd : Deferred} {w' : World} : (execOp a.eval ⟨d, .store t x y, ty, pos, af, g⟩).run P w ≠ .ok (.defer dd) w' := nd_unit
theorem nd_callv {f' : FuncId} [FI P f'] {z : Operand} {cap' : Array Value} (hz : env.ev z = some (.cell (.val (.func (.func f') #[] cap')))) (a : Act) (w : World) (hs : St c env H (bare a) w) (dd : Deferred) (w' : World) : (execOp a.eval ⟨d, .call { callee := .value z, args := #[], argTypes := #[] }, ty, pos, af, g⟩).run P w ≠ .ok (.defer dd) w' := by
  have e1 : a.eval z = .func (.func f') #[] cap' := ev_val (a := bare a) hs hz
  simp [execOp, resolve, invoke, e1, Deferred.ofValue, FI.hrun]
/-- A struct and a cell, out of blocks. -/
theorem jq_retRowC {fn : Func} {post : (S → List Ch → Prop) → Prop} {a a2 : Tmp} {b b2 : Nat} {bt bt2 : TypeId} {t2 : TypeId} [TI P t] [TI P t2] {row : List C} {c1 : C} {Hx Hx2 Hout : List Ch} (hres : fn.results = #[.cell a t, .cell a2 t2]) (ha : aggB (TI.u P t) = true) (ha2 : aggB (TI.u P t2) = false) (hz : (TI.i P t).size = row.length) (hl : env.lookup a = some (.cell (.val (.pointer (some ⟨b, 0, none⟩))))) (hl2 : env.lookup a2 = some (.cell (.val (.pointer (some ⟨b2, 0, none⟩)))))
    (j j2 : Nat) (hj : pick [j] H = some ([.blk b bt row], Hx)) (hj2 : pick [j2] H = some ([.blk b2 bt2 [c1]], Hx2)) (hpost : ∀ K, post K → K (.tup [.row row, .cell c1]) Hout) (hp : Sub H Hout) : JQ c (bodyPost P fn (RR c post)) .ret env H :=
  let ⟨_, _, hp⟩ := hp
  jq_retG (ss := [.row row, .cell c1]) (.inl rfl) (by rw [hres]; exact ⟨.row row, _, b, j, bt, row, Hx, rfl, hl, hj, res_row ha hz, .cell c1, _, b2, j2, bt2, [c1], Hx2, rfl, hl2, hj2, res_cell ha2, rfl⟩) hp hpost
end
end Go.Vc
end

section
namespace Go.Vc
open Go.RowKit

section
variable {P : Program} [Gl P] {nt : Nat} {c : Cx P nt} {env : Env} {H Hr : List Ch} {ops : Array Oper} {Q : Exit → Act → World → Prop} {Sw : World → Prop}
variable {m fuel : Nat} {listed : Array Bool} {i j di dj : Nat} {opi opj : Op} {ti tj : TypeId} {pi pj : String} {afi afj : Array Edge} {s0 : S}
theorem ow_weaken {env' : Env} {o : Oper} {K : S → List Ch → Prop} (h : OpWp c o env H K) (hl : ∀ t s, env.lookup t = some s → env'.lookup t = some s) : OpWp c o env' H K :=
  fun a w hs next Q hn => h a w ⟨hs.size, hs.defers, fun t s ht => hs.slots t s (hl t s ht), hs.heap⟩ next Q hn
theorem ow_mono {o : Oper} {K K' : S → List Ch → Prop} (h : OpWp c o env H K) (hK : ∀ s H', K s H' → K' s H') : OpWp c o env H K' :=
  fun a w hs next Q hn => h a w hs next Q (fun s H' v w' hk => hn s H' v w' (hK s H' hk))
/-- The one yields a value and turns nothing that is owned. -/
theorem hp_two (hi : ops[i]? = some ⟨some di, opi, ti, pi, afi, none⟩) (hj : ops[j]? = some ⟨some dj, opj, tj, pj, afj, none⟩) (hr : (Region.ready .any ops listed == [i, j] || Region.ready .any ops listed == [j, i]) = true)
    (hri : Region.ready .any ops (listed.setIfInBounds i true) = [j]) (hrj : Region.ready .any ops (listed.setIfInBounds j true) = [i]) (hdi : di < nt) (hdj : dj < nt) (hne : (di == dj) = false) (hno : env.lookup di = none) (hkeep : ∀ w, StW c H w → Sw w)
    (h0 : OpWp c ⟨some di, opi, ti, pi, afi, none⟩ env H (fun s H' => s = s0 ∧ H' = H)) (h1 : ∀ s H', OpWp c ⟨some di, opi, ti, pi, afi, none⟩ ((dj, s) :: env) H' (fun s H'' => s = s0 ∧ H'' = H'))
    (h : OpWp c ⟨some dj, opj, tj, pj, afj, none⟩ env H (fun s H' => (∀ w, StW c H' w → Sw w) ∧ HP c ops Q Sw m fuel ((listed.setIfInBounds i true).setIfInBounds j true) ((dj, s) :: (di, s0) :: env) H')) : HP c ops Q Sw m (fuel + 2) listed env H := by
  have hne' : di ≠ dj := by simpa using hne
  intro a w hst hS
  have hstep : ∀ k ∈ [i, j], wpOp P ops Q k (fun a' w' => (k < m → Sw w') ∧ anyX P .any ops Q Sw m (fuel + 1) (listed.setIfInBounds k true) a' w') a w := by
    intro k hk
    rcases List.mem_cons.1 hk with rfl | hk
    · unfold wpOp
      rw [hi]
      dsimp only
      rw [if_pos (show Region.wanted _ _ = true from rfl)]
      refine .inl (h0 a w hst _ _ ?_)
      rintro s H' v w' ⟨rfl, rfl⟩ hw' hv hk
      have hst' := hst.next hdi hw' hv hk
      refine ⟨fun _ => hkeep _ hw', ?_⟩
      refine hp_op (c := c) (env := (di, s) :: env) (H := H') hj hri hdj (ow_weaken h ?_) _ _ hst' (hkeep _ hw')
      intro t s' ht
      rw [List.lookup_cons]
      by_cases htd : t = di
      · subst htd; rw [hno] at ht; cases ht
      · rw [show (t == di) = false by simpa using htd]; exact ht
    · obtain rfl := List.mem_singleton.1 hk
      unfold wpOp
      rw [hj]
      dsimp only
      rw [if_pos (show Region.wanted _ _ = true from rfl)]
      refine .inl (h a w hst _ _ ?_)
      rintro s H' v w' ⟨hk1, hk2⟩ hw' hv hk
      have hst' := hst.next hdj hw' hv hk
      refine ⟨fun _ => hk1 _ hw', ?_⟩
      refine hp_op (c := c) (env := (dj, s) :: env) (H := H') hi hrj hdi (ow_mono (h1 s H') ?_) _ _ hst' (hk1 _ hw')
      rintro s1 H1 ⟨rfl, rfl⟩
      refine ⟨hk1, ?_⟩
      rw [Array.setIfInBounds_comm _ _ (by intro hij; subst hij; rw [hi] at hj; simp only [Option.some.injEq, Oper.mk.injEq] at hj; exact hne' hj.1)]
      intro a2 w2 hst2 hS2
      refine hk2 a2 w2 ⟨hst2.size, hst2.defers, ?_, hst2.heap⟩ hS2
      intro t s' ht
      refine hst2.slots t s' ?_
      rw [List.lookup_cons, List.lookup_cons] at ht ⊢
      by_cases ht1 : t = dj
      · subst ht1
        rw [show (t == t) = true by simp] at ht ⊢
        rw [show (t == di) = false by simpa using (Ne.symm hne')]
        exact ht
      · rw [show (t == dj) = false by simpa using ht1] at ht ⊢
        exact ht
  have hmem : ∀ k ∈ Region.ready .any ops listed, k ∈ [i, j] := by
    intro k hk
    rw [Bool.or_eq_true] at hr
    rcases hr with hr | hr
    · rw [eq_of_beq hr] at hk; exact hk
    · rw [eq_of_beq hr] at hk; simp only [List.mem_cons, List.not_mem_nil, or_false] at hk ⊢; exact hk.symm
  have hne0 : Region.ready .any ops listed ≠ [] := by
    intro h0
    rw [h0] at hr
    simp at hr
  exact ⟨fun h0 => absurd h0 hne0, fun k hk => hstep k (hmem k hk)⟩
/-- The one yields a value and turns nothing that is owned, the other stores. -/
theorem hp_two0 (hi : ops[i]? = some ⟨some di, opi, ti, pi, afi, none⟩) (hj : ops[j]? = some ⟨none, opj, tj, pj, afj, none⟩) (hr : (Region.ready .any ops listed == [i, j] || Region.ready .any ops listed == [j, i]) = true)
    (hri : Region.ready .any ops (listed.setIfInBounds i true) = [j]) (hrj : Region.ready .any ops (listed.setIfInBounds j true) = [i]) (hdi : di < nt) (hno : env.lookup di = none) (hkeep : ∀ w, StW c H w → Sw w)
    (h0 : OpWp c ⟨some di, opi, ti, pi, afi, none⟩ env H (fun s H' => s = s0 ∧ H' = H)) (h1 : ∀ H', OpWp c ⟨some di, opi, ti, pi, afi, none⟩ env H' (fun s H'' => s = s0 ∧ H'' = H'))
    (h : OpWp c ⟨none, opj, tj, pj, afj, none⟩ env H (fun _ H' => (∀ w, StW c H' w → Sw w) ∧ HP c ops Q Sw m fuel ((listed.setIfInBounds i true).setIfInBounds j true) ((di, s0) :: env) H')) : HP c ops Q Sw m (fuel + 2) listed env H := by
  intro a w hst hS
  have hstep : ∀ k ∈ [i, j], wpOp P ops Q k (fun a' w' => (k < m → Sw w') ∧ anyX P .any ops Q Sw m (fuel + 1) (listed.setIfInBounds k true) a' w') a w := by
    intro k hk
    rcases List.mem_cons.1 hk with rfl | hk
    · unfold wpOp
      rw [hi]
      dsimp only
      rw [if_pos (show Region.wanted _ _ = true from rfl)]
      refine .inl (h0 a w hst _ _ ?_)
      rintro s H' v w' ⟨rfl, rfl⟩ hw' hv hk
      have hst' := hst.next hdi hw' hv hk
      refine ⟨fun _ => hkeep _ hw', ?_⟩
      refine hp_op0 (c := c) (env := (di, s) :: env) (H := H') hj hri (ow_weaken h ?_) _ _ hst' (hkeep _ hw')
      intro t s' ht
      rw [List.lookup_cons]
      by_cases htd : t = di
      · subst htd; rw [hno] at ht; cases ht
      · rw [show (t == di) = false by simpa using htd]; exact ht
    · obtain rfl := List.mem_singleton.1 hk
      unfold wpOp
      rw [hj]
      dsimp only
      rw [if_pos (show Region.wanted _ _ = true from rfl)]
      refine .inl (h a w hst _ _ ?_)
      rintro s H' v w' ⟨hk1, hk2⟩ hw' hv hk
      have hst' := hst.next0 (v := v) hw' hk
      refine ⟨fun _ => hk1 _ hw', ?_⟩
      refine hp_op (c := c) (env := env) (H := H') hi hrj hdi (ow_mono (h1 H') ?_) _ _ hst' (hk1 _ hw')
      rintro s1 H1 ⟨rfl, rfl⟩
      refine ⟨hk1, ?_⟩
      rw [Array.setIfInBounds_comm _ _ (by intro hij; subst hij; rw [hi] at hj; simp at hj)]
      exact hk2
  have hmem : ∀ k ∈ Region.ready .any ops listed, k ∈ [i, j] := by
    intro k hk
    rw [Bool.or_eq_true] at hr
    rcases hr with hr | hr
    · rw [eq_of_beq hr] at hk; exact hk
    · rw [eq_of_beq hr] at hk; simp only [List.mem_cons, List.not_mem_nil, or_false] at hk ⊢; exact hk.symm
  have hne0 : Region.ready .any ops listed ≠ [] := by
    intro h0
    rw [h0] at hr
    simp at hr
  exact ⟨fun h0 => absurd h0 hne0, fun k hk => hstep k (hmem k hk)⟩
/-- .. the other panics. -/
theorem hp_two_pan {v : Value} {oj : Oper} (hi : ops[i]? = some ⟨some di, opi, ti, pi, afi, none⟩) (hj : ops[j]? = some oj) (hgj : oj.guard = none) (hr : (Region.ready .any ops listed == [i, j] || Region.ready .any ops listed == [j, i]) = true)
    (hri : Region.ready .any ops (listed.setIfInBounds i true) = [j]) (hdi : di < nt) (hno : env.lookup di = none) (hkeep : ∀ w, StW c H w → Sw w)
    (h0 : OpWp c ⟨some di, opi, ti, pi, afi, none⟩ env H (fun s H' => s = s0 ∧ H' = H)) (h : OpPan c oj env H v) (hq : PanQ c Q v) : HP c ops Q Sw m (fuel + 2) listed env H := by
  obtain ⟨dst, opj, tj, pj, afj, gj⟩ := oj
  obtain rfl : gj = none := hgj
  intro a w hst hS
  have hstep : ∀ k ∈ [i, j], wpOp P ops Q k (fun a' w' => (k < m → Sw w') ∧ anyX P .any ops Q Sw m (fuel + 1) (listed.setIfInBounds k true) a' w') a w := by
    intro k hk
    rcases List.mem_cons.1 hk with rfl | hk
    · unfold wpOp
      rw [hi]
      dsimp only
      rw [if_pos (show Region.wanted _ _ = true from rfl)]
      refine .inl (h0 a w hst _ _ ?_)
      rintro s H' v' w' ⟨rfl, rfl⟩ hw' hv hk
      have hst' := hst.next hdi hw' hv hk
      refine ⟨fun _ => hkeep _ hw', ?_⟩
      refine hp_pan (c := c) (env := env) (H := H') hj hri h hq _ _ ?_ (hkeep _ hw')
      refine ⟨hst'.size, hst'.defers, fun t s' ht => hst'.slots t s' ?_, hst'.heap⟩
      rw [List.lookup_cons]
      by_cases htd : t = di
      · subst htd; rw [hno] at ht; cases ht
      · rw [show (t == di) = false by simpa using htd]; exact ht
    · obtain rfl := List.mem_singleton.1 hk
      unfold wpOp
      rw [hj]
      dsimp only
      rw [if_pos (show Region.wanted _ _ = true from rfl)]
      exact .inl (h a w hst _ _ hq)
  have hmem : ∀ k ∈ Region.ready .any ops listed, k ∈ [i, j] := by
    intro k hk
    rw [Bool.or_eq_true] at hr
    rcases hr with hr | hr
    · rw [eq_of_beq hr] at hk; exact hk
    · rw [eq_of_beq hr] at hk; simp only [List.mem_cons, List.not_mem_nil, or_false] at hk ⊢; exact hk.symm
  have hne0 : Region.ready .any ops listed ≠ [] := by
    intro h0
    rw [h0] at hr
    simp at hr
  exact ⟨fun h0 => absurd h0 hne0, fun k hk => hstep k (hmem k hk)⟩
/-- What is left when the first m are done: nothing need stand any more. -/
def allDone (m : Nat) (listed : Array Bool) : Bool := (List.range m).all fun i => listed.getD i true
omit [Gl P] in
theorem anyX_tail {S' : World → Prop} {m' : Nat} : ∀ (fuel : Nat) (listed : Array Bool) (a : Act) (w : World), allDone m listed = true → anyX P .any ops Q S' m' fuel listed a w → anyX P .any ops Q Sw m fuel listed a w
  | 0, _, _, _, _, h => h
  | fuel + 1, listed, a, w, hd, h => ⟨h.1, fun i hi => wpOp_mono (fun a' w' h' => ⟨fun hlt => (by
      have h1 := List.all_eq_true.1 hd i (List.mem_range.2 hlt)
      have h2 := (mem_ready.1 hi).1
      rw [Array.getD_eq_getD_getElem?] at h1 h2
      rw [h1] at h2
      cases h2), anyX_tail fuel _ a' w' (by
        refine List.all_eq_true.2 fun k hk => ?_
        have h1 := List.all_eq_true.1 hd k hk
        by_cases hki : k = i
        · subst hki
          by_cases hlt : k < listed.size
          · simp [Array.getD_eq_getD_getElem?, hlt]
          · simp [Array.getD_eq_getD_getElem?, hlt]
        · rw [getD_set_ne true (fun h => hki h.symm)]; exact h1) h'.2⟩) (h.2 i hi)⟩
theorem hp_rest {n : Nat} (hd : allDone m listed = true) (h : HP c ops Q (fun _ => True) n fuel listed env H) : HP c ops Q Sw m fuel listed env H := fun a w hst _ => anyX_tail fuel listed a w hd (h a w hst trivial)
theorem keepT : ∀ w, StW c H w → True := fun _ _ => trivial
/-- Two stores, of which either may come first. -/
theorem hp_both0 (hi : ops[i]? = some ⟨none, opi, ti, pi, afi, none⟩) (hj : ops[j]? = some ⟨none, opj, tj, pj, afj, none⟩) (hr : (Region.ready .any ops listed == [i, j] || Region.ready .any ops listed == [j, i]) = true)
    (h1 : OpWp c ⟨none, opi, ti, pi, afi, none⟩ env H (fun _ H' => (∀ w, StW c H' w → Sw w) ∧ HP c ops Q Sw m fuel (listed.setIfInBounds i true) env H'))
    (h2 : OpWp c ⟨none, opj, tj, pj, afj, none⟩ env H (fun _ H' => (∀ w, StW c H' w → Sw w) ∧ HP c ops Q Sw m fuel (listed.setIfInBounds j true) env H')) : HP c ops Q Sw m (fuel + 1) listed env H := by
  intro a w hst hS
  have hmem : ∀ k ∈ Region.ready .any ops listed, k ∈ [i, j] := by
    intro k hk
    rw [Bool.or_eq_true] at hr
    rcases hr with hr | hr
    · rw [eq_of_beq hr] at hk; exact hk
    · rw [eq_of_beq hr] at hk; simp only [List.mem_cons, List.not_mem_nil, or_false] at hk ⊢; exact hk.symm
  have hne0 : Region.ready .any ops listed ≠ [] := by
    intro h0
    rw [h0] at hr
    simp at hr
  refine ⟨fun h0 => absurd h0 hne0, fun k hk => ?_⟩
  rcases List.mem_cons.1 (hmem k hk) with rfl | hk
  · unfold wpOp
    rw [hi]
    dsimp only
    rw [if_pos (show Region.wanted _ _ = true from rfl)]
    refine .inl (h1 a w hst _ _ ?_)
    intro s H' v w' hK hw' hv hk
    exact ⟨fun _ => hK.1 _ hw', hK.2 _ _ (hst.next0 (v := v) hw' hk) (hK.1 _ hw')⟩
  · obtain rfl := List.mem_singleton.1 hk
    unfold wpOp
    rw [hj]
    dsimp only
    rw [if_pos (show Region.wanted _ _ = true from rfl)]
    refine .inl (h2 a w hst _ _ ?_)
    intro s H' v w' hK hw' hv hk
    exact ⟨fun _ => hK.1 _ hw', hK.2 _ _ (hst.next0 (v := v) hw' hk) (hK.1 _ hw')⟩
/-- What only looks at a slice's header. -/
theorem hok_lenown {d : Option Tmp} {t ty : TypeId} {pos : String} {af : Array Edge} {x : Operand} [SL P t] {v : Value} {e : TypeId} {k : Nat} {rows : List (List C)} (q : Nat) (hx : env.ev x = some (.cell (.val v))) (hp : pick [q] H = some ([.own v e k rows], Hr)) (hm : rows.length ≤ 9223372036854775807) :
    HOk c Sw env H ⟨d, .call { callee := .builtin .len, args := #[x], argTypes := #[t] }, ty, pos, af, none⟩ (In .i64 rows.length) :=
  fun a w hs _ => by
    obtain ⟨vs, ho, _⟩ := hs.heap.ok (.own v e k rows) ((pick_perm hp).mem_iff.2 (by simp))
    obtain ⟨ad, cap, hv⟩ := own_len ho
    have h0 : (0 : Int) ≤ rows.length := by omega
    refine ⟨.int .i64 rows.length, fun w' _ => ?_, rfl, rfl⟩
    simp [execOp, resolve, invoke, builtin, Builtin.len_, run_elem t, ev_val hs hx, hv, goInt]
theorem hok_indexOwn {d : Option Tmp} {t ty : TypeId} {pos : String} {af : Array Edge} {x y : Operand} [SL P t] {v : Value} {e : TypeId} {k : Nat} {rows : List (List C)} {q : Int} (p : Nat) (hx : env.ev x = some (.cell (.val v))) (hp : pick [p] H = some ([.own v e k rows], Hr)) (hy : env.ev y = some (In .i64 q)) (h0 : 0 ≤ q) (hlt : q.toNat < rows.length)
    (hz : (TI.i P (SL.e P t)).size = k) : HOk c Sw env H ⟨d, .indexAddr t x y, ty, pos, af, none⟩ (.cell (.inn v (q.toNat * k))) :=
  fun a w h _ => by
    obtain ⟨vs, ho, _, _⟩ := h.heap.ok (.own v e k rows) ((pick_perm hp).mem_iff.2 (by simp))
    rcases ho.2 with ⟨rfl, h0⟩ | ⟨b, cap, cur, rfl, _, _⟩
    · omega
    · refine ⟨.pointer (some ⟨b, q.toNat * k, none⟩), fun w' _ => ?_, b, rows.length, cap, rfl, rfl⟩
      have : 0 ≤ q ∧ q < ↑rows.length := ⟨h0, by omega⟩
      simp [execOp, ev_val h hx, ev_val h hy, Instr.indexAt, asIntOf, run_elem t, this, run_sizeOf, add_at, hz]
end
end Go.Vc
end

section
namespace Go.Vc
open Go.RowKit

def Fa (w : World) (A : Nat → Prop) (F : List (S × Value)) : Prop := ∀ p ∈ F, SOk w A p.1 p.2
def FaS (F : List (S × Value)) (w : World) : Prop := ∃ A, Fa w A F
section
variable {P : Program} [Gl P] {nt : Nat} {c : Cx P nt} {env : Env} {H Hr : List Ch} {F : List (S × Value)} {ops : Array Oper} {Q : Exit → Act → World → Prop}
variable {fuel : Nat} {listed : Array Bool} {i j d : Nat} {ty t : TypeId} {pos : String} {af : Array Edge} {x y : Operand}
def HQ (c : Cx P nt) (F : List (S × Value)) (ops : Array Oper) (Q : Exit → Act → World → Prop) (fuel : Nat) (listed : Array Bool) (env : Env) (H : List Ch) : Prop :=
  ∀ a w, St c env H a w → Fa w (c.av H) F → anyX P .any ops Q (FaS F) 64 fuel listed a w
@[reducible] def putE (d : Option Nat) (s : S) (env : Env) : Env := match d with
  | some d => (d, s) :: env
  | none => env
def okD (d : Option Nat) (nt : Nat) : Bool := match d with
  | some d => decide (d < nt)
  | none => true
theorem hq_take {op : Op} {s : S} (hi : ops[i]? = some ⟨some d, op, ty, pos, af, none⟩) (hs : (Region.noSelect ops && lateWait ops 64 i) = true) (hf : Region.free .any ops listed i = true) (hr : (Region.ready .any ops listed).contains i = true) (hd : d < nt) (hQ : PanI Q)
    (hop : HOk c (FaS F) env H ⟨some d, op, ty, pos, af, none⟩ s) (h : HQ c F ops Q fuel (listed.setIfInBounds i true) ((d, s) :: env) H) : HQ c F ops Q (fuel + 1) listed env H := by
  intro a w hst hF
  obtain ⟨v, h1, h2⟩ := hop a w hst ⟨_, hF⟩
  rw [Bool.and_eq_true] at hs
  exact anyX_first hi (Region.noSelect_spec hs.1) (fun ch a w h => hQ ch a _ _ w h) (late_spec hs.2) fuel listed a w (Region.free_spec hi hf) (by simpa using hr) (.inl ⟨rfl, h1⟩) ⟨_, hF⟩ (h _ _ (hst.next hd hst.heap h2 (fun _ _ h => h)) hF)
theorem hq_one {o : Oper} {K : Act → World → Prop} {a : Act} {w : World} (hi : ops[i]? = some o) (hg : o.guard = none) (hd : okD o.dst nt = true) (hst : St c env H a w) (hF : Fa w (c.av H) F)
    (h : OpWp c o env H (fun s H' => ∀ a w, St c (putE o.dst s env) H' a w → Fa w (c.av H') F → K a w)) : wpOp P ops Q i (fun a' w' => (i < 64 → FaS F w') ∧ K a' w') a w := by
  obtain ⟨dst, op, ty, pos, af, g⟩ := o
  obtain rfl : g = none := hg
  unfold wpOp
  rw [hi]
  dsimp only
  rw [if_pos (show Region.wanted _ _ = true from rfl)]
  refine .inl (h a w hst _ _ ?_)
  intro s H' v w' hK hw' hv hk
  have hF' : Fa w' (c.av H') F := fun p hp => hk _ _ (hF p hp)
  refine ⟨fun _ => ⟨_, hF'⟩, hK _ _ ?_ hF'⟩
  cases dst with
  | none => exact hst.next0 hw' hk
  | some d => exact hst.next (by simpa [okD] using hd) hw' hv hk
theorem hq_op {o : Oper} (hi : ops[i]? = some o) (hg : (o.guard.isNone && okD o.dst nt) = true) (hr : Region.ready .any ops listed = [i])
    (h : OpWp c o env H (fun s H' => HQ c F ops Q fuel (listed.setIfInBounds i true) (putE o.dst s env) H')) : HQ c F ops Q (fuel + 1) listed env H := by
  intro a w hst hF
  rw [Bool.and_eq_true, Option.isNone_iff_eq_none] at hg
  refine anyX_all hr (by simp) (fun k hk => ?_)
  obtain rfl : k = i := by simpa using hk
  exact hq_one hi hg.1 hg.2 hst hF h
/-- Either of two may come first. -/
theorem hq_either {oi oj : Oper} (hi : ops[i]? = some oi) (hj : ops[j]? = some oj) (hg : (oi.guard.isNone && okD oi.dst nt && oj.guard.isNone && okD oj.dst nt) = true) (hr : (Region.ready .any ops listed == [i, j] || Region.ready .any ops listed == [j, i]) = true)
    (h1 : OpWp c oi env H (fun s H' => HQ c F ops Q fuel (listed.setIfInBounds i true) (putE oi.dst s env) H'))
    (h2 : OpWp c oj env H (fun s H' => HQ c F ops Q fuel (listed.setIfInBounds j true) (putE oj.dst s env) H')) : HQ c F ops Q (fuel + 1) listed env H := by
  intro a w hst hF
  simp only [Bool.and_eq_true, Option.isNone_iff_eq_none] at hg
  have hmem : ∀ k ∈ Region.ready .any ops listed, k ∈ [i, j] := by
    intro k hk
    rw [Bool.or_eq_true] at hr
    rcases hr with hr | hr
    · rw [eq_of_beq hr] at hk; exact hk
    · rw [eq_of_beq hr] at hk; simp only [List.mem_cons, List.not_mem_nil, or_false] at hk ⊢; exact hk.symm
  have hne0 : Region.ready .any ops listed ≠ [] := by
    intro h0
    rw [h0] at hr
    simp at hr
  refine ⟨fun h0 => absurd h0 hne0, fun k hk => ?_⟩
  rcases List.mem_cons.1 (hmem k hk) with rfl | hk
  · exact hq_one hi hg.1.1.1 hg.1.1.2 hst hF h1
  · obtain rfl := List.mem_singleton.1 hk
    exact hq_one hj hg.1.2 hg.2 hst hF h2
theorem hq_done (hr : Region.ready .any ops listed = []) (h : JQ c Q .normal env H) : HQ c F ops Q fuel listed env H := by
  intro a w hst _
  cases fuel with
  | zero => exact ⟨hr, h a w hst⟩
  | succ fuel => exact ⟨fun _ => h a w hst, by rw [hr]; simp⟩
/-- What is known of a value that stands in a slot. -/
theorem hq_slot (k : Nat) {v : Value} {s : S} (hl : env.lookup k = some (.cell (.val v))) (hm : (s, v) ∈ F) (h : HQ c F ops Q fuel listed ((k, s) :: env) H) : HQ c F ops Q fuel listed env H := by
  intro a w hst hF
  refine h a w ⟨hst.size, hst.defers, fun t s' ht => ?_, hst.heap⟩ hF
  rcases lookup_cons ht with ⟨rfl, rfl⟩ | ⟨_, h2⟩
  · have h1 := hst.slots _ _ hl
    have h2 := hF _ hm
    rw [show a.tmps.getD t undef = v from h1.1]
    exact h2
  · exact hst.slots _ _ h2
/-- .. in a block. -/
theorem hq_blk (k : Nat) {b : Nat} {bt : TypeId} {vs : List Value} {row : List C} (hp : pick [k] H = some ([.blk b bt (vs.map C.val)], Hr)) (hm : ((S.row row), Value.agg vs.toArray) ∈ F) (h : HQ c F ops Q fuel listed env (.blk b bt row :: Hr)) : HQ c F ops Q fuel listed env H := by
  intro a w hst hF
  obtain ⟨cs, g1, g2⟩ := blk_ok hst hp
  obtain rfl : cs = vs := rdRow_vals g2
  have h2 := hF _ hm
  obtain ⟨cs', e1, e2⟩ := h2
  obtain rfl : cs' = cs.toArray := by simpa using e1.symm
  have hav0 : c.av (.blk b bt (cs.map C.val) :: Hr) = c.av H := av_perm c (pick_perm hp)
  have hav : c.av (.blk b bt row :: Hr) = c.av H := by rw [← hav0]; rfl
  exact h a w (st_row hst hp ⟨cs, g1, by simpa using e2⟩) (by rw [hav]; exact hF)
/-- The slots and chunks in another order. -/
theorem hq_env {env' : Env} (hl : ∀ t s, env'.lookup t = some s → env.lookup t = some s) (h : HQ c F ops Q fuel listed env' H) : HQ c F ops Q fuel listed env H :=
  fun a w hst hF => h a w ⟨hst.size, hst.defers, fun t s ht => hst.slots t s (hl t s ht), hst.heap⟩ hF
theorem env_swap {d e : Nat} {s u : S} (hne : (d == e) = false) : ∀ t r, List.lookup t ((d, s) :: (e, u) :: env) = some r → List.lookup t ((e, u) :: (d, s) :: env) = some r := by
  have hne' : d ≠ e := by simpa using hne
  intro t r
  simp only [List.lookup_cons]
  by_cases h1 : t = d
  · subst h1
    rw [show (t == t) = true by simp, show (t == e) = false from hne]
    exact id
  · rw [show (t == d) = false by simpa using h1]
    exact id
theorem hq_perm {H' : List Ch} (hp : H.Perm H') (h : HQ c F ops Q fuel listed env H') : HQ c F ops Q fuel listed env H :=
  fun a w hst hF => h a w (hst.perm hp) (by rw [show c.av H' = c.av H from av_perm c hp]; exact hF)
/-- Two new blocks, either of which may come first. -/
theorem hq_alloc2 {di dj : Nat} {ti tj ei ej : TypeId} {pi pj : String} {afi afj : Array Edge} [TI P ei] [TI P ej] {zi zj : Value} (hi : ops[i]? = some ⟨some di, .alloc ei, ti, pi, afi, none⟩) (hj : ops[j]? = some ⟨some dj, .alloc ej, tj, pj, afj, none⟩)
    (hr : (Region.ready .any ops listed == [i, j] || Region.ready .any ops listed == [j, i]) = true) (hri : Region.ready .any ops (listed.setIfInBounds i true) = [j]) (hrj : Region.ready .any ops (listed.setIfInBounds j true) = [i]) (hdi : di < nt) (hdj : dj < nt) (hne : (dj == di) = false) (hij : (i == j) = false)
    (hzi : (TI.i P ei).zero = some zi) (h1i : zi.cells.toList.all Value.oneCell' = true) (hzj : (TI.i P ej).zero = some zj) (h1j : zj.cells.toList.all Value.oneCell' = true)
    (h : ∀ bi bj, HQ c F ops Q fuel ((listed.setIfInBounds i true).setIfInBounds j true) ((dj, .cell (.val (.pointer (some ⟨bj, 0, none⟩)))) :: (di, .cell (.val (.pointer (some ⟨bi, 0, none⟩)))) :: env) (.blk bj ej (zeroRow zj) :: .blk bi ei (zeroRow zi) :: H)) : HQ c F ops Q (fuel + 2) listed env H := by
  have hij' : i ≠ j := by simpa using hij
  refine hq_either hi hj (by simp [okD, hdi, hdj]) hr ?_ ?_
  · refine ow_alloc hzi h1i (fun bi => ?_)
    refine hq_op hj (by simp [okD, hdj]) hri ?_
    exact ow_alloc hzj h1j (fun bj => h bi bj)
  · refine ow_alloc hzj h1j (fun bj => ?_)
    refine hq_op hi (by simp [okD, hdi]) hrj ?_
    refine ow_alloc hzi h1i (fun bi => ?_)
    have h2 := h bi bj
    rw [Array.setIfInBounds_comm _ _ hij'] at h2
    exact hq_env (env_swap hne) (hq_perm (List.Perm.swap _ _ _) h2)
/-- Element i of a slice with n elements of k cells each. -/
def IxAt (v : Value) (n i k : Nat) (p : Value) : Prop := ∃ b off cap, v = .slice (some ⟨b, off, none⟩) n cap ∧ p = .pointer (some ⟨b, off + i * k, none⟩)
theorem hok_index [SL P t] {v p : Value} {n q k : Nat} {m : Int} (hx : env.ev x = some (.cell (.val v))) (hy : env.ev y = some (In .i64 m)) (h0 : 0 ≤ m) (hq : m.toNat = q) (hlt : q < n) (hp : IxAt v n q k p) (hz : (TI.i P (SL.e P t)).size = k) {Sw : World → Prop} : HOk c Sw env H ⟨some d, .indexAddr t x y, ty, pos, af, none⟩ (.cell (.val p)) := by
  intro a w hst _
  obtain ⟨b, off, cap, rfl, rfl⟩ := hp
  refine ⟨_, fun w' _ => ?_, rfl, rfl⟩
  have : 0 ≤ m ∧ m < ↑n := ⟨h0, by omega⟩
  simp [execOp, ev_val hst hx, ev_val hst hy, Instr.indexAt, asIntOf, run_elem t, this, run_sizeOf, add_at, hz, hq]
theorem hok_loadF [TI P t] {p : Value} {vs : List Value} (ha : aggB (TI.u P t) = true) (hx : env.ev x = some (.cell (.val p))) (hm : ((S.cell (.place (vs.map C.val))), p) ∈ F) (hz : (TI.i P t).size = vs.length) : HOk c (FaS F) env H ⟨some d, .load t x, ty, pos, af, none⟩ (.row (vs.map C.val)) := by
  intro a w hst hS
  have h1 : ∀ w' : World, FaS F w' → ∃ b off, p = .pointer (some ⟨b, off, none⟩) ∧ Cells w' b off vs ∧ RdRow w' (fun _ => False) (vs.map C.val) vs := by
    rintro w' ⟨A, hA⟩
    obtain ⟨b, off, us, e, _, _, hc, hr⟩ := hA _ hm
    obtain rfl := rdRow_vals hr
    exact ⟨b, off, e, hc, rdRow_exact hr⟩
  refine ⟨.agg vs.toArray, fun w' hS' => ?_, vs.toArray, rfl, ?_⟩
  · obtain ⟨b, off, e, hc, _⟩ := h1 w' hS'
    simp only [execOp, ev_val hst hx, e, Instr.loadAt, Instr.sureAddr, Sem.run_bind, Sem.run_pure, Result.andThen_ok, run_loadVarN t ha hz hc]
  · obtain ⟨_, _, _, _, hr⟩ := h1 w hS
    simpa using rdRow_exact hr
/-- Two elements of two lists, opened. -/
abbrev fact2 (rows : List (List C)) (row : List C) (v p : Value) (vs : List Value) : List (S × Value) := [(.cell (.list rows), v), (.cell (.place (vs.map C.val)), p), (.row row, .agg vs.toArray)]
theorem open1 {w : World} {A : Nat → Prop} {rows : List (List C)} {row : List C} {v : Value} {q : Nat} (h : Rd1 w A (.list rows) v) (hi : rows[q]? = some row) (hp : 0 < row.length) : ∃ p vs, vs.length = row.length ∧ IxAt v rows.length q row.length p ∧ Fa w A (fact2 rows row v p vs) := by
  obtain ⟨hlt, _⟩ := List.getElem?_eq_some_iff.1 hi
  have h' := h
  obtain ⟨ad, cap, rfl, _, _, hb⟩ := h
  rcases hb with hb | ⟨b, off, vs, k, rfl, hA, hc, hk, hr⟩
  · omega
  · obtain ⟨cs, h1, h2, h3⟩ := rdRows_get hr hc hi
    have hkl : k = row.length := by rw [← h2, rdRow_length h1]
    subst hkl
    refine ⟨.pointer (some ⟨b, off + q * row.length, none⟩), cs, h2, ⟨b, off, cap, rfl, rfl⟩, ?_⟩
    intro p hp'
    rcases List.mem_cons.1 hp' with rfl | hp'
    · exact h'
    · rcases List.mem_cons.1 hp' with rfl | hp'
      · exact ⟨b, _, cs, rfl, hA, by simp only [List.length_map]; omega, h3, rdRow_exact h1⟩
      · obtain rfl := List.mem_singleton.1 hp'
        exact ⟨cs.toArray, rfl, by simpa using h1⟩
theorem jc_hq2 {id n : Nat} (hn : ops.size = n) (s1 s2 q1 q2 : Nat) {rows1 rows2 : List (List C)} {row1 row2 : List C} (hm : P.follows .mixedOrders = true) (h1 : env.lookup s1 = some (.cell (.list rows1))) (h2 : env.lookup s2 = some (.cell (.list rows2))) (hi1 : rows1[q1]? = some row1) (hi2 : rows2[q2]? = some row2) (hp1 : 0 < row1.length) (hp2 : 0 < row2.length)
    (h : ∀ v1 v2 p1 p2 vs1 vs2, vs1.length = row1.length → vs2.length = row2.length → IxAt v1 rows1.length q1 row1.length p1 → IxAt v2 rows2.length q2 row2.length p2 → HQ c (fact2 rows1 row1 v1 p1 vs1 ++ fact2 rows2 row2 v2 p2 vs2) ops Q n (Array.replicate n false) ((s1, .cell (.val v1)) :: (s2, .cell (.val v2)) :: env) H) : JC c (.region id ops true) Q env H := by
  intro a w hs
  subst hn
  obtain ⟨d1, d2⟩ := stw_drew hs.heap
  have g1 := d2 _ _ (hs.slots _ _ h1)
  have g2 := d2 _ _ (hs.slots _ _ h2)
  obtain ⟨p1, vs1, l1, x1, f1⟩ := open1 g1 hi1 hp1
  obtain ⟨p2, vs2, l2, x2, f2⟩ := open1 g2 hi2 hp2
  have hF : Fa { w with drawn := w.drawn + 1 } (c.av H) (fact2 rows1 row1 (a.tmps.getD s1 undef) p1 vs1 ++ fact2 rows2 row2 (a.tmps.getD s2 undef) p2 vs2) := by
    intro p hp
    rcases List.mem_append.1 hp with hp | hp
    · exact f1 p hp
    · exact f2 p hp
  refine wp_region_any hm (any_of_x (S := FaS _) (m := 64) _ _ _ _ (h _ _ p1 p2 vs1 vs2 l1 l2 x1 x2 a _ ⟨hs.size, hs.defers, fun t s hl => ?_, d1⟩ hF))
  have hone : ∀ {k : Nat} {rows : List (List C)}, env.lookup k = some (.cell (.list rows)) → (a.tmps.getD k undef).oneCell' = true := fun hk => rd1_one _ _ (hs.slots _ _ hk)
  rcases lookup_cons hl with ⟨rfl, rfl⟩ | ⟨_, hl⟩
  · exact ⟨rfl, hone h1⟩
  · rcases lookup_cons hl with ⟨rfl, rfl⟩ | ⟨_, hl⟩
    · exact ⟨rfl, hone h2⟩
    · exact d2 _ _ (hs.slots _ _ hl)
omit [Gl P] in
/-- A struct of numbers and strings is equal to itself. -/
theorem eqself_ti [TI P t] {n : Nat} {vs : List Value} {Fs : Array Field} (hu : TI.u P t = .struct Fs) (hp : P.stoodInHeld t = false) (h : FsOk P n vs.toArray Fs.toList) : EqSelf P (n + 1) t (.agg vs.toArray) := by
  have h1 : P.fieldsOf t = Fs := by simp [Program.fieldsOf, TI.hu (P := P) (t := t), hu]
  exact eqself_agg (by rw [TI.hu (P := P) (t := t), hu, h1]) hp (by rw [h1]) h
theorem jc_hpV2 {id n : Nat} (m : Nat) (hn : ops.size = n) {b1 b2 : Nat} {t1 t2 : TypeId} {r1 r2 : List C} (j1 j2 : Nat) (vs us : List Value) (hm : P.follows .mixedOrders = true) (hp : pick [j1, j2] H = some ([.blk b1 t1 r1, .blk b2 t2 r2], Hr)) (hv : r1 = vs.map C.val) (hu : r2 = us.map C.val)
    (h : HP c ops Q (Keep [(b1, vs, t1), (b2, us, t2)]) m n (Array.replicate n false) env H) : JC c (.region id ops true) Q env H := by
  refine jc_hp2 m hn j1 j2 hm hp (fun cs1 cs2 _ _ => ?_)
  intro a w hs hS
  subst hv hu
  obtain ⟨vs', g1, k1⟩ := hs.heap.ok (.blk b1 t1 (vs.map C.val)) ((pick_perm hp).mem_iff.2 (by simp))
  obtain ⟨us', g2, k2⟩ := hs.heap.ok (.blk b2 t2 (us.map C.val)) ((pick_perm hp).mem_iff.2 (by simp))
  obtain rfl := rdRow_vals k1
  obtain rfl := rdRow_vals k2
  have e1 := hS (b1, cs1, t1) List.mem_cons_self
  have e2 := hS (b2, cs2, t2) (List.mem_cons_of_mem _ List.mem_cons_self)
  dsimp only at e1 e2
  rw [g1] at e1
  rw [g2] at e2
  obtain rfl : vs' = cs1 := by simpa using e1
  obtain rfl : us' = cs2 := by simpa using e2
  exact h a w hs hS
end
end Go.Vc
end

section
namespace Go.Vc
open Go.RowKit
theorem r_.{u} {α : Sort u} {a : α} : a = a := rfl
theorem g_ {p : Prop} (h : p := by omega) : p := h
theorem h_ {p : Prop} (h : p := by assumption) : p := h
theorem k_ {p : Prop} (h : p := by kernel_rfl) : p := h
theorem t_ {p : Prop} [Decidable p] (h : p := by omega) : decide p = true := decide_eq_true h
theorem u_ {p : Prop} [Decidable p] (h : p := by assumption) : decide p = true := decide_eq_true h
theorem v_ {p : Prop} [Decidable p] (h : ¬ p := by omega) : decide p = false := decide_eq_false h
theorem w_ {p : Prop} [Decidable p] (h : ¬ p := by assumption) : decide p = false := decide_eq_false h
theorem x_ {α : Type} [DecidableEq α] {a : α} : decide (a = a) = true := decide_eq_true rfl
theorem p_ {s : S} {H : List Ch} : s = s ∧ H.Perm H := ⟨rfl, List.Perm.refl _⟩
theorem b_ {n m : Nat} (h : Nat.ble n m = true := by rfl) : n ≤ m := nb h
section
variable {P : Program} [Gl P] {nt : Nat} {c : Cx P nt} {env : Env} {H Hr : List Ch} {ops : Array Oper} {Q : Exit → Act → World → Prop} {l : List Oper} {d : Nat} {op : Op} {ty t : TypeId} {pos : String} {af : Array Edge} {x y : Operand}
theorem o_ (hd : Nat.ble (d + 1) nt = true) (h : OpWp c ⟨some d, op, ty, pos, af, none⟩ env H (fun s H' => JL c ops Q l ((d, s) :: env) H')) : JL c ops Q (⟨some d, op, ty, pos, af, none⟩ :: l) env H := jl_op h (nb hd)
theorem M_ {s : S} (h : (env.ev x, Nat.ble (d + 1) nt) = (some s, true)) (k : JL c ops Q l ((d, s) :: env) H) : JL c ops Q (⟨some d, .move x, ty, pos, af, none⟩ :: l) env H := jl_op (ow_move (Prod.mk.inj h).1 k) (nb (Prod.mk.inj h).2)
theorem E_ {s : S} (h : (env.ev x, Nat.ble (d + 1) nt) = (some s, true)) (k : JL c ops Q l ((d, s) :: env) H) : JL c ops Q (⟨some d, .assign x, ty, pos, af, none⟩ :: l) env H := jl_op (ow_assign (Prod.mk.inj h).1 k) (nb (Prod.mk.inj h).2)
theorem N_ {b o : Nat} {sp : Option Nat} (h : (env.ev x, Nat.ble (d + 1) nt) = (some (.cell (.val (.pointer (some ⟨b, o, sp⟩)))), true)) (k : JL c ops Q l ((d, .cell (.val (.pointer (some ⟨b, o, sp⟩)))) :: env) H) : JL c ops Q (⟨some d, .nilCheck x, ty, pos, af, none⟩ :: l) env H := jl_op (ow_nilCheck (Prod.mk.inj h).1 k) (nb (Prod.mk.inj h).2)
theorem F_ {b o f off size : Nat} [TI P t] [TS P t] (h : (structB (TI.u P t), env.ev x, (TS.pl P t)[f]?, Nat.ble 1 size, Nat.ble (d + 1) nt) = (true, some (.cell (.val (.pointer (some ⟨b, o, none⟩)))), some (off, size), true, true))
    (k : JL c ops Q l ((d, .cell (.val (.pointer (some ⟨b, o + off, none⟩)))) :: env) H) : JL c ops Q (⟨some d, .fieldAddr t x f, ty, pos, af, none⟩ :: l) env H := by
  simp only [Prod.mk.injEq] at h
  obtain ⟨h1, h2, h3, h4, h5⟩ := h
  exact jl_op (ow_fieldAddr h1 h2 h3 (nb h4) k) (nb h5)
theorem L_ {b o : Nat} {row : List C} {e : C} {bt : TypeId} [TI P t] (j : Nat) (h : (aggB (TI.u P t), env.ev x, pick [j] H, row[o]?, Nat.ble (d + 1) nt) = (false, some (.cell (.val (.pointer (some ⟨b, o, none⟩)))), some ([.blk b bt row], Hr), some e, true))
    (k : JL c ops Q l ((d, .cell e) :: env) H) : JL c ops Q (⟨some d, .load t x, ty, pos, af, none⟩ :: l) env H := by
  simp only [Prod.mk.injEq] at h
  obtain ⟨h1, h2, h3, h4, h5⟩ := h
  exact jl_op (ow_load j h1 h2 h3 h4 k) (nb h5)
theorem A_ {b : Nat} {row : List C} {bt : TypeId} [TI P t] (j : Nat) (h : (aggB (TI.u P t), env.ev x, pick [j] H, (TI.i P t).size, Nat.ble (d + 1) nt) = (true, some (.cell (.val (.pointer (some ⟨b, 0, none⟩)))), some ([.blk b bt row], Hr), row.length, true))
    (k : JL c ops Q l ((d, .row row) :: env) H) : JL c ops Q (⟨some d, .load t x, ty, pos, af, none⟩ :: l) env H := by
  simp only [Prod.mk.injEq] at h
  obtain ⟨h1, h2, h3, h4, h5⟩ := h
  exact jl_op (ow_loadAll j h1 h2 h3 h4 k) (nb h5)
theorem S_ {b : Nat} {row r : List C} {s : S} {bt : TypeId} [TI P t] (j : Nat) (h : (env.ev x, env.ev y, s.cells, pick [j] H, (TI.i P t).size, row.length) = (some (.cell (.val (.pointer (some ⟨b, 0, none⟩)))), some s, some r, some ([.blk b bt row], Hr), r.length, r.length))
    (k : JL c ops Q l env (.blk b bt r :: Hr)) : JL c ops Q (⟨none, .store t x y, ty, pos, af, none⟩ :: l) env H := by
  simp only [Prod.mk.injEq] at h
  obtain ⟨h1, h2, h3, h4, h5, h6⟩ := h
  exact jl_op0 (ow_storeAll j h1 h2 h3 h4 h5 h6 k)
theorem W_ {b o : Nat} {row : List C} {c1 : C} {bt : TypeId} [TI P t] (j : Nat) (h : (env.ev x, env.ev y, pick [j] H, (TI.i P t).size, Nat.ble (o + 1) row.length) = (some (.cell (.val (.pointer (some ⟨b, o, none⟩)))), some (.cell c1), some ([.blk b bt row], Hr), 1, true))
    (k : JL c ops Q l env (.blk b bt (row.set o c1) :: Hr)) : JL c ops Q (⟨none, .store t x y, ty, pos, af, none⟩ :: l) env H := by
  simp only [Prod.mk.injEq] at h
  obtain ⟨h1, h2, h3, h4, h5⟩ := h
  exact jl_op0 (ow_store1 j h1 h2 h3 h4 (nb h5) k)
theorem X_ {ss : List S} {i : Nat} {s : S} (h : (env.ev x, ss[i]?, Nat.ble (d + 1) nt) = (some (.tup ss), some s, true)) (k : JL c ops Q l ((d, s) :: env) H) : JL c ops Q (⟨some d, .extract x i, ty, pos, af, none⟩ :: l) env H := by
  simp only [Prod.mk.injEq] at h
  obtain ⟨h1, h2, h3⟩ := h
  exact jl_op (ow_extract h1 h2 k) (nb h3)
theorem R_ {id : Nat} {ls : List Oper} {z : Code} (h : JL c ls.toArray (Exit.then (fun a w => z.wp P Q a w) Q) ls env H) : JC c (.seq (.region id ls.toArray false) z) Q env H := jc_seq (jc_region h)
theorem T_ {z : Code} (h : JC c z Q env H) : JL c ops (Exit.then (fun a w => z.wp P Q a w) Q) [] env H := jl_nil (jq_then h)
theorem B_ {id : Nat} {z u : Code} (h : JC c u (Exit.inBlock id (Exit.then (fun a w => z.wp P Q a w) Q)) env H) : JC c (.seq (.block id u) z) Q env H := jc_seq (jc_block h)
end
section
variable {P : Program} [Gl P] {nt : Nat} {ops : Array Oper} {H : List Ch} {K : Env → Prop} {env : Env} {l : List Oper} {d : Nat} {ty t : TypeId} {pos : String} {af : Array Edge} {x y : Operand} {Hr : List Ch}
theorem yM_ {s : S} (h : (env.only (Oper.looksAt ops ⟨some d, .move x, ty, pos, af, none⟩)).ev x = some s) (k : AnyOk P nt ops H K l ((d, s) :: env)) : AnyOk P nt ops H K (⟨some d, .move x, ty, pos, af, none⟩ :: l) env := any_op (fun _ => ow_move h p_) k
theorem yE_ {s : S} (h : (env.only (Oper.looksAt ops ⟨some d, .assign x, ty, pos, af, none⟩)).ev x = some s) (k : AnyOk P nt ops H K l ((d, s) :: env)) : AnyOk P nt ops H K (⟨some d, .assign x, ty, pos, af, none⟩ :: l) env := any_op (fun _ => ow_assign h p_) k
theorem yN_ {b o : Nat} {sp : Option Nat} (h : (env.only (Oper.looksAt ops ⟨some d, .nilCheck x, ty, pos, af, none⟩)).ev x = some (.cell (.val (.pointer (some ⟨b, o, sp⟩))))) (k : AnyOk P nt ops H K l ((d, .cell (.val (.pointer (some ⟨b, o, sp⟩)))) :: env)) : AnyOk P nt ops H K (⟨some d, .nilCheck x, ty, pos, af, none⟩ :: l) env := any_op (fun _ => ow_nilCheck h p_) k
theorem yF_ {b o f off size : Nat} [TI P t] [TS P t] (h : (structB (TI.u P t), (env.only (Oper.looksAt ops ⟨some d, .fieldAddr t x f, ty, pos, af, none⟩)).ev x, (TS.pl P t)[f]?, Nat.ble 1 size) = (true, some (.cell (.val (.pointer (some ⟨b, o, none⟩)))), some (off, size), true))
    (k : AnyOk P nt ops H K l ((d, .cell (.val (.pointer (some ⟨b, o + off, none⟩)))) :: env)) : AnyOk P nt ops H K (⟨some d, .fieldAddr t x f, ty, pos, af, none⟩ :: l) env := by
  simp only [Prod.mk.injEq] at h
  obtain ⟨h1, h2, h3, h4⟩ := h
  exact any_op (fun _ => ow_fieldAddr h1 h2 h3 (nb h4) p_) k
theorem yL_ {b o : Nat} {row : List C} {e : C} {bt : TypeId} [TI P t] (j : Nat) (h : (aggB (TI.u P t), (env.only (Oper.looksAt ops ⟨some d, .load t x, ty, pos, af, none⟩)).ev x, pick [j] H, row[o]?) = (false, some (.cell (.val (.pointer (some ⟨b, o, none⟩)))), some ([.blk b bt row], Hr), some e))
    (k : AnyOk P nt ops H K l ((d, .cell e) :: env)) : AnyOk P nt ops H K (⟨some d, .load t x, ty, pos, af, none⟩ :: l) env := by
  simp only [Prod.mk.injEq] at h
  obtain ⟨h1, h2, h3, h4⟩ := h
  exact any_op (fun _ => ow_load j h1 h2 h3 h4 p_) k
end
abbrev aa_ := @any_op
abbrev ab_ := @any_guardY
abbrev ac_ := @any_guardN
abbrev ae_ := @any_nil
abbrev af_ := @any_alloc
abbrev ag_ := @jl_op0
abbrev ah_ := @jl_guardY
abbrev ai_ := @jl_guardN
abbrev aj_ := @jl_guardU
abbrev ak_ := @jl_nil
abbrev al_ := @jq_then
abbrev am_ := @jc_seq
abbrev an_ := @jc_region
abbrev ao_ := @jc_any
abbrev ap_ := @jc_condF
abbrev aq_ := @jc_condT
abbrev ar_ := @jc_ret
abbrev as_ := @jc_skip
abbrev au_ := @jc_block
abbrev av_ := @jc_exit
abbrev aw_ := @jq_then_ret
abbrev ax_ := @jq_then_exit
abbrev ay_ := @jq_block
abbrev az_ := @jq_block_ret
abbrev ba_ := @jq_block_exit
abbrev bb_ := @jq_block_other
abbrev bc_ := @sub_step
abbrev bd_ := @ow_move
abbrev be_ := @ow_assign
abbrev bf_ := @ow_fieldAddr
abbrev bg_ := @ow_load
abbrev bh_ := @ow_nilCheck
abbrev bi_ := @ow_call1
abbrev bj_ := @ow_add64
abbrev bk_ := @ow_storeAll
abbrev bl_ := @ow_alloc
abbrev bm_ := @ow_call0
abbrev bn_ := @ow_eql
abbrev bp_ := @ow_pickT
abbrev bq_ := @ow_buildSlice
abbrev br_ := @ow_len
abbrev bs_ := @ow_loadAll
abbrev bt_ := @ow_callP
abbrev bu_ := @ow_build
abbrev bv_ := @ow_pickF
abbrev bw_ := @ow_lss
abbrev bx_ := @ow_neq
abbrev bz_ := @ow_gtr
abbrev ca_ := @ow_store1
abbrev cb_ := @ow_loadPlace
abbrev cc_ := @ow_indexAddrMapE
abbrev cd_ := @ow_not
abbrev ce_ := @ow_notdec
abbrev cf_ := @ow_fieldAddrPlace
abbrev cg_ := @ow_sub64
abbrev ch_ := @ow_rem
abbrev ci_ := @ow_box
abbrev cj_ := @ow_box1
abbrev ck_ := @ow_max2
abbrev cl_ := @ow_min2
abbrev cm_ := @ow_storeN
abbrev cn_ := @ow_geq
abbrev co_ := @ow_lenstr
abbrev cp_ := @ow_loadN
abbrev cq_ := @ow_insertSet
abbrev cr_ := @ow_loadPlaceN
abbrev cs_ := @ow_streql
abbrev ct_ := @ow_strneq
abbrev cu_ := @ow_leq
abbrev cv_ := @ow_indexAddrMapI
abbrev cw_ := @ow_lenown
abbrev cx_ := @ow_callv
abbrev cy_ := @ow_neg64
abbrev cz_ := @ow_mul64
abbrev db_ := @ow_loadInn1
abbrev dc_ := @ow_indexOwn
abbrev dd_ := @ow_loadG
abbrev de_ := @ow_indexArr
abbrev df_ := @hp_take
abbrev dg_ := @hp_op
abbrev dh_ := @hp_op0
abbrev di_ := @ht_op
abbrev dj_ := @ht_op0
abbrev dk_ := @hok_move
abbrev dl_ := @hok_fieldAddr
abbrev dm_ := @hok_load
abbrev dn_ := @hok_loadAll
abbrev do_ := @hok_add
abbrev dr_ := @hok_nilCheck
end Go.Vc
end

section
namespace Go.Proofs.YtamajcgdfjeehaaGreatDoor
open Go.Vc
attribute [local irreducible] JL JC JQ OpWp Con ConN
set_option maxHeartbeats 4000000

inductive T where
  | nu (n : Int)
  | nm (s : ByteArray)
  | ix (s : ByteArray) (t : T)
  | bn (o : Int) (a b : T)
def T.kind : T → Int
  | .nu _ => 1
  | .nm _ => 2
  | .ix _ _ => 3
  | .bn _ _ _ => 4
def T.num : T → Int
  | .nu n => n
  | _ => 0
def T.name : T → ByteArray
  | .nm s => s
  | .ix s _ => s
  | _ => ⟨#[]⟩
def T.op : T → Int
  | .bn o _ _ => o
  | _ => 0
def T.args : T → List T
  | .ix _ t => [t]
  | .bn _ a b => [a, b]
  | _ => []
def T.row : T → List C
  | .nu n => [.val (.int .i64 1), .val (.int .i64 n), .val (.string ⟨#[]⟩), .val (.int .i64 0), .list []]
  | .nm s => [.val (.int .i64 2), .val (.int .i64 0), .val (.string s), .val (.int .i64 0), .list []]
  | .ix s t => [.val (.int .i64 3), .val (.int .i64 0), .val (.string s), .val (.int .i64 0), .list [t.row]]
  | .bn o a b => [.val (.int .i64 4), .val (.int .i64 0), .val (.string ⟨#[]⟩), .val (.int .i64 o), .list [a.row, b.row]]
abbrev T.row' (t : T) : List C := [.val (.int .i64 t.kind), .val (.int .i64 t.num), .val (.string t.name), .val (.int .i64 t.op), .list (t.args.map T.row)]
theorem T.row_eq (t : T) : t.row = t.row' := by cases t <;> rfl
def T.dep : T → Nat
  | .nu _ => 1
  | .nm _ => 1
  | .ix _ t => t.dep + 1
  | .bn _ a b => max a.dep b.dep + 1
theorem T.dep_args (t : T) : t.dep = (t.args.map T.dep).foldl max 0 + 1 := by cases t <;> simp [T.dep, T.args]
/-- The greatest of the first depths, each at most one more than a limit. -/
def mx (f : T → Nat) (l : List T) : Nat := l.foldl (fun m t => max m (f t)) 0
theorem mx_snoc (f : T → Nat) (l : List T) (t : T) : mx f (l ++ [t]) = max (mx f l) (f t) := by simp [mx]
def dl : Nat → T → Nat
  | 0, _ => 1
  | L + 1, t => mx (dl L) t.args + 1
theorem dl_eq : ∀ (L : Nat) (t : T), dl L t = min t.dep (L + 1)
  | 0, t => by have : 1 ≤ t.dep := by rw [T.dep_args]; omega
               simp only [dl]; omega
  | L + 1, t => by
    have h := dl_eq L
    cases t <;> simp only [dl, T.args, mx, List.foldl_nil, List.foldl_cons, T.dep, h] <;> omega
theorem dl_le (L : Nat) (t : T) : dl L t ≤ L + 1 := by rw [dl_eq]; omega
theorem mx_le {f : T → Nat} {B : Nat} (h : ∀ t, f t ≤ B) : ∀ l : List T, mx f l ≤ B := by
  intro l
  unfold mx
  have : ∀ (l : List T) (m : Nat), m ≤ B → l.foldl (fun m t => max m (f t)) m ≤ B := by
    intro l
    induction l with
    | nil => intro m hm; exact hm
    | cons t l ih => intro m hm; exact ih _ (by have := h t; show max m (f t) ≤ B; omega)
  exact this l 0 (Nat.zero_le _)
theorem Depth_c : ∀ (L : Nat) (t : T), L ≤ 1000 → Con Tryz.prog 47 [.row t.row', In .i64 (L : Int)] [] (fun K => K (In .i64 (dl L t : Int)) []) := by
  intro L
  induction L with
  | zero =>
    intro t _
    refine con_intro Tryz.func47 rfl rfl (Nat.le_of_ble_eq_true rfl) (fun c hc => R_ (o_ r_ (ci_ r_ (fun bx => E_ r_ (T_ (R_ (E_ r_ (T_ (am_ (R_ (M_ r_ (o_ r_ (bz_ r_ r_ (T_ (jc_condd rfl (fun h => by omega) (fun _ => as_ (al_ ?_)))))))))))))))))
    refine R_ (M_ r_ (o_ r_ (bj_ r_ r_ g_ (E_ r_ (T_ (ar_ (jq_ret1 rfl rfl [] rfl (fun K h => h))))))))
  | succ L ih =>
    intro t hL
    have eA : (t.args.map T.row).length = t.args.length := List.length_map _
    refine con_intro Tryz.func47 rfl rfl (Nat.le_of_ble_eq_true rfl) (fun c hc => R_ (o_ r_ (ci_ r_ (fun bx => E_ r_ (T_ (R_ (E_ r_ (T_ (am_ (R_ (M_ r_ (o_ r_ (bz_ r_ r_ (T_ (jc_condd rfl (fun _ => R_ (F_ r_ ?_)) (fun h => by omega))))))))))))))))
    refine L_ 0 r_ (o_ r_ (br_ r_ (fun hlen => M_ r_ (T_ (au_ (jc_loopS (ι := Nat) [] (fun k => k ≤ t.args.length) (fun k => [(1, In .i64 ((L + 1 : Nat) : Int)), (5, In .i64 (mx (dl L) (t.args.take k) : Int)), (11, .cell (.list (t.args.map T.row))), (12, In .i64 ((t.args.map T.row).length : Int)), (13, In .i64 (k : Int))]) (fun _ => []) (fun k => t.args.length - k) 0 (Nat.zero_le _) ?_ ?_ ?_))))))
    · exact sub_end
    · (repeat (first | exact True.intro | refine ⟨rfl, ?_⟩))
    · intro k hk
      refine jc_reset [(1, In .i64 ((L + 1 : Nat) : Int)), (5, In .i64 (mx (dl L) (t.args.take k) : Int)), (11, .cell (.list (t.args.map T.row))), (12, In .i64 ((t.args.map T.row).length : Int)), (13, In .i64 (k : Int))] [] ?_ ⟨[], [], rfl⟩ ?_
      · (repeat (first | exact True.intro | refine ⟨rfl, ?_⟩))
      refine R_ (o_ r_ (bw_ r_ r_ (T_ (am_ (jc_condd rfl (fun hlt => ?_) (fun hge => ?_))))))
      · have hlt' : k < t.args.length := by omega
        have hI : Con Tryz.prog 47 [.row (t.args[k]).row', In .i64 (((L + 1 : Nat) : Int) - 1)] [] (fun K => K (In .i64 (dl L t.args[k] : Int)) []) := by
          rw [show (((L + 1 : Nat) : Int) - 1) = (L : Int) by omega]
          exact ih _ g_
        refine as_ (al_ (B_ (R_ (o_ r_ (cc_ r_ r_ g_ (T.row_eq _) r_ b_ (o_ r_ (cr_ r_ r_ r_ (o_ r_ (bl_ r_ r_ (fun bl => S_ 0 r_ (T_ (an_ (M_ r_ (A_ 0 r_ (M_ r_ (o_ r_ (cg_ r_ r_ g_ (o_ r_ (bm_ r_ (hI) (o_ r_ (ck_ r_ r_ ?_)))))))))))))))))))))
        refine E_ r_ (ak_ (ay_ (al_ (an_ (o_ r_ (bj_ r_ r_ g_ (M_ r_ (ak_ (jq_againS (k + 1) g_ g_ ?_ ?_)))))))))
        · exact sub_end
        · rw [List.take_succ_eq_append_getElem hlt', mx_snoc, show ((max (mx (dl L) (t.args.take k)) (dl L t.args[k]) : Nat) : Int) = max (mx (dl L) (t.args.take k) : Int) (dl L t.args[k] : Int) by omega]
          (repeat (first | exact True.intro | refine ⟨rfl, ?_⟩))
      · obtain rfl : k = t.args.length := by omega
        have hm := mx_le (dl_le L) t.args
        rw [List.take_length]
        refine av_ (ax_ (ax_ (ba_ (al_ (R_ (M_ r_ (o_ r_ (bj_ r_ r_ g_ (E_ r_ (T_ (ar_ (jq_ret1 rfl rfl [] rfl (fun K h => h)))))))))))))

/-- The reference's: from a depth on, 21 where it is deeper than 20. -/
def rd : Nat → T → Nat
  | 0, _ => 21
  | F + 1, t => max (20 - F) (mx (rd F) t.args)
theorem rd_eq : ∀ (F : Nat) (t : T), F ≤ 20 → rd F t = min (t.dep + (20 - F)) 21
  | 0, t, _ => by have : 1 ≤ t.dep := by rw [T.dep_args]; omega
                  simp only [rd]; omega
  | F + 1, t, hF => by
    have h := fun t => rd_eq F t (by omega)
    cases t <;> simp only [rd, T.args, mx, List.foldl_nil, List.foldl_cons, T.dep, h] <;> omega
end Go.Proofs.YtamajcgdfjeehaaGreatDoor
end

section
namespace Go.Proofs.YtamajcgdfjeehaaGreatDoor
open Go.Vc
set_option maxHeartbeats 1000000

abbrev Ptr (b : Nat) : S := .cell (.val (.pointer (some ⟨b, 0, none⟩)))
abbrev Irow (n : Int) : List C := [.val (.int .i64 n)]
inductive Sm where
  | mk (kind : Int) (name : ByteArray) (index value : List T) (max label : Int) (thn els : List Sm)
mutual
def Sm.row : Sm → List C
  | .mk k n i v m l t e => [.val (.int .i64 k), .val (.string n), .list (i.map T.row), .list (v.map T.row), .val (.int .i64 m), .val (.int .i64 l), .list (Sm.rows t), .list (Sm.rows e)]
def Sm.rows : List Sm → List (List C)
  | [] => []
  | s :: l => s.row :: Sm.rows l
end
theorem Sm.rows_map : ∀ l : List Sm, Sm.rows l = l.map Sm.row
  | [] => rfl
  | s :: l => by simp [Sm.rows, Sm.rows_map l]
def Sm.kind : Sm → Int | .mk k _ _ _ _ _ _ _ => k
def Sm.name : Sm → ByteArray | .mk _ n _ _ _ _ _ _ => n
def Sm.index : Sm → List T | .mk _ _ i _ _ _ _ _ => i
def Sm.value : Sm → List T | .mk _ _ _ v _ _ _ _ => v
def Sm.max : Sm → Int | .mk _ _ _ _ m _ _ _ => m
def Sm.label : Sm → Int | .mk _ _ _ _ _ l _ _ => l
def Sm.thn : Sm → List Sm | .mk _ _ _ _ _ _ t _ => t
def Sm.els : Sm → List Sm | .mk _ _ _ _ _ _ _ e => e
abbrev Sm.row' (s : Sm) : List C := [.val (.int .i64 s.kind), .val (.string s.name), .list (s.index.map T.row), .list (s.value.map T.row), .val (.int .i64 s.max), .val (.int .i64 s.label), .list (s.thn.map Sm.row), .list (s.els.map Sm.row)]
theorem Sm.row_eq (s : Sm) : s.row = s.row' := by
  cases s
  simp [Sm.row, Sm.row', Sm.rows_map, Sm.kind, Sm.name, Sm.index, Sm.value, Sm.max, Sm.label, Sm.thn, Sm.els]
abbrev Inp := ByteArray × Int × Int
abbrev Shd := ByteArray × Int × ByteArray
abbrev Arr := ByteArray × Int
abbrev Md := ByteArray × ByteArray × Int × Int
abbrev Clm := Int × Int
abbrev InRow (x : Inp) : List C := [.val (.string x.1), .val (.int .i64 x.2.1), .val (.int .i64 x.2.2)]
abbrev ShRow (x : Shd) : List C := [.val (.string x.1), .val (.int .i64 x.2.1), .val (.string x.2.2)]
abbrev ArRow (x : Arr) : List C := [.val (.string x.1), .val (.int .i64 x.2)]
abbrev MdRow (x : Md) : List C := [.val (.string x.1), .val (.string x.2.1), .val (.int .i64 x.2.2.1), .val (.int .i64 x.2.2.2)]
abbrev ClRow (x : Clm) : List C := [.val (.int .i64 x.1), .val (.int .i64 x.2)]
structure Tk where
  name : ByteArray
  period : Int
  deadline : Int
  priority : Int
  jitter : Int
  inputs : List Inp
  vars : List ByteArray
  arrays : List Arr
  modes : List Md
  claims : List Clm
  body : List Sm
abbrev Tk.row (t : Tk) : List C := [.val (.string t.name), .val (.int .i64 t.period), .val (.int .i64 t.deadline), .val (.int .i64 t.priority), .val (.int .i64 t.jitter), .list (t.inputs.map InRow), .list (t.vars.map Wrow), .list (t.arrays.map ArRow), .list (t.modes.map MdRow), .list (t.claims.map ClRow), .list (t.body.map Sm.row)]
structure Pg where
  res : List ByteArray
  shared : List Shd
  tasks : List Tk
abbrev Pg.row (p : Pg) : List C := [.list (p.res.map Wrow), .list (p.shared.map ShRow), .list (p.tasks.map Tk.row)]
end Go.Proofs.YtamajcgdfjeehaaGreatDoor
end

section
namespace Go.Proofs.YtamajcgdfjeehaaGreatDoor
open Go.Vc
set_option maxHeartbeats 4000000
attribute [local irreducible] JL JC JQ OpWp Con ConN

/-- A deck: the list, and some place in it. -/
abbrev DkRow (L : List Int) : List C := [.list (L.map Irow), .ex (fun i : Fin (L.length + 1) => .val (.int .i64 (i.1 : Int)))]
abbrev Dk (b : Nat) (L : List Int) : Ch := .blk b 75 (DkRow L)

theorem gFew_c (a : List Int) : Con Tryz.prog 6 [.cell (.list (a.map Irow))] [] (fun K => K (Bl (decide (a.length ≤ 400))) []) := by
  refine con_intro Tryz.func6 rfl rfl (Nat.le_of_ble_eq_true rfl) (fun c hc => R_ (E_ r_ (T_ (R_ (M_ r_ (o_ r_ (br_ r_ (fun hlen => o_ r_ (cu_ r_ r_ (E_ r_ (T_ (ar_ (jq_ret1 rfl rfl [] rfl (fun K h => ?_))))))))))))))
  have e : decide (a.length ≤ 400) = decide (((a.map Irow).length : Int) ≤ 400) := by simp; omega
  rw [e] at h
  exact h

theorem gMod_c (n k : Int) (hk : 1 ≤ k ∧ k ≤ 1000000000) (_hn : -9223372036854775808 ≤ n ∧ n ≤ 9223372036854775807) : Con Tryz.prog 11 [In .i64 n, In .i64 k] [] (fun K => K (In .i64 (n % k)) []) := by
  have h1 := Int.tmod_lt_of_pos n (show 0 < k by omega)
  have h2 : -k < n.tmod k := by
    have := Int.tmod_lt_of_pos (-n) (show 0 < k by omega)
    rw [Int.neg_tmod] at this
    omega
  have e : (n.tmod k + k) % k = n % k := by
    rw [Int.add_emod_right, Int.tmod_eq_emod]
    split
    · rw [show (n % k - ((0 : Nat) : Int)) = n % k by omega]
      exact Int.emod_emod_of_dvd n (Int.dvd_refl k)
    · rw [Int.sub_emod, show ((k.natAbs : Int)) = k by omega, Int.emod_self, Int.sub_zero, Int.emod_emod_of_dvd _ (Int.dvd_refl k)]
      exact Int.emod_emod_of_dvd n (Int.dvd_refl k)
  refine con_intro Tryz.func11 rfl rfl (Nat.le_of_ble_eq_true rfl) (fun c hc => R_ (E_ r_ (T_ (R_ (M_ r_ (M_ r_ (o_ r_ (ch_ r_ r_ g_ (M_ r_ (o_ r_ (bj_ r_ r_ g_ (M_ r_ (o_ r_ (ow_rem64 r_ r_ g_ g_ (E_ r_ (T_ (ar_ (jq_ret1 rfl rfl [] rfl (fun K h => by rw [← e] at h; exact h)))))))))))))))))))
theorem gNew_c (L : List Int) : Con Tryz.prog 10 [.cell (.list (L.map Irow))] [] (fun K => ∀ b, K (Ptr b) [Dk b L]) := by
  refine con_intro Tryz.func10 rfl rfl (Nat.le_of_ble_eq_true rfl) (fun c hc => R_ (E_ r_ (T_ (R_ (M_ r_ (o_ r_ (bu_ r_ r_ r_ r_ r_ (o_ r_ (ci_ r_ (fun bx => E_ r_ (T_ (ar_ (jq_row 0 (DkRow L) rfl (.cons (.refl _) (.cons (.ex (fun i : Fin (L.length + 1) => .val (.int .i64 (i.1 : Int))) ⟨0, by omega⟩) .nil)) (jq_ret1 rfl rfl [0] rfl (fun K h => h bx)))))))))))))))

/-- A number from 0 to n - 1; 0 where n is less. -/
abbrev Upto (n : Int) : S := .ex (fun i : {i : Int // 0 ≤ i ∧ (i < n ∨ i = 0)} => In .i64 i.1)
theorem gNext_c (L : List Int) (b : Nat) (n : Int) (hL : ∀ x ∈ L, -9223372036854775808 ≤ x ∧ x ≤ 9223372036854775807) (hlen : L.length ≤ 400) (hn : n ≤ 1000000000) :
    Con Tryz.prog 48 [Ptr b, In .i64 n] [Dk b L] (fun K => K (Upto n) [Dk b L]) := by
  refine con_intro Tryz.func48 rfl rfl (Nat.le_of_ble_eq_true rfl) (fun c hc => jc_open 0 rfl (.there .here) (fun i => ?_))
  obtain ⟨i, hi⟩ := i
  dsimp only
  have fin : ∀ k : Nat, k ≤ L.length → RowLe [.list (L.map Irow), .val (.int .i64 (k : Int))] (DkRow L) := fun k hk => .cons (.refl _) (.cons (.ex (fun i : Fin (L.length + 1) => .val (.int .i64 (i.1 : Int))) ⟨k, by omega⟩) .nil)
  have up : ∀ k, 0 ≤ k ∧ (k < n ∨ k = 0) → SLe (In .i64 k) (Upto n) := fun k hk => SLe.ex (fun i : {i : Int // 0 ≤ i ∧ (i < n ∨ i = 0)} => In .i64 i.1) ⟨k, hk⟩
  by_cases hge : (((L.map Irow).length : Nat) : Int) ≤ (i : Int)
  · refine R_ (E_ r_ (T_ (am_ (am_ (ao_ r_ r_ k_ k_ (yM_ r_ (yN_ r_ (yF_ r_ (yL_ 0 r_ (yM_ r_ (yN_ r_ (yF_ r_ (yL_ 0 r_ (aa_ (fun c => br_ r_ (fun hlen => p_)) (aa_ (fun c => cn_ r_ r_ p_) ?_)))))))))))))))
    refine yM_ r_ (ac_ r_ u_ (ac_ r_ u_ (aa_ (fun c => bp_ r_ u_ r_ p_) (ae_ (al_ (jc_cond rfl (fun _ => R_ (E_ r_ (T_ (ar_ (aw_ (jq_row 0 _ rfl (fin i g_) (jq_sle 4 rfl (up 0 g_) (jq_ret1 rfl rfl [0] rfl (fun K h => h))))))))) (fun h => by cases h)))))))
  · by_cases hn1 : n ≤ 1
    · refine R_ (E_ r_ (T_ (am_ (am_ (ao_ r_ r_ k_ k_ (yM_ r_ (yN_ r_ (yF_ r_ (yL_ 0 r_ (yM_ r_ (yN_ r_ (yF_ r_ (yL_ 0 r_ (aa_ (fun c => br_ r_ (fun hlen => p_)) (aa_ (fun c => cn_ r_ r_ p_) ?_)))))))))))))))
      refine yM_ r_ (ab_ r_ w_ (fun c => bd_ r_ p_) (ab_ r_ w_ (fun c => cu_ r_ r_ p_) (aa_ (fun c => bv_ r_ w_ r_ p_) (ae_ (al_ (jc_condd rfl (fun _ => R_ (E_ r_ (T_ (ar_ (aw_ (jq_row 0 _ rfl (fin i g_) (jq_sle 4 rfl (up 0 g_) (jq_ret1 rfl rfl [0] rfl (fun K h => h))))))))) (fun h => absurd hn1 h)))))))
    · have hlt : i < L.length := by simp at hge; omega
      have hlt2 : ((i : Int) + 1 - 1).toNat < L.length := by omega
      have hr := hL L[((i : Int) + 1 - 1).toNat] (List.getElem_mem hlt2)
      have hm := Int.emod_nonneg L[((i : Int) + 1 - 1).toNat] (show n ≠ 0 by omega)
      have hm2 := Int.emod_lt_of_pos L[((i : Int) + 1 - 1).toNat] (show 0 < n by omega)
      refine R_ (E_ r_ (T_ (am_ (am_ (ao_ r_ r_ k_ k_ (yM_ r_ (yN_ r_ (yF_ r_ (yL_ 0 r_ (yM_ r_ (yN_ r_ (yF_ r_ (yL_ 0 r_ (aa_ (fun c => br_ r_ (fun hlen => p_)) (aa_ (fun c => cn_ r_ r_ p_) ?_)))))))))))))))
      refine yM_ r_ (ab_ r_ w_ (fun c => bd_ r_ p_) (ab_ r_ w_ (fun c => cu_ r_ r_ p_) (aa_ (fun c => bv_ r_ w_ r_ p_) (ae_ (al_ (jc_condd rfl (fun h => absurd h hn1) (fun _ => as_ (al_ (R_ (M_ r_ (N_ r_ (F_ r_ (L_ 0 r_ (o_ r_ (bj_ r_ r_ g_ (N_ r_ ?_))))))))))))))))
      refine F_ r_ (W_ 0 r_ (T_ (am_ (ao_ r_ r_ k_ k_ (yM_ r_ (yN_ r_ (yF_ r_ (yL_ 0 r_ (yM_ r_ (yN_ r_ (yF_ r_ (yL_ 0 r_ (aa_ (fun c => cg_ r_ r_ g_ p_) (aa_ (fun c => cv_ r_ r_ g_ g_ r_ r_ b_ p_) (aa_ (fun c => cb_ r_ r_ p_) ?_)))))))))))))))
      refine yM_ r_ (aa_ (fun c => bm_ r_ (gMod_c _ _ g_ hr) p_) (yE_ r_ (ae_ (al_ (ar_ (jq_row 0 _ rfl (fin (i + 1) g_) (jq_sle 4 rfl (up _ ⟨hm, .inl hm2⟩) (jq_ret1 rfl rfl [0] rfl (fun K h => h)))))))))

theorem gNum_c (n : Int) : Con Tryz.prog 14 [In .i64 n] [] (fun K => K (.row (T.nu n).row') []) := by
  refine con_intro Tryz.func14 rfl rfl (Nat.le_of_ble_eq_true rfl) (fun c hc => R_ (o_ r_ (bl_ r_ r_ (fun bl => T_ (R_ (M_ r_ (o_ r_ (bu_ r_ r_ r_ r_ r_ (S_ 0 r_ (T_ (ar_ (jq_row 0 (T.nu n).row' rfl ?_ ?_))))))))))))
  · (repeat (first | exact RowLe.nil | refine RowLe.cons (CLe.refl _) ?_ | refine RowLe.cons CLe.nil ?_))
  · refine jq_retRow rfl rfl rfl rfl 0 rfl [] rfl (fun K h => h)
theorem gName_c (s : ByteArray) : Con Tryz.prog 16 [Str s] [] (fun K => K (.row (T.nm s).row') []) := by
  refine con_intro Tryz.func16 rfl rfl (Nat.le_of_ble_eq_true rfl) (fun c hc => R_ (o_ r_ (bl_ r_ r_ (fun bl => T_ (R_ (M_ r_ (o_ r_ (bu_ r_ r_ r_ r_ r_ (S_ 0 r_ (T_ (ar_ (jq_row 0 (T.nm s).row' rfl ?_ ?_))))))))))))
  · (repeat (first | exact RowLe.nil | refine RowLe.cons (CLe.refl _) ?_ | refine RowLe.cons CLe.nil ?_))
  · refine jq_retRow rfl rfl rfl rfl 0 rfl [] rfl (fun K h => h)
theorem gBin_c (o : Int) (a b : T) : Con Tryz.prog 15 [In .i64 o, .row a.row', .row b.row'] [] (fun K => K (.row (T.bn o a b).row') []) := by
  refine con_intro Tryz.func15 rfl rfl (Nat.le_of_ble_eq_true rfl) (fun c hc => R_ (o_ r_ (ci_ r_ (fun bx => o_ r_ (ci_ r_ (fun bx => o_ r_ (bl_ r_ r_ (fun bl => T_ (R_ (M_ r_ (A_ 2 r_ (A_ 1 r_ (o_ r_ (bq_ r_ r_ b_ r_ r_ b_ (o_ r_ (bu_ r_ r_ r_ r_ r_ (S_ 0 r_ (T_ (ar_ (jq_row 0 (T.bn o a b).row' rfl ?_ ?_))))))))))))))))))))
  · (repeat (first | exact RowLe.nil | refine RowLe.cons (CLe.refl _) ?_ | refine RowLe.cons CLe.nil ?_))
    exact RowLe.cons (CLe.eq (by simp [T.row_eq, T.args])) .nil
  · refine jq_retRow rfl rfl rfl rfl 0 rfl [] rfl (fun K h => h)

abbrev InR (L : List Int) : Prop := ∀ x ∈ L, -9223372036854775808 ≤ x ∧ x ≤ 9223372036854775807
theorem Nx_c {L : List Int} {b : Nat} (n : Int) (hL : InR L) (hLn : L.length ≤ 400) (hn : n ≤ 1000000000) :
    Con Tryz.prog 48 [Ptr b, In .i64 n] [Dk b L] (fun K => ∀ i : Int, (0 ≤ i ∧ (i < n ∨ i = 0)) → K (In .i64 i) [Dk b L]) :=
  con_exP (gNext_c L b n hL hLn hn)

theorem gOp_c {L : List Int} {b : Nat} (hL : InR L) (hLn : L.length ≤ 400) :
    Con Tryz.prog 168 [Ptr b] [Dk b L] (fun K => ∀ i : Int, (1 ≤ i ∧ i ≤ 14) → K (In .i64 i) [Dk b L]) := by
  refine con_intro Tryz.func168 rfl rfl (Nat.le_of_ble_eq_true rfl) (fun c hc => R_ (E_ r_ (T_ (R_ (M_ r_ (o_ r_ (bt_ [0] rfl rfl (Nx_c _ hL hLn g_) (fun i hi => o_ r_ (bj_ r_ r_ g_ (E_ r_ (T_ (ar_ (jq_ret1 rfl rfl [0] rfl (fun K h => h (1 + i) g_))))))))))))))

theorem gWord_c {L : List Int} {b : Nat} (hL : InR L) (hLn : L.length ≤ 400) :
    Con Tryz.prog 167 [Ptr b] [Dk b L] (fun K => ∀ i : Int, (-2147483648 ≤ i ∧ i ≤ 2147483647) → K (In .i64 i) [Dk b L]) := by
  refine con_intro Tryz.func167 rfl rfl (Nat.le_of_ble_eq_true rfl) (fun c hc => R_ (E_ r_ (T_ (am_ (R_ (M_ r_ (o_ r_ (bt_ [0] rfl rfl (Nx_c _ hL hLn g_) (fun k hk => T_ (au_ (R_ (o_ r_ (bn_ r_ r_ (E_ r_ (T_ (jc_condd rfl (fun h0 => ?_) (fun h0 => ?_)))))))))))))))))
  · refine R_ (M_ r_ (o_ r_ (bt_ [0] rfl rfl (Nx_c _ hL hLn g_) (fun i hi => o_ r_ (cy_ r_ g_ (E_ r_ (T_ (ar_ (az_ (aw_ (jq_ret1 rfl rfl [0] rfl (fun K h => h _ g_))))))))))))
  refine R_ (o_ r_ (bn_ r_ r_ (E_ r_ (T_ (jc_condd rfl (fun h1 => ?_) (fun h1 => ?_))))))
  · refine R_ (M_ r_ (o_ r_ (bt_ [0] rfl rfl (Nx_c _ hL hLn g_) (fun i hi => o_ r_ (cg_ r_ r_ g_ (E_ r_ (T_ (ar_ (az_ (aw_ (jq_ret1 rfl rfl [0] rfl (fun K h => h _ g_))))))))))))
  refine R_ (o_ r_ (bn_ r_ r_ (E_ r_ (T_ (jc_condd rfl (fun h2 => ?_) (fun h2 => ?_))))))
  · refine R_ (M_ r_ (o_ r_ (bt_ [0] rfl rfl (Nx_c _ hL hLn g_) (fun i hi => o_ r_ (bj_ r_ r_ g_ (E_ r_ (T_ (ar_ (az_ (aw_ (jq_ret1 rfl rfl [0] rfl (fun K h => h _ g_))))))))))))
  refine R_ (o_ r_ (bn_ r_ r_ (E_ r_ (T_ (jc_condd rfl (fun h3 => ?_) (fun h3 => ?_))))))
  · refine R_ (M_ r_ (o_ r_ (bt_ [0] rfl rfl (Nx_c _ hL hLn g_) (fun i hi => ?_))))
    have h5 : (0 : Int) ≤ 1 * 2 ^ i.toNat ∧ (1 : Int) * 2 ^ i.toNat ≤ 1073741824 := by
      have h6 : (2 : Nat) ^ i.toNat ≤ 2 ^ 30 := Nat.pow_le_pow_right (by omega) (by omega)
      have h7 : ((2 ^ i.toNat : Nat) : Int) = (2 : Int) ^ i.toNat := by simp
      have h8 : (0 : Int) ≤ (2 : Int) ^ i.toNat := h7 ▸ Int.natCast_nonneg _
      omega
    refine o_ r_ (ow_convU64 r_ r_ r_ g_ (o_ r_ (ow_shl64 r_ r_ g_ g_ (E_ r_ (T_ (ar_ (az_ (aw_ (jq_ret1 rfl rfl [0] rfl (fun K h => h _ g_))))))))))
  · refine as_ (ay_ (al_ (R_ (M_ r_ (o_ r_ (bt_ [0] rfl rfl (Nx_c _ hL hLn g_) (fun i hi => E_ r_ (T_ (ar_ (jq_ret1 rfl rfl [0] rfl (fun K h => h _ g_)))))))))))

/-- The deck, the variables, the slice of the loops under way, the arrays, the shared arrays, what is held, labels, statements left, loops under way. -/
abbrev MkRow (bd : Nat) (V : List ByteArray) (lv : Value) (A : List ByteArray) (Sh : List Shd) (hs : ByteArray) (lab st il : Int) : List C :=
  [.val (.pointer (some ⟨bd, 0, none⟩)), .list (V.map Wrow), .val lv, .list (A.map Wrow), .list (Sh.map ShRow), .val (.string hs), .val (.int .i64 lab), .val (.int .i64 st), .val (.int .i64 il)]
abbrev Mk (bm bd : Nat) (V : List ByteArray) (lv : Value) (A : List ByteArray) (Sh : List Shd) (hs : ByteArray) (lab st il : Int) : Ch := .blk bm 150 (MkRow bd V lv A Sh hs lab st il)

theorem gname_c {L : List Int} {bm bd : Nat} {V A : List ByteArray} {lv : Value} {Sh : List Shd} {hs : ByteArray} {lab st il : Int} (hL : InR L) (hLn : L.length ≤ 400) (l : List ByteArray) (h0 : 0 < l.length) (h1 : l.length ≤ 1000) :
    Con Tryz.prog 151 [Ptr bm, .cell (.list (l.map Wrow))] [Mk bm bd V lv A Sh hs lab st il, Dk bd L] (fun K => ∀ s : ByteArray, s ∈ l → K (Str s) [Mk bm bd V lv A Sh hs lab st il, Dk bd L]) := by
  refine con_intro Tryz.func151 rfl rfl (Nat.le_of_ble_eq_true rfl) (fun c hc => R_ (E_ r_ (T_ (R_ (M_ r_ (M_ r_ (N_ r_ (F_ r_ (L_ 0 r_ (M_ r_ (o_ r_ (br_ r_ (fun hlen => o_ r_ (bt_ [1] rfl rfl (Nx_c _ hL hLn (by simp; omega)) (fun i hi => ?_)))))))))))))))
  simp only [List.length_map] at hi
  refine o_ r_ (cv_ r_ r_ g_ g_ r_ r_ b_ (o_ r_ (cb_ r_ r_ (E_ r_ (T_ (ar_ (jq_ret1 rfl rfl [1, 0] rfl (fun K h => h _ (List.getElem_mem _)))))))))
end Go.Proofs.YtamajcgdfjeehaaGreatDoor
end

section
namespace Go.Proofs.YtamajcgdfjeehaaGreatDoor
open Go.Vc
set_option maxHeartbeats 4000000
attribute [local irreducible] JL JC JQ OpWp Con ConN


def usableF (A : List ByteArray) (Sh : List Shd) (hs : ByteArray) : List ByteArray := A ++ Sh.filterMap fun s => if s.2.2 = hs then some s.1 else none
theorem usable_len (A : List ByteArray) (Sh : List Shd) (hs : ByteArray) : (usableF A Sh hs).length ≤ A.length + Sh.length := by
  unfold usableF
  rw [List.length_append]
  have := List.length_filterMap_le (fun s : Shd => if s.2.2 = hs then some s.1 else none) Sh
  omega
/-- An expression of at most a depth, of some variables, arrays. -/
inductive ExG (V U : List ByteArray) : Nat → T → Prop
  | nu (d : Nat) (n : Int) (h : -2147483647 ≤ n ∧ n ≤ 2147483647) : ExG V U d (.nu n)
  | nm (d : Nat) (s : ByteArray) (h : s ∈ V) : ExG V U d (.nm s)
  | ix (d : Nat) (s : ByteArray) (t : T) (h : s ∈ U) (ht : ExG V U d t) : ExG V U (d + 1) (.ix s t)
  | bn (d : Nat) (o : Int) (a b : T) (ho : 1 ≤ o ∧ o ≤ 14) (ha : ExG V U d a) (hb : ExG V U d b) : ExG V U (d + 1) (.bn o a b)
theorem ExG.pos {x : Int} (h : 0 < x) : x.toNat = (x - 1).toNat + 1 := by omega
section
variable {L : List Int} {bm bd : Nat} {V A LS : List ByteArray} {lv : Value} {Sh : List Shd} {hs : ByteArray} {lab st il : Int}

theorem gusable_c (hA : A.length ≤ 100) (hSh : Sh.length ≤ 100) :
    Con Tryz.prog 150 [Ptr bm] [Mk bm bd V lv A Sh hs lab st il] (fun K => K (.cell (.list ((usableF A Sh hs).map Wrow))) [Mk bm bd V lv A Sh hs lab st il]) := by
  have eS : (Sh.map ShRow).length = Sh.length := List.length_map _
  refine con_intro Tryz.func150 rfl rfl (Nat.le_of_ble_eq_true rfl) (fun c hc => R_ (E_ r_ (T_ (R_ (o_ r_ (ow_buildSliceOwn rfl rfl b_ rfl rfl b_ (fun v0 hv0 fv0 => M_ r_ (N_ r_ (F_ r_ (L_ 1 r_ (o_ r_ (ow_appendM (f := Wrow) (l1 := []) (l2 := A) 0 rfl rfl rfl rfl rfl rfl rfl (fun _ => rfl) (by show (0 + _) * 16 ≤ _; omega) (by simp; omega) (fun v1 hv1 => E_ r_ (T_ (am_ (R_ (E_ r_ ?_)))))))))))))))))
  refine T_ (au_ (jc_loopS (ι := Nat × Value) [] (fun i => i.1 ≤ Sh.length) (fun i => [(0, Ptr bm), (3, .cell (.val i.2)), (4, In .i64 (i.1 : Int))]) (fun i => [.own i.2 9 1 ((usableF A (Sh.take i.1) hs).map Wrow), Mk bm bd V lv A Sh hs lab st il]) (fun i => Sh.length - i.1) (0, v1) (Nat.zero_le _) ?_ ?_ ?_))
  · rw [show usableF A (Sh.take 0) hs = A by simp [usableF]]
    exact bc_ 0 r_ (bc_ 0 r_ sub_end)
  · (repeat (first | exact True.intro | refine ⟨rfl, ?_⟩))
  rintro ⟨k, v⟩ hk
  dsimp only at hk ⊢
  have hlen := usable_len A (Sh.take k) hs
  have htk : (Sh.take k).length ≤ k := by rw [List.length_take]; omega
  refine jc_reset [(0, Ptr bm), (3, .cell (.val v)), (4, In .i64 (k : Int))] [.own v 9 1 ((usableF A (Sh.take k) hs).map Wrow), Mk bm bd V lv A Sh hs lab st il] ?_ ⟨[0, 0], [], rfl⟩ ?_
  · (repeat (first | exact True.intro | refine ⟨rfl, ?_⟩))
  by_cases hlt : k < Sh.length
  · have hlt' : (k : Int) < ((Sh.map ShRow).length : Int) := by omega
    by_cases he : Sh[k].2.2 = hs
    · have e2 : usableF A (Sh.take (k + 1)) hs = usableF A (Sh.take k) hs ++ [Sh[k].1] := by
        unfold usableF
        rw [List.take_succ_eq_append_getElem hlt, List.filterMap_append, List.append_assoc]
        simp [he]
      refine am_ (R_ (M_ r_ (M_ r_ (N_ r_ (F_ r_ (L_ 1 r_ (o_ r_ (br_ r_ (fun hlen => o_ r_ (bw_ r_ r_ (T_ (aq_ r_ u_ (as_ (al_ (B_ (am_ (ao_ r_ r_ k_ k_ ?_)))))))))))))))))
      refine yM_ r_ (yN_ r_ (yF_ r_ (yL_ 1 r_ (yM_ r_ (aa_ (fun c => cc_ r_ r_ g_ r_ r_ b_ p_) (aa_ (fun c => cf_ r_ r_ r_ b_ r_ b_ p_) (aa_ (fun c => cb_ r_ r_ p_) (yM_ r_ (yN_ r_ (yF_ r_ (yL_ 1 r_ (aa_ (fun c => cs_ r_ r_ p_) (ae_ (al_ (aq_ r_ u_ ?_)))))))))))))))
      refine an_ (M_ r_ (M_ r_ (N_ r_ (F_ r_ (L_ 1 r_ (M_ r_ (o_ r_ (cc_ r_ r_ g_ r_ r_ b_ (o_ r_ (cf_ r_ r_ r_ b_ r_ b_ (o_ r_ (cf_ r_ r_ r_ b_ r_ b_ (o_ r_ (cb_ r_ r_ (o_ r_ (bq_ r_ r_ b_ r_ r_ b_ ?_))))))))))))))))
      refine o_ r_ (ow_append1 0 (Sh[k].1) rfl rfl rfl rfl rfl rfl rfl (fun _ => rfl) (by show (_ + _) * 16 ≤ _; first | omega | (simp only [List.length_append]; omega)) (by first | omega | (simp only [List.length_append]; omega)) (fun v2 hv2 => E_ r_ (ak_ (ay_ (al_ (an_ (M_ r_ (o_ r_ (bj_ r_ r_ g_ (E_ r_ (ak_ (jq_againS (i := (k, v)) ((k + 1, v2) : Nat × Value) hlt (by dsimp only; omega) ?_ ?_))))))))))))
      · rw [e2]
        exact bc_ 0 r_ (bc_ 0 r_ sub_end)
      · (repeat (first | exact True.intro | refine ⟨rfl, ?_⟩))
    · have e2 : usableF A (Sh.take (k + 1)) hs = usableF A (Sh.take k) hs := by
        unfold usableF
        rw [List.take_succ_eq_append_getElem hlt, List.filterMap_append]
        simp [he]
      refine am_ (R_ (M_ r_ (M_ r_ (N_ r_ (F_ r_ (L_ 1 r_ (o_ r_ (br_ r_ (fun hlen => o_ r_ (bw_ r_ r_ (T_ (aq_ r_ u_ (as_ (al_ (B_ (am_ (ao_ r_ r_ k_ k_ ?_)))))))))))))))))
      refine yM_ r_ (yN_ r_ (yF_ r_ (yL_ 1 r_ (yM_ r_ (aa_ (fun c => cc_ r_ r_ g_ r_ r_ b_ p_) (aa_ (fun c => cf_ r_ r_ r_ b_ r_ b_ p_) (aa_ (fun c => cb_ r_ r_ p_) (yM_ r_ (yN_ r_ (yF_ r_ (yL_ 1 r_ (aa_ (fun c => cs_ r_ r_ p_) (ae_ (al_ (ap_ r_ w_ ?_)))))))))))))))
      refine as_ (ay_ (al_ (an_ (M_ r_ (o_ r_ (bj_ r_ r_ g_ (E_ r_ (ak_ (jq_againS (i := (k, v)) ((k + 1, v) : Nat × Value) hlt (by dsimp only; omega) ?_ ?_)))))))))
      · rw [e2]
        exact bc_ 0 r_ (bc_ 0 r_ sub_end)
      · (repeat (first | exact True.intro | refine ⟨rfl, ?_⟩))
  · have hlt' : ¬ (k : Int) < ((Sh.map ShRow).length : Int) := by omega
    have e2 : Sh.take k = Sh := List.take_of_length_le (by omega)
    rw [e2]
    refine am_ (R_ (M_ r_ (M_ r_ (N_ r_ (F_ r_ (L_ 1 r_ (o_ r_ (br_ r_ (fun hlen => o_ r_ (bw_ r_ r_ (T_ (ap_ r_ w_ (av_ (ax_ (ax_ (ba_ (al_ ?_)))))))))))))))))
    refine R_ (M_ r_ (E_ r_ (T_ (ar_ (jq_freeze 2 0 rfl rfl (by rw [hc]; simp [hb]) (jq_ret1 rfl rfl [0] rfl (fun K h => h)))))))
theorem gtarget_c (hL : InR L) (hLn : L.length ≤ 400) (hV0 : 0 < V.length) (hV : V.length ≤ 100) (hLS : LS.length ≤ 100) :
    Con Tryz.prog 155 [Ptr bm] [Mk bm bd V lv A Sh hs lab st il, Dk bd L, .own lv 9 1 (LS.map Wrow)] (fun K => ∀ s : ByteArray, s ∈ V → K (Str s) [Mk bm bd V lv A Sh hs lab st il, Dk bd L, .own lv 9 1 (LS.map Wrow)]) := by
  have eV : (V.map Wrow).length = V.length := List.length_map _
  refine con_intro Tryz.func155 rfl rfl (Nat.le_of_ble_eq_true rfl) (fun c hc => R_ (E_ r_ (T_ (R_ (M_ r_ (M_ r_ (N_ r_ (F_ r_ (L_ 0 r_ (o_ r_ (bt_ [0, 0] rfl rfl (gname_c hL hLn V hV0 g_) (fun s hs1 => E_ r_ (T_ (am_ (R_ (E_ r_ ?_))))))))))))))))
  refine T_ (au_ (jc_loop [0, 3] (fun k => k ≤ LS.length) (fun k => [(4, In .i64 (k : Int))]) (fun _ => [Mk bm bd V lv A Sh hs lab st il, Dk bd L, .own lv 9 1 (LS.map Wrow)]) (fun k => LS.length - k) 0 [0, 0, 0] (Nat.zero_le _) rfl ?_ ?_))
  · (repeat (first | exact True.intro | refine ⟨rfl, ?_⟩))
  · intro k hk
    refine am_ (R_ (M_ r_ (M_ r_ (N_ r_ (F_ r_ (L_ 0 r_ (o_ r_ (cw_ 2 r_ r_ (fun hlen => o_ r_ (bw_ r_ r_ (T_ (jc_condd rfl (fun hlt => ?_) (fun hge => ?_)))))))))))))
    · simp only [List.length_map, Int.ofNat_lt] at hlt
      refine as_ (al_ (B_ (R_ (M_ r_ (N_ r_ (F_ r_ (L_ 0 r_ (M_ r_ (o_ r_ (dc_ 2 rfl rfl rfl g_ (by simp only [List.length_map]; omega) rfl (o_ r_ (db_ 2 r_ r_ r_ g_ r_ (M_ r_ (o_ r_ (cs_ r_ r_ (T_ (jc_condd rfl (fun he => ?_) (fun hne => ?_))))))))))))))))))
      · refine am_ (ao_ r_ r_ k_ k_ (yM_ r_ (yN_ r_ (yF_ r_ (yL_ 0 r_ (yM_ r_ (yN_ r_ (yF_ r_ (yL_ 0 r_ (aa_ (fun c => br_ r_ (fun hlen => p_)) (aa_ (fun c => cg_ r_ r_ g_ p_) (aa_ (fun c => cv_ r_ r_ g_ g_ r_ r_ b_ p_) (aa_ (fun c => cb_ r_ r_ p_) (yE_ r_ (ae_ ?_)))))))))))))))
        refine al_ (ar_ (az_ (aw_ (aw_ (az_ (aw_ (jq_ret1 rfl rfl [0, 0, 0] rfl (fun K h => h _ (List.getElem_mem _)))))))))
      · refine as_ (ay_ (al_ (an_ (M_ r_ (o_ r_ (bj_ r_ r_ g_ (E_ r_ (ak_ (jq_again (k + 1) [0, 0, 0] hlt g_ rfl ?_)))))))))
        (repeat (first | exact True.intro | refine ⟨rfl, ?_⟩))
    · refine av_ (ax_ (ax_ (ba_ (al_ (R_ (M_ r_ (E_ r_ (T_ (ar_ (jq_ret1 rfl rfl [0, 0, 0] rfl (fun K h => h _ hs1)))))))))))

theorem gexpr_step (hL : InR L) (hLn : L.length ≤ 400) (hV0 : 0 < V.length) (hV : V.length ≤ 100) (hA : A.length ≤ 100) (hSh : Sh.length ≤ 100) (d : Int) (hd0 : -100 ≤ d) (hd1 : d ≤ 100)
    (ih : 0 < d → Con Tryz.prog 152 [Ptr bm, In .i64 (d - 1)] [Mk bm bd V lv A Sh hs lab st il, Dk bd L] (fun K => ∀ e : T, ExG V (usableF A Sh hs) (d - 1).toNat e → K (.row e.row') [Mk bm bd V lv A Sh hs lab st il, Dk bd L])) :
    Con Tryz.prog 152 [Ptr bm, In .i64 d] [Mk bm bd V lv A Sh hs lab st il, Dk bd L] (fun K => ∀ e : T, ExG V (usableF A Sh hs) d.toNat e → K (.row e.row') [Mk bm bd V lv A Sh hs lab st il, Dk bd L]) := by
  refine con_intro Tryz.func152 rfl rfl (Nat.le_of_ble_eq_true rfl) (fun c hc => R_ (o_ r_ (bl_ r_ r_ (fun bl => T_ (R_ (M_ r_ (N_ r_ (F_ r_ (L_ 1 r_ (o_ r_ (bt_ [2] rfl rfl (Nx_c _ hL hLn g_) (fun k0 hk0 => E_ r_ (T_ (am_ (R_ (M_ r_ (o_ r_ (cu_ r_ r_ ?_))))))))))))))))))
  refine T_ ?_
  have ht : 0 ≤ k0 % 3 ∧ k0 % 3 ≤ 2 := by omega
  refine jc_cut (ι := Int) [0, 1, 4] (fun k => 0 ≤ k ∧ k ≤ 5 ∧ (d ≤ 0 → k ≤ 2)) (fun k => [(5, In .i64 k)]) (fun _ => [Mk bm bd V lv A Sh hs lab st il, Dk bd L, .blk bl 59 [.val (.int .i64 0), .val (.int .i64 0), .val (.string ⟨#[]⟩), .val (.int .i64 0), .val (.slice none 0 0)]]) ?_ ?_
  · refine jc_condd rfl (fun hd => ?_) (fun hd => ?_)
    · refine an_ (M_ r_ (o_ r_ (ow_rem64 r_ r_ g_ g_ (E_ r_ (ak_ (jq_cut (k0 % 3) [2, 0, 0] ⟨ht.1, by omega, fun _ => ht.2⟩ rfl ?_))))))
      (repeat (first | exact True.intro | refine ⟨rfl, ?_⟩))
    · refine as_ (jq_cut k0 [2, 0, 0] ⟨hk0.1, by omega, fun h => absurd h hd⟩ rfl ?_)
      (repeat (first | exact True.intro | refine ⟨rfl, ?_⟩))
  · intro k ⟨hka, hkb, hkd⟩
    refine am_ (R_ (M_ r_ (T_ (au_ (R_ (o_ r_ (bn_ r_ r_ (E_ r_ (T_ (jc_condd rfl (fun h0 => ?_) (fun h0 => ?_)))))))))))
    · refine R_ (M_ r_ (N_ r_ (F_ r_ (L_ 0 r_ (o_ r_ (bt_ [1] rfl rfl (Nx_c _ hL hLn g_) (fun n1 hn1 => E_ r_ (T_ (am_ (R_ (M_ r_ (N_ r_ (F_ r_ (L_ 1 r_ (o_ r_ (bt_ [0] rfl rfl (Nx_c _ hL hLn g_) (fun n2 hn2 => o_ r_ (bn_ r_ r_ ?_))))))))))))))))))
      refine T_ (jc_cut (ι := Int) [0, 1, 4] (fun k => -2147483647 ≤ k ∧ k ≤ 2147483647) (fun k => [(6, In .i64 k)]) (fun _ => [Mk bm bd V lv A Sh hs lab st il, Dk bd L, .blk bl 59 [.val (.int .i64 0), .val (.int .i64 0), .val (.string ⟨#[]⟩), .val (.int .i64 0), .val (.slice none 0 0)]]) ?_ ?_)
      · refine jc_condd rfl (fun _ => ?_) (fun _ => ?_)
        · refine an_ (M_ r_ (N_ r_ (F_ r_ (L_ 1 r_ (o_ r_ (bt_ [0] rfl rfl (gWord_c hL hLn) (fun n3 hn3 => o_ r_ (ck_ r_ r_ (E_ r_ (ak_ (jq_cut (max (-2147483647) n3) [1, 0, 0] g_ rfl ?_)))))))))))
          (repeat (first | exact True.intro | refine ⟨rfl, ?_⟩))
        · refine as_ (jq_cut n1 [1, 0, 0] g_ rfl ?_)
          (repeat (first | exact True.intro | refine ⟨rfl, ?_⟩))
      · intro n3 hn3
        refine R_ (M_ r_ (o_ r_ (bm_ r_ (gNum_c _) (S_ 2 r_ (T_ (ar_ (az_ (aw_ (jq_retRow rfl rfl rfl rfl 0 rfl [1, 1] rfl (fun K h => h _ (.nu _ _ hn3)))))))))))
    · refine R_ (o_ r_ (bn_ r_ r_ (E_ r_ (T_ (jc_condd rfl (fun h3 => ?_) (fun h3 => ?_))))))
      · refine R_ (M_ r_ ?_)
        have hU := usable_len A Sh hs
        refine o_ r_ (bi_ [0] r_ r_ (gusable_c hA hSh) (E_ r_ (T_ (R_ (M_ r_ (o_ r_ (br_ r_ (fun hlen => o_ r_ (bz_ r_ r_ (T_ (jc_condd rfl (fun hp => ?_) (fun hp => ?_))))))))))))
        · simp only [List.length_map] at hp
          refine R_ (M_ r_ (M_ r_ (o_ r_ (bt_ [0, 0] rfl rfl (gname_c hL hLn (usableF A Sh hs) g_ g_) (fun s hs1 => M_ r_ (M_ r_ (o_ r_ (cg_ r_ r_ g_ (o_ r_ (bt_ [0, 0] rfl rfl (ih g_) (fun e1 he1 => o_ r_ (bq_ r_ r_ b_ r_ r_ b_ (o_ r_ (bu_ r_ r_ r_ r_ r_ (S_ 2 r_ (T_ (ar_ (az_ (aw_ (jq_row 0 (T.ix s e1).row' rfl ?_ ?_))))))))))))))))))))
          · (repeat (first | exact RowLe.nil | refine RowLe.cons (CLe.refl _) ?_ | refine RowLe.cons CLe.nil ?_))
            exact RowLe.cons (CLe.eq (by simp [T.row_eq, T.args])) .nil
          · refine jq_retRow rfl rfl rfl rfl 0 rfl [1, 1] rfl (fun K h => h _ (by rw [ExG.pos (x := d) g_]; exact .ix _ _ _ hs1 he1))
        · refine as_ (ay_ (al_ (R_ (M_ r_ (M_ r_ (N_ r_ (F_ r_ (L_ 0 r_ (o_ r_ (bt_ [0, 0] rfl rfl (gname_c hL hLn V hV0 g_) (fun s hs1 => o_ r_ (bm_ r_ (gName_c _) (S_ 2 r_ (T_ (ar_ (jq_retRow rfl rfl rfl rfl 0 rfl [1, 1] rfl (fun K h => h _ (.nm _ _ hs1))))))))))))))))))
      · refine am_ (R_ (o_ r_ (bn_ r_ r_ (E_ r_ (T_ (jc_condd rfl (fun h4 => ?_) (fun h4 => ?_)))))))
        · refine as_ (al_ (jc_condd rfl (fun _ => R_ (M_ r_ (N_ r_ (F_ r_ (L_ 0 r_ (o_ r_ (bt_ [1] rfl rfl (gOp_c hL hLn) (fun o ho => M_ r_ (M_ r_ (o_ r_ (cg_ r_ r_ g_ (o_ r_ (bt_ [1, 0] rfl rfl (ih g_) (fun e1 he1 => M_ r_ (M_ r_ (o_ r_ (cg_ r_ r_ g_ ?_))))))))))))))))) (fun h => absurd h4 h)))
          refine o_ r_ (bt_ [0, 0] rfl rfl (ih g_) (fun e2 he2 => o_ r_ (bm_ r_ (gBin_c _ _ _) (S_ 2 r_ (T_ (ar_ (az_ (aw_ (jq_retRow rfl rfl rfl rfl 0 rfl [1, 1] rfl (fun K h => h _ (by rw [ExG.pos (x := d) g_]; exact .bn _ _ _ _ ho he1 he2)))))))))))
        · refine an_ (o_ r_ (bn_ r_ r_ (E_ r_ (T_ (jc_condd rfl (fun h5 => ?_) (fun h5 => ?_))))))
          · refine R_ (M_ r_ (N_ r_ (F_ r_ (L_ 0 r_ (o_ r_ (bt_ [1] rfl rfl (gOp_c hL hLn) (fun o ho => M_ r_ (M_ r_ (o_ r_ (cg_ r_ r_ g_ (o_ r_ (bt_ [1, 0] rfl rfl (ih g_) (fun e1 he1 => M_ r_ (M_ r_ (o_ r_ (cg_ r_ r_ g_ (o_ r_ (bt_ [0, 0] rfl rfl (ih g_) (fun e2 he2 => o_ r_ (bm_ r_ (gBin_c _ _ _) (S_ 2 r_ ?_)))))))))))))))))))))
            refine T_ (ar_ (az_ (aw_ (jq_retRow rfl rfl rfl rfl 0 rfl [1, 1] rfl (fun K h => h _ (by rw [ExG.pos (x := d) g_]; exact .bn _ _ _ _ ho he1 he2))))))
          · refine as_ (ay_ (al_ (R_ (M_ r_ (M_ r_ (N_ r_ (F_ r_ (L_ 0 r_ (o_ r_ (bt_ [0, 0] rfl rfl (gname_c hL hLn V hV0 g_) (fun s hs1 => o_ r_ (bm_ r_ (gName_c _) (S_ 2 r_ (T_ (ar_ (jq_retRow rfl rfl rfl rfl 0 rfl [1, 1] rfl (fun K h => h _ (.nm _ _ hs1))))))))))))))))))

theorem gexpr_c (hL : InR L) (hLn : L.length ≤ 400) (hV0 : 0 < V.length) (hV : V.length ≤ 100) (hA : A.length ≤ 100) (hSh : Sh.length ≤ 100) : ∀ (n : Nat) (d : Int), d ≤ n → -100 ≤ d → n ≤ 100 →
    Con Tryz.prog 152 [Ptr bm, In .i64 d] [Mk bm bd V lv A Sh hs lab st il, Dk bd L] (fun K => ∀ e : T, ExG V (usableF A Sh hs) d.toNat e → K (.row e.row') [Mk bm bd V lv A Sh hs lab st il, Dk bd L])
  | 0, d, h1, h2, _ => gexpr_step hL hLn hV0 hV hA hSh d h2 (by omega) (fun h => by omega)
  | n + 1, d, h1, h2, h3 => gexpr_step hL hLn hV0 hV hA hSh d h2 (by omega) (fun h => gexpr_c hL hLn hV0 hV hA hSh n (d - 1) (by omega) (by omega) (by omega))
end
end Go.Proofs.YtamajcgdfjeehaaGreatDoor
end

section
namespace Go.Proofs.YtamajcgdfjeehaaGreatDoor
open Go.Vc
set_option maxHeartbeats 4000000
attribute [local irreducible] JL JC JQ OpWp Con ConN


section
variable {L : List Int} {bm bd : Nat} {V A LS : List ByteArray} {lv : Value} {Sh : List Shd} {hs : ByteArray} {lab st il : Int}

theorem gcondition_c (hL : InR L) (hLn : L.length ≤ 400) (hV0 : 0 < V.length) (hV : V.length ≤ 100) (hA : A.length ≤ 100) (hSh : Sh.length ≤ 100) :
    Con Tryz.prog 153 [Ptr bm] [Mk bm bd V lv A Sh hs lab st il, Dk bd L] (fun K => ∀ e : T, ExG V (usableF A Sh hs) 2 e → K (.row e.row') [Mk bm bd V lv A Sh hs lab st il, Dk bd L]) := by
  refine con_intro Tryz.func153 rfl rfl (Nat.le_of_ble_eq_true rfl) (fun c hc => R_ (o_ r_ (bl_ r_ r_ (fun bl => T_ (am_ (R_ (M_ r_ (N_ r_ (F_ r_ (L_ 1 r_ (o_ r_ (bt_ [2] rfl rfl (Nx_c _ hL hLn g_) (fun k0 hk0 => o_ r_ (bn_ r_ r_ (T_ (jc_condd rfl (fun h3 => ?_) (fun h3 => ?_)))))))))))))))))
  · refine R_ (M_ r_ (o_ r_ (bt_ [2, 0] rfl rfl (gexpr_c hL hLn hV0 hV hA hSh 2 2 g_ g_ g_) (fun e1 he1 => S_ 2 r_ (T_ (ar_ (aw_ (jq_retRow rfl rfl rfl rfl 0 rfl [1, 1] rfl (fun K h => h _ he1)))))))))
  · refine as_ (al_ (am_ (jc_anyB 20 none rfl k_ k_ (yM_ r_ (yN_ r_ (yF_ r_ (yL_ 2 r_ (aa_ (fun c => ow_callA [0] r_ r_ (gNext_c L _ _ hL hLn g_)) (aa_ (fun c => ow_exarg 15 rfl (fun i => bj_ rfl rfl (by have := i.2; omega) ⟨rfl, .refl _⟩)) (yM_ r_ (yM_ r_ (yN_ r_ (yF_ r_ (yL_ 2 r_ (aa_ (fun c => ow_callA [2, 0] r_ r_ (con_toEx (gname_c hL hLn V hV0 g_))) ?_)))))))))))))))
    refine aa_ (fun c => ow_exarg 22 rfl (fun i => bm_ rfl (gName_c _) ⟨rfl, .refl _⟩)) (yM_ r_ (yN_ r_ (yF_ r_ (yL_ 2 r_ (aa_ (fun c => ow_callA [0] r_ r_ (gNext_c L _ _ hL hLn g_)) (aa_ (fun c => ow_exarg 28 rfl (fun i => bm_ rfl (gNum_c _) ⟨rfl, .refl _⟩)) (aa_ (fun c => ow_exarg 16 rfl (fun i => ow_exarg 23 rfl (fun j => ow_exarg 29 rfl (fun k => bm_ rfl (gBin_c _ _ _) ⟨rfl, .refl _⟩)))) (ae_ (afin_none ?_)))))))))
    refine jl_slot 30 rfl (fun i => jl_slot 30 rfl (fun j => jl_slot 30 rfl (fun k => S_ 1 r_ (T_ (ar_ (jq_retRow rfl rfl rfl rfl 0 rfl [2, 1] rfl (fun K h => h _ (.bn _ _ _ _ (by have := i.2; omega) (.nm _ _ j.2) (.nu _ _ (by have := k.2; omega))))))))))
end

inductive PcG (St : Int → Int → List Sm → Prop) : Nat → Int → Int → List Sm → Prop
  | nil (lab : Int) : PcG St 0 lab lab []
  | snoc (n : Nat) (lab lab1 lab2 : Int) (l l2 : List Sm) (h1 : PcG St n lab lab1 l) (h2 : St lab1 lab2 l2) : PcG St (n + 1) lab lab2 (l ++ l2)
/-- At most so many pieces, whose labels go from one to another. -/
def BlG (St : Int → Int → List Sm → Prop) (most : Int) (lab lab' : Int) (l : List Sm) : Prop := ∃ n : Nat, (n : Int) ≤ most ∧ PcG St n lab lab' l
abbrev E0 : ByteArray := ⟨#[]⟩
def LeafG (V U : List ByteArray) (lab lab' : Int) (l : List Sm) : Prop :=
  lab' = lab ∧ ((∃ s e, s ∈ V ∧ ExG V U 2 e ∧ l = [.mk 1 s [] [e] 0 0 [] []]) ∨ ∃ s e1 e2, s ∈ U ∧ ExG V U 1 e1 ∧ ExG V U 2 e2 ∧ l = [.mk 2 s [e1] [e2] 0 0 [] []])
def IfG (V U : List ByteArray) (St : Int → Int → List Sm → Prop) (lab lab' : Int) (l : List Sm) : Prop :=
  lab < 12 ∧ ∃ c l1 l2 lab1, ExG V U 2 c ∧ BlG St 2 (lab + 1) lab1 l1 ∧ (l2 = [] ∧ lab' = lab1 ∨ BlG St 2 lab1 lab' l2) ∧ l = [.mk 3 E0 [] [c] 0 (lab + 1) l1 l2]
def WhG (V U : List ByteArray) (St : Int → Int → List Sm → Prop) (lab lab' : Int) (l : List Sm) : Prop :=
  ∃ c mx l1, ExG V U 2 c ∧ (0 ≤ mx ∧ mx ≤ 5) ∧ BlG St 2 (lab + 1) lab' l1 ∧ l = [.mk 4 E0 [] [c] mx (lab + 1) l1 []]
def CtG (V : List ByteArray) (St : Int → Int → List Sm → Prop) (lab lab' : Int) (l : List Sm) : Prop :=
  ∃ v n op top mx l1 st, v ∈ V ∧ (0 ≤ n ∧ n ≤ 2) ∧ (0 ≤ op ∧ op ≤ 1) ∧ ((∃ t, (0 ≤ t ∧ t ≤ 5) ∧ top = .nu t) ∨ ∃ s ∈ V, top = .nm s) ∧ (0 ≤ mx ∧ mx ≤ 5) ∧ (1 ≤ st ∧ st ≤ 3) ∧ BlG St 2 (lab + 1) lab' l1 ∧
    l = [.mk 1 v [] [.nu n] 0 0 [] [], .mk 4 E0 [] [.bn (11 + op) (.nm v) top] mx (lab + 1) (l1 ++ [.mk 1 v [] [.bn 1 (.nm v) (.nu st)] 0 0 [] []]) []]
def LpG (V U : List ByteArray) (il : Int) (St : Int → Int → List Sm → Prop) (lab lab' : Int) (l : List Sm) : Prop := il < 2 ∧ lab < 12 ∧ (WhG V U St lab lab' l ∨ CtG V St lab lab' l)
def LkG (Sh : List Shd) (hs : ByteArray) (St : ByteArray → Int → Int → List Sm → Prop) (lab lab' : Int) (l : List Sm) : Prop := hs = E0 ∧ ∃ sh ∈ Sh, ∃ l1, BlG (St sh.2.2) 2 lab lab' l1 ∧ l = [.mk 5 sh.2.2 [] [] 0 0 l1 []]
/-- What one call makes, at a depth, within so many loops, with a resource held. -/
def StG (V A : List ByteArray) (Sh : List Shd) : Nat → Int → ByteArray → Int → Int → List Sm → Prop
  | 0, _, hs => LeafG V (usableF A Sh hs)
  | d + 1, il, hs => fun lab lab' l => LeafG V (usableF A Sh hs) lab lab' l ∨ IfG V (usableF A Sh hs) (StG V A Sh d il hs) lab lab' l ∨ LpG V (usableF A Sh hs) il (StG V A Sh d (il + 1) hs) lab lab' l ∨ LkG Sh hs (StG V A Sh d il) lab lab' l
theorem StG.leaf {V A : List ByteArray} {Sh : List Shd} {d : Nat} {il : Int} {hs : ByteArray} {lab lab' : Int} {l : List Sm} (h : LeafG V (usableF A Sh hs) lab lab' l) : StG V A Sh d il hs lab lab' l := by
  cases d with
  | zero => exact h
  | succ d => exact .inl h

/-- What turns in a maker. -/
structure Ms where
  lv : Value
  lab : Int
  st : Int
abbrev Ms.ok (m : Ms) : Prop := (0 ≤ m.lab ∧ m.lab ≤ 12) ∧ 0 ≤ m.st ∧ m.st ≤ 14
/-- What is given throughout. -/
structure Gv (L : List Int) (V A : List ByteArray) (Sh : List Shd) : Prop where
  hL : InR L
  hLn : L.length ≤ 400
  hV0 : 0 < V.length
  hV : V.length ≤ 100
  hA : A.length ≤ 100
  hSh : Sh.length ≤ 100
def StmtP (L : List Int) (bm bd : Nat) (V A : List ByteArray) (Sh : List Shd) (d : Nat) : Prop :=
  ∀ (m : Ms) (hs : ByteArray) (il : Int) (LS : List ByteArray) (x : Int), m.ok → 0 ≤ il → il ≤ 2 → LS.length ≤ il → x = d →
    Con Tryz.prog 129 [Ptr bm, In .i64 x] [Mk bm bd V m.lv A Sh hs m.lab m.st il, Dk bd L, .own m.lv 9 1 (LS.map Wrow)]
      (fun K => ∀ r : Ms × List Sm, (r.1.ok ∧ r.2.length ≤ 2 ∧ StG V A Sh d il hs m.lab r.1.lab r.2) → K (.cell (.list (r.2.map Sm.row))) [Mk bm bd V r.1.lv A Sh hs r.1.lab r.1.st il, Dk bd L, .own r.1.lv 9 1 (LS.map Wrow)])
def BlockP (L : List Int) (bm bd : Nat) (V A : List ByteArray) (Sh : List Shd) (d : Nat) : Prop :=
  ∀ (m : Ms) (hs : ByteArray) (il : Int) (LS : List ByteArray) (x most : Int), m.ok → 0 ≤ il → il ≤ 2 → LS.length ≤ il → x = d → 1 ≤ most → most ≤ 5 →
    ConN Tryz.prog 89 [Ptr bm, In .i64 x, In .i64 most] [Mk bm bd V m.lv A Sh hs m.lab m.st il, Dk bd L, .own m.lv 9 1 (LS.map Wrow)]
      (fun n K => ∀ r : Ms × Value × List Sm, (r.1.ok ∧ FreshN n r.2.1 ∧ (r.2.2.length : Int) ≤ 2 * most ∧ BlG (StG V A Sh d il hs) most m.lab r.1.lab r.2.2) →
        K (.cell (.val r.2.1)) [.own r.2.1 57 8 (r.2.2.map Sm.row), Mk bm bd V r.1.lv A Sh hs r.1.lab r.1.st il, Dk bd L, .own r.1.lv 9 1 (LS.map Wrow)])
section
variable {L : List Int} {bm bd : Nat} {V A : List ByteArray} {Sh : List Shd}

theorem block_step (gv : Gv L V A Sh) (d : Nat) (hstm : StmtP L bm bd V A Sh d) : BlockP L bm bd V A Sh d := by
  intro m hs0 il LS x most hm hil hil2 hLS hx hmo hmo5
  obtain ⟨lv0, lab0, st0⟩ := m
  refine con_introN Tryz.func89 rfl rfl (Nat.le_of_ble_eq_true rfl) (fun c hc => R_ (E_ r_ (T_ (R_ (E_ r_ (T_ (am_ (R_ (M_ r_ (N_ r_ (F_ r_ (L_ 0 r_ (M_ r_ (o_ r_ (bt_ [1] rfl rfl (Nx_c _ gv.hL gv.hLn g_) (fun k0 hk0 => o_ r_ (bj_ r_ r_ g_ ?_)))))))))))))))))
  refine E_ r_ (T_ (au_ (jc_ownNil 57 8 g_ ?_)))
  obtain ⟨n0, hn0⟩ : ∃ n : Nat, 1 + k0 = (n : Int) := ⟨(1 + k0).toNat, by omega⟩
  rw [hn0]
  refine jc_loop (ι := Nat × Ms × Value × List Sm) [0, 1, 2] (fun i => ((i.1 : Int) ≤ most ∧ i.2.1.ok) ∧ c.Fresh i.2.2.1 ∧ ((i.2.2.2.length : Int) + 2 * (i.1 : Int) ≤ 2 * most ∧ ∃ n : Nat, (n : Int) + (i.1 : Int) ≤ most ∧ PcG (StG V A Sh d il hs0) n lab0 i.2.1.lab i.2.2.2)) (fun i => [(7, .cell (.val i.2.2.1)), (8, In .i64 (i.1 : Int))])
    (fun i => [.own i.2.2.1 57 8 (i.2.2.2.map Sm.row), Mk bm bd V i.2.1.lv A Sh hs0 i.2.1.lab i.2.1.st il, Dk bd L, .own i.2.1.lv 9 1 (LS.map Wrow)]) (fun i => i.1) (n0, ⟨lv0, lab0, st0⟩, .slice none 0 0, []) [0, 1, 0, 0] ⟨⟨by dsimp only; omega, hm⟩, fresh_nil, by dsimp only; simp only [List.length_nil]; omega, 0, by dsimp only; omega, .nil _⟩ rfl ?_ ?_
  · (repeat (first | exact True.intro | refine ⟨rfl, ?_⟩))
  · rintro ⟨k, m, v, l⟩ ⟨⟨hk, hok⟩, hf, hl, np, hnp, hsh⟩
    obtain ⟨lv, lab, st⟩ := m
    obtain ⟨⟨hlab0, hlab1⟩, hst0, hst1⟩ := hok
    dsimp only at hk hlab0 hlab1 hst0 hst1 hf hl hnp hsh ⊢
    have fin : ∀ K : S → List Ch → Prop, (∀ r : Ms × Value × List Sm, (r.1.ok ∧ FreshN c.B.heap.size r.2.1 ∧ (r.2.2.length : Int) ≤ 2 * most ∧ BlG (StG V A Sh d il hs0) most lab0 r.1.lab r.2.2) →
        K (.cell (.val r.2.1)) [.own r.2.1 57 8 (r.2.2.map Sm.row), Mk bm bd V r.1.lv A Sh hs0 r.1.lab r.1.st il, Dk bd L, .own r.1.lv 9 1 (LS.map Wrow)]) →
        K (.cell (.val v)) [.own v 57 8 (l.map Sm.row), Mk bm bd V lv A Sh hs0 lab st il, Dk bd L, .own lv 9 1 (LS.map Wrow)] :=
      fun K h => h (⟨lv, lab, st⟩, v, l) ⟨⟨⟨hlab0, hlab1⟩, hst0, hst1⟩, hf, by dsimp only; omega, np, by omega, hsh⟩
    by_cases hk0 : (0 : Int) < (k : Int)
    · refine am_ (R_ (M_ r_ (o_ r_ (bz_ r_ r_ (M_ r_ (ah_ r_ u_ b_ (bd_ r_ (ah_ r_ u_ b_ (bh_ r_ (ah_ r_ u_ b_ (bf_ r_ r_ r_ b_ (ah_ r_ u_ b_ (bg_ 1 r_ r_ r_ r_ (ah_ r_ u_ b_ (bz_ r_ r_ (o_ r_ (bp_ r_ u_ r_ (T_ (jc_condd rfl (fun hst => ?_) (fun hst => ?_))))))))))))))))))))
      · refine as_ (al_ (B_ (R_ (M_ r_ (N_ r_ (F_ r_ (L_ 1 r_ (o_ r_ (cg_ r_ r_ g_ (N_ r_ (F_ r_ (W_ 1 r_ (T_ (an_ (M_ r_ (M_ r_ ?_))))))))))))))))
        refine M_ r_ (o_ r_ (bt_ [0, 1, 1] rfl rfl (hstm ⟨lv, lab, st - 1⟩ hs0 il LS x ⟨⟨hlab0, hlab1⟩, by dsimp only; omega⟩ hil hil2 hLS hx) (fun r hr => ?_)))
        obtain ⟨⟨lv2, lab2, st2⟩, l2⟩ := r
        obtain ⟨hok2, hl2, hsh2⟩ := hr
        dsimp only at hok2 hl2 hsh2 ⊢
        skip
        refine o_ r_ (ow_appendMF 3 rfl rfl rfl rfl rfl rfl rfl (fun a => by rw [Sm.row_eq]; rfl) (by show (_ + _) * 136 ≤ _; first | omega | (simp only [List.length_append]; omega)) (by first | omega | (simp only [List.length_append]; omega)) (fun v2 hv2 fv2 => E_ r_ (ak_ (ay_ (al_ (an_ (M_ r_ (o_ r_ (cg_ r_ r_ g_ (E_ r_ (ak_ ?_)))))))))))
        refine jq_again (i := (k, ⟨lv, lab, st⟩, v, l)) (k - 1, ⟨lv2, lab2, st2⟩, v2, l ++ l2) [0, 0, 0, 0] ⟨⟨by dsimp only; omega, hok2⟩, fv2 hf, by dsimp only; simp only [List.length_append]; omega, np + 1, by dsimp only; omega, .snoc _ _ _ _ _ _ hsh hsh2⟩ (by dsimp only; omega) rfl ?_
        rw [show (((k - 1 : Nat) : Int)) = (k : Int) - 1 by omega]
        (repeat (first | exact True.intro | refine ⟨rfl, ?_⟩))
      · exact av_ (ax_ (ax_ (ba_ (al_ (R_ (M_ r_ (E_ r_ (T_ (ar_ (jq_ret1 rfl rfl [0, 0, 0, 0] rfl fin))))))))))
    · refine am_ (R_ (M_ r_ (o_ r_ (bz_ r_ r_ (M_ r_ (ai_ r_ w_ b_ (ai_ r_ w_ b_ (ai_ r_ w_ b_ (ai_ r_ w_ b_ (ai_ r_ w_ b_ (o_ r_ (bv_ r_ w_ r_ (T_ (jc_cond rfl (fun h => by cases h) (fun _ => av_ (ax_ (ax_ ?_)))))))))))))))))
      exact ba_ (al_ (R_ (M_ r_ (E_ r_ (T_ (ar_ (jq_ret1 rfl rfl [0, 0, 0, 0] rfl fin)))))))
end
end Go.Proofs.YtamajcgdfjeehaaGreatDoor
end

section
namespace Go.Proofs.YtamajcgdfjeehaaGreatDoor
open Go.Vc
set_option maxHeartbeats 4000000
attribute [local irreducible] JL JC JQ OpWp Con ConN
attribute [local irreducible] StG

def LoopP (L : List Int) (bm bd : Nat) (V A : List ByteArray) (Sh : List Shd) (d : Nat) : Prop :=
  ∀ (m : Ms) (hs : ByteArray) (il : Int) (LS : List ByteArray) (x : Int), m.ok → m.lab ≤ 11 → 0 ≤ il → il ≤ 1 → LS.length ≤ il → x = (d + 1 : Nat) →
    Con Tryz.prog 154 [Ptr bm, In .i64 x] [Mk bm bd V m.lv A Sh hs m.lab m.st il, Dk bd L, .own m.lv 9 1 (LS.map Wrow)]
      (fun K => ∀ r : Ms × List Sm, (r.1.ok ∧ r.2.length ≤ 2 ∧ LpG V (usableF A Sh hs) il (StG V A Sh d (il + 1) hs) m.lab r.1.lab r.2) → K (.cell (.list (r.2.map Sm.row))) [Mk bm bd V r.1.lv A Sh hs r.1.lab r.1.st il, Dk bd L, .own r.1.lv 9 1 (LS.map Wrow)])

theorem sm_le (k : Int) (nm : ByteArray) (I V : List T) (mx lb : Int) (tt ee : List Sm) {cI cV cT cE : C} (hI : CLe cI (.list (I.map T.row))) (hV : CLe cV (.list (V.map T.row))) (hT : CLe cT (.list (tt.map Sm.row))) (hE : CLe cE (.list (ee.map Sm.row))) :
    RowLe [.val (.int .i64 k), .val (.string nm), cI, cV, .val (.int .i64 mx), .val (.int .i64 lb), cT, cE] (Sm.row (.mk k nm I V mx lb tt ee)) := by
  rw [Sm.row_eq]
  exact .cons (.refl _) (.cons (.refl _) (.cons hI (.cons hV (.cons (.refl _) (.cons (.refl _) (.cons hT (.cons hE .nil)))))))
theorem sm_le' (k : Int) (nm : ByteArray) (I V : List T) (mx lb : Int) (tt ee : List Sm) {cI cV cT cE : C} (hI : CLe cI (.list (I.map T.row))) (hV : CLe cV (.list (V.map T.row))) (hT : CLe cT (.list (tt.map Sm.row))) (hE : CLe cE (.list (ee.map Sm.row))) :
    RowLe [.val (.int .i64 k), .val (.string nm), cI, cV, .val (.int .i64 mx), .val (.int .i64 lb), cT, cE] (Sm.row' (.mk k nm I V mx lb tt ee)) := by
  rw [← Sm.row_eq]; exact sm_le k nm I V mx lb tt ee hI hV hT hE
theorem ex1_le (e : T) : CLe (.list [e.row']) (.list ([e].map T.row)) := CLe.eq (by simp [T.row_eq])
section
variable {L : List Int} {bm bd : Nat} {V A : List ByteArray} {Sh : List Shd}

theorem loop_step (gv : Gv L V A Sh) (d : Nat) (hd10 : d ≤ 10) (hblk : BlockP L bm bd V A Sh d) : LoopP L bm bd V A Sh d := by
  intro m hs0 il LS x hm hm11 hil hil2 hLS hx
  obtain ⟨lv0, lab0, st0⟩ := m
  obtain ⟨⟨hlab0, hlab1⟩, hst0, hst1⟩ := hm
  dsimp only at hlab0 hlab1 hst0 hst1 hm11 ⊢
  refine con_intro Tryz.func154 rfl rfl (Nat.le_of_ble_eq_true rfl) (fun c hc => R_ (E_ r_ (T_ (R_ (M_ r_ (N_ r_ (F_ r_ (L_ 0 r_ (o_ r_ (bj_ r_ r_ g_ (N_ r_ (F_ r_ (W_ 0 r_ (T_ (R_ (M_ r_ ?_))))))))))))))))
  refine N_ r_ (F_ r_ (L_ 0 r_ (o_ r_ (bj_ r_ r_ g_ (N_ r_ (F_ r_ (W_ 0 r_ (T_ (am_ (jc_anyB 11 (some 10) rfl k_ k_ (yM_ r_ (yN_ r_ (yF_ r_ (yL_ 0 r_ (yM_ r_ (yN_ r_ ?_))))))))))))))))
  refine yF_ r_ (yL_ 0 r_ (aa_ (fun c => ow_callA [1] r_ r_ (gNext_c L _ _ gv.hL gv.hLn g_)) (aa_ (fun c => ow_exarg 31 rfl (fun i => bu_ rfl rfl rfl rfl rfl ⟨rfl, .refl _⟩)) (af_ (ae_ (afin_some rfl rfl rfl (fun bS => jl_slot 32 rfl (fun mx => S_ 0 r_ (T_ (am_ (R_ (M_ r_ (N_ r_ (F_ r_ (L_ 1 r_ ?_)))))))))))))))
  refine o_ r_ (bt_ [2] rfl rfl (Nx_c _ gv.hL gv.hLn g_) (fun k0 hk0 => o_ r_ (bn_ r_ r_ (T_ (jc_condd rfl (fun h3 => ?_) (fun h3 => ?_))))))
  · refine R_ (M_ r_ (o_ r_ (bt_ [2, 0] rfl rfl (gcondition_c gv.hL gv.hLn gv.hV0 gv.hV gv.hA gv.hSh) (fun e1 he1 => o_ r_ (bq_ r_ r_ b_ r_ r_ b_ (F_ r_ (W_ 2 r_ (T_ (R_ (M_ r_ (M_ r_ (o_ r_ (cg_ r_ r_ g_ (o_ r_ (ow_callNP [1, 1, 1] rfl rfl (hblk ⟨lv0, lab0 + 1, st0⟩ hs0 (il + 1) LS (x - 1) 2 ⟨⟨by dsimp only; omega, by dsimp only; omega⟩, hst0, hst1⟩ g_ g_ g_ g_ g_ g_) (fun r n hn hr => ?_))))))))))))))))
    obtain ⟨⟨lv2, lab2, st2⟩, v2, l2⟩ := r
    obtain ⟨hok2, hf2, hl2, hsh2⟩ := hr
    dsimp only at hok2 hl2 hsh2 ⊢
    refine jl_freezeF 46 0 rfl rfl (hf2.mono hn) (F_ r_ (W_ 3 r_ (T_ (R_ (M_ r_ (N_ r_ (F_ r_ (L_ 1 r_ (o_ r_ (cg_ r_ r_ g_ (N_ r_ (F_ r_ (W_ 1 r_ (T_ (R_ (A_ 1 r_ ?_))))))))))))))))
    refine o_ r_ (bq_ r_ r_ b_ r_ r_ b_ (E_ r_ (T_ (ar_ (aw_ (jq_sle 4 rfl (SLe.cell (CLe.list (.cons (sm_le 4 ⟨#[]⟩ [] [e1] mx.1 (lab0 + 1) l2 [] .nil (ex1_le e1) (.refl _) .nil) .nil))) ?_))))))
    have fin : ∀ K : S → List Ch → Prop, (∀ r : Ms × List Sm, (r.1.ok ∧ r.2.length ≤ 2 ∧ LpG V (usableF A Sh hs0) il (StG V A Sh d (il + 1) hs0) lab0 r.1.lab r.2) → K (.cell (.list (r.2.map Sm.row))) [Mk bm bd V r.1.lv A Sh hs0 r.1.lab r.1.st il, Dk bd L, .own r.1.lv 9 1 (LS.map Wrow)]) →
        K (.cell (.list [Sm.row (.mk 4 ⟨#[]⟩ [] [e1] mx.1 (lab0 + 1) l2 [])])) [Mk bm bd V lv2 A Sh hs0 lab2 st2 (il + 1 - 1), Dk bd L, .own lv2 9 1 (LS.map Wrow)] := by
      intro K h
      rw [show il + 1 - 1 = il by omega]
      exact h (⟨lv2, lab2, st2⟩, [.mk 4 ⟨#[]⟩ [] [e1] mx.1 (lab0 + 1) l2 []]) ⟨hok2, by simp, by omega, by omega, .inl ⟨e1, mx.1, l2, he1, by have := mx.2; omega, hsh2, rfl⟩⟩
    exact jq_ret1 rfl rfl [0, 1, 1] rfl fin
  · refine as_ (al_ (R_ (M_ r_ (o_ r_ (bt_ [2, 0, 1] rfl rfl (gtarget_c gv.hL gv.hLn gv.hV0 gv.hV g_) (fun tg htg => E_ r_ (T_ (R_ (M_ r_ (N_ r_ (F_ r_ (L_ 0 r_ (o_ r_ (bt_ [1] rfl rfl (Nx_c _ gv.hL gv.hLn g_) (fun sp hsp => o_ r_ (bj_ r_ r_ g_ (E_ r_ (T_ ?_))))))))))))))))))
    refine R_ (M_ r_ (N_ r_ (F_ r_ (L_ 1 r_ (o_ r_ (bt_ [0] rfl rfl (Nx_c _ gv.hL gv.hLn g_) (fun tp htp => o_ r_ (bm_ r_ (gNum_c _) (o_ r_ (bl_ r_ r_ (fun bl => S_ 0 r_ (T_ (am_ (R_ (M_ r_ (N_ r_ (F_ r_ (L_ 2 r_ ?_))))))))))))))))))
    refine o_ r_ (bt_ [1] rfl rfl (Nx_c _ gv.hL gv.hLn g_) (fun k4 hk4 => o_ r_ (bn_ r_ r_ (T_ ?_))))
    refine jc_cut (ι := T) [0, 1, 5, 6, 7, 8] (fun top => (∃ t, (0 ≤ t ∧ t ≤ 5) ∧ top = .nu t) ∨ ∃ s ∈ V, top = .nm s) (fun _ => []) (fun e => [Mk bm bd V lv0 A Sh hs0 (lab0 + 1) st0 (il + 1), Dk bd L, .own lv0 9 1 (LS.map Wrow), .blk bS 57 [.val (.int .i64 4), .val (.string ⟨#[]⟩), .val (.slice none 0 0), .val (.slice none 0 0), .val (.int .i64 mx.1), .val (.int .i64 (lab0 + 1)), .val (.slice none 0 0), .val (.slice none 0 0)], .blk bl 59 (T.row' e)]) ?_ ?_
    · refine jc_condd rfl (fun h2 => ?_) (fun h2 => ?_)
      · refine an_ (M_ r_ (M_ r_ (N_ r_ (F_ r_ (L_ 2 r_ (o_ r_ (bt_ [2, 0] rfl rfl (gname_c gv.hL gv.hLn V gv.hV0 (by have := gv.hV; omega)) (fun nm hnm => o_ r_ (bm_ r_ (gName_c _) (S_ 2 r_ (ak_ (jq_cut (T.nm nm) [1, 1, 1, 1, 0] (.inr ⟨nm, hnm, rfl⟩) rfl ?_))))))))))))
        (repeat (first | exact True.intro | refine ⟨rfl, ?_⟩))
      · refine as_ (jq_cut (T.nu tp) [2, 0, 1, 1, 0] (.inl ⟨tp, by omega, rfl⟩) rfl ?_)
        (repeat (first | exact True.intro | refine ⟨rfl, ?_⟩))
    · intro e8 he8
      refine R_ (M_ r_ (M_ r_ (N_ r_ (F_ r_ (L_ 0 r_ (M_ r_ (o_ r_ (bq_ r_ r_ b_ r_ r_ b_ (o_ r_ (ow_append1F 2 (tg) rfl rfl rfl rfl rfl rfl rfl (fun _ => rfl) (by show (_ + _) * 16 ≤ _; first | omega | (simp only [List.length_append]; omega)) (by first | omega | (simp only [List.length_append]; omega)) (fun lv1 hlv1 flv1 => N_ r_ (F_ r_ (W_ 1 r_ (T_ (am_ (jc_anyB 12 none rfl k_ k_ (yM_ r_ ?_)))))))))))))))))
      refine yN_ r_ (yF_ r_ (yL_ 0 r_ (aa_ (fun c => ow_callA [2] r_ r_ (gNext_c L _ _ gv.hL gv.hLn g_)) (aa_ (fun c => ow_exarg 98 rfl (fun i => bj_ rfl rfl (by have := i.2; omega) ⟨rfl, .refl _⟩)) (yM_ r_ (aa_ (fun c => bm_ r_ (gName_c _) p_) (aa_ (fun c => bs_ 4 r_ r_ r_ r_ p_) (aa_ (fun c => ow_exarg 99 rfl (fun i => bm_ rfl (gBin_c _ _ _) ⟨rfl, .refl _⟩)) ?_))))))))
      refine aa_ (fun c => ow_exarg 103 rfl (fun i => bq_ rfl rfl b_ rfl rfl b_ ⟨rfl, .refl _⟩)) (yF_ r_ (ae_ (afin_none (jl_slot 104 rfl (fun op => W_ 3 r_ (T_ (R_ (M_ r_ (M_ r_ (o_ r_ (cg_ r_ r_ g_ ?_)))))))))))
      have con := hblk ⟨lv1, lab0 + 1, st0⟩ hs0 (il + 1) (LS ++ [tg]) (x - 1) 2 ⟨⟨by dsimp only; omega, by dsimp only; omega⟩, hst0, hst1⟩ (by omega) (by omega) (by simp only [List.length_append, List.length_cons, List.length_nil]; omega) (by omega) (by omega) (by omega)
      dsimp only at con
      refine o_ r_ (ow_callNP [1, 2, 1] rfl rfl (con) (fun r n hn hr => ?_))
      obtain ⟨⟨lv2, lab2, st2⟩, v2, l2⟩ := r
      obtain ⟨hok2, hf2, hl2, hsh2⟩ := hr
      dsimp only at hok2 hl2 hsh2 hf2 ⊢
      refine M_ r_ (M_ r_ (o_ r_ (bm_ r_ (gName_c _) (M_ r_ (o_ r_ (bm_ r_ (gNum_c _) (o_ r_ (bm_ r_ (gBin_c _ _ _) (o_ r_ (bq_ r_ r_ b_ r_ r_ b_ (o_ r_ (bu_ r_ r_ r_ r_ r_ (o_ r_ (bq_ r_ r_ b_ r_ r_ b_ (jl_sle 118 rfl (SLe.cell (CLe.list (.cons (sm_le 1 tg [] [.bn 1 (.nm tg) (.nu (1 + sp))] 0 0 [] [] .nil (ex1_le _) .nil .nil) .nil))) ?_)))))))))))))))
      refine o_ r_ (ow_append1F 0 ((.mk 1 tg [] [.bn 1 (.nm tg) (.nu (1 + sp))] 0 0 [] [])) rfl rfl rfl rfl rfl rfl rfl (fun a => by rw [Sm.row_eq]; rfl) (by show (_ + _) * 136 ≤ _; first | omega | (simp only [List.length_append]; omega)) (by first | omega | (simp only [List.length_append]; omega)) (fun v3 hv3 fv3 => jl_freezeF 119 0 rfl rfl (fv3 (hf2.mono hn)) (F_ r_ (W_ 3 r_ (T_ (am_ ?_))))))
      have eL : (List.map Wrow (LS ++ [tg])).length = LS.length + 1 := by simp
      refine jc_anyB 12 none rfl k_ k_ (yM_ r_ (yM_ r_ (yN_ r_ (yF_ r_ (yL_ 1 r_ (yM_ r_ (yN_ r_ (yF_ r_ (yL_ 1 r_ (aa_ (fun c => cw_ 3 r_ r_ (fun hlen => p_)) (aa_ (fun c => cg_ r_ r_ g_ p_) ?_)))))))))))
      (first | refine any_op (fun c => ow_trim 3 rfl rfl rfl (by omega) (by omega) ⟨rfl, .refl _⟩) ?_ | refine any_op (fun c => ow_trim 2 rfl rfl rfl (by omega) (by omega) ⟨rfl, .refl _⟩) ?_ | refine any_op (fun c => ow_trim 4 rfl rfl rfl (by omega) (by omega) ⟨rfl, .refl _⟩) ?_)
      refine ae_ ?_
      try refine afin_none ?_
      rw [show ((((List.map Wrow (LS ++ [tg])).length : Nat) : Int) - 1).toNat = LS.length by omega]
      (first | refine jl_trim 3 LS.length rfl (by omega) ?_ | refine jl_trim 2 LS.length rfl (by omega) ?_ | refine jl_trim 4 LS.length rfl (by omega) ?_)
      rw [show (List.map Wrow (LS ++ [tg])).take LS.length = List.map Wrow LS by rw [List.map_append, List.take_left' (by simp)]]
      generalize trimV lv2 LS.length = lv3
      refine N_ r_ (F_ r_ (W_ 2 r_ (T_ (R_ (M_ r_ (N_ r_ (F_ r_ (L_ 0 r_ (o_ r_ (cg_ r_ r_ g_ (N_ r_ (F_ r_ (W_ 0 r_ (T_ (am_ (ao_ r_ r_ k_ k_ ?_))))))))))))))))
      refine yM_ r_ (yM_ r_ (yN_ r_ (yF_ r_ (yL_ 0 r_ (aa_ (fun c => ow_callA [3] r_ r_ (gNext_c L _ _ gv.hL gv.hLn g_)) (aa_ (fun c => ow_exarg 147 rfl (fun i => bm_ rfl (gNum_c _) ⟨rfl, .refl _⟩)) (aa_ (fun c => ow_exarg 148 rfl (fun i => bq_ rfl rfl b_ rfl rfl b_ ⟨rfl, .refl _⟩)) (aa_ (fun c => ow_exarg 149 rfl (fun i => bu_ rfl rfl rfl rfl rfl ⟨rfl, .refl _⟩)) (aa_ (fun c => bs_ 2 r_ r_ r_ r_ p_) ?_)))))))))
      refine aa_ (fun c => ow_exarg 150 rfl (fun i => bq_ rfl rfl b_ rfl rfl b_ ⟨rfl, .refl _⟩)) (yE_ r_ (ae_ (al_ (ar_ (jq_slot 4 rfl (fun i => ?_))))))
      refine jq_sle 4 rfl (SLe.cell (CLe.list (.cons (sm_le 1 tg [] [.nu i.1] 0 0 [] [] .nil (ex1_le _) .nil .nil) (.cons (sm_le 4 ⟨#[]⟩ [] [.bn (11 + op.1) (.nm tg) e8] mx.1 (lab0 + 1) (l2 ++ [(.mk 1 tg [] [.bn 1 (.nm tg) (.nu (1 + sp))] 0 0 [] [])]) [] .nil (ex1_le _) (.refl _) .nil) .nil)))) ?_
      have fin : ∀ K : S → List Ch → Prop, (∀ r : Ms × List Sm, (r.1.ok ∧ r.2.length ≤ 2 ∧ LpG V (usableF A Sh hs0) il (StG V A Sh d (il + 1) hs0) lab0 r.1.lab r.2) → K (.cell (.list (r.2.map Sm.row))) [Mk bm bd V r.1.lv A Sh hs0 r.1.lab r.1.st il, Dk bd L, .own r.1.lv 9 1 (LS.map Wrow)]) →
          K (.cell (.list [Sm.row (.mk 1 tg [] [.nu i.1] 0 0 [] []), Sm.row (.mk 4 ⟨#[]⟩ [] [.bn (11 + op.1) (.nm tg) e8] mx.1 (lab0 + 1) (l2 ++ [.mk 1 tg [] [.bn 1 (.nm tg) (.nu (1 + sp))] 0 0 [] []]) [])])) [Mk bm bd V lv3 A Sh hs0 lab2 st2 (il + 1 - 1), Dk bd L, .own lv3 9 1 (LS.map Wrow)] := by
        intro K h
        rw [show il + 1 - 1 = il by omega]
        exact h (⟨lv3, lab2, st2⟩, [.mk 1 tg [] [.nu i.1] 0 0 [] [], .mk 4 ⟨#[]⟩ [] [.bn (11 + op.1) (.nm tg) e8] mx.1 (lab0 + 1) (l2 ++ [.mk 1 tg [] [.bn 1 (.nm tg) (.nu (1 + sp))] 0 0 [] []]) []])
          ⟨hok2, by simp, by clear he8; omega, by clear he8; omega, .inr ⟨tg, i.1, op.1, e8, mx.1, l2, 1 + sp, htg, by clear he8; have := i.2; omega, by clear he8; have := op.2; omega, he8, by clear he8; have := mx.2; omega, by clear he8 hok2; omega, hsh2, rfl⟩⟩
      first | exact jq_ret1 rfl rfl [0, 1, 0] rfl fin | exact jq_ret1 rfl rfl [0, 2, 0] rfl fin | exact jq_ret1 rfl rfl [0, 3, 0] rfl fin | exact jq_ret1 rfl rfl [0, 4, 0] rfl fin
end
end Go.Proofs.YtamajcgdfjeehaaGreatDoor
end

section
namespace Go.Proofs.YtamajcgdfjeehaaGreatDoor
open Go.Vc
set_option maxHeartbeats 4000000
attribute [local irreducible] JL JC JQ OpWp Con ConN
theorem StG.inn {V A : List ByteArray} {Sh : List Shd} {d : Nat} {il : Int} {hs : ByteArray} {lab lab' : Int} {l : List Sm} (h : IfG V (usableF A Sh hs) (StG V A Sh d il hs) lab lab' l ∨ LpG V (usableF A Sh hs) il (StG V A Sh d (il + 1) hs) lab lab' l ∨ LkG Sh hs (StG V A Sh d il) lab lab' l) : StG V A Sh (d + 1) il hs lab lab' l := .inr h
attribute [local irreducible] StG

section
variable {L : List Int} {bm bd : Nat} {V A : List ByteArray} {Sh : List Shd}

theorem stmt_step (gv : Gv L V A Sh) (d : Nat) (hd10 : d ≤ 10) (hblk : ∀ d', d = d' + 1 → BlockP L bm bd V A Sh d') (hloop : ∀ d', d = d' + 1 → LoopP L bm bd V A Sh d') : StmtP L bm bd V A Sh d := by
  intro m hs0 il LS x hm hil hil2 hLS hx
  obtain ⟨lv0, lab0, st0⟩ := m
  obtain ⟨⟨hlab0, hlab1⟩, hst0, hst1⟩ := hm
  dsimp only at hlab0 hlab1 hst0 hst1 ⊢
  refine con_intro Tryz.func129 rfl rfl (Nat.le_of_ble_eq_true rfl) (fun c hc => R_ (E_ r_ (T_ (R_ (M_ r_ (N_ r_ (F_ r_ (L_ 0 r_ (o_ r_ (bt_ [1] rfl rfl (Nx_c _ gv.hL gv.hLn g_) (fun k0 hk0 => E_ r_ (T_ (am_ (am_ (jc_cut (ι := Bool) [0, 1, 4, 5] (fun b => b = false → 0 < x ∧ lab0 < 12) (fun b => [(23, Bl b)]) (fun _ => [Mk bm bd V lv0 A Sh hs0 lab0 st0 il, Dk bd L, .own lv0 9 1 (LS.map Wrow)]) ?_ ?_)))))))))))))))
  · by_cases hx0 : x ≤ 0
    · refine an_ (M_ r_ (o_ r_ (cu_ r_ r_ (M_ r_ (ai_ r_ u_ b_ (ai_ r_ u_ b_ (ai_ r_ u_ b_ (ai_ r_ u_ b_ (ai_ r_ u_ b_ (o_ r_ (bp_ r_ u_ r_ (ak_ (jq_cut true [1, 0, 0] (by simp) rfl ?_)))))))))))))
      (repeat (first | exact True.intro | refine ⟨rfl, ?_⟩))
    · refine an_ (M_ r_ (o_ r_ (cu_ r_ r_ (M_ r_ (ah_ r_ w_ b_ (bd_ r_ (ah_ r_ w_ b_ (bh_ r_ (ah_ r_ w_ b_ (bf_ r_ r_ r_ b_ (ah_ r_ w_ b_ (bg_ 1 r_ r_ r_ r_ (ah_ r_ w_ b_ (cn_ r_ r_ (o_ r_ (bv_ r_ w_ r_ (ak_ (jq_cut (decide (12 ≤ lab0)) [1, 0, 0] (by simp; omega) rfl ?_))))))))))))))))))
      (repeat (first | exact True.intro | refine ⟨rfl, ?_⟩))
  intro b hb
  skip
  have ht : 0 ≤ k0 % 3 ∧ k0 % 3 ≤ 2 := by omega
  refine jc_cut (ι := Int) [0, 1, 4] (fun k => 0 ≤ k ∧ k ≤ 8 ∧ (2 < k → 0 < x ∧ lab0 < 12)) (fun k => [(5, In .i64 k)]) (fun _ => [Mk bm bd V lv0 A Sh hs0 lab0 st0 il, Dk bd L, .own lv0 9 1 (LS.map Wrow)]) ?_ ?_
  · refine jc_cond rfl (fun h => ?_) (fun h => ?_)
    · refine an_ (M_ r_ (o_ r_ (ow_rem64 r_ r_ g_ g_ (E_ r_ (ak_ (jq_cut (k0 % 3) [0, 0, 0] g_ rfl ?_))))))
      (repeat (first | exact True.intro | refine ⟨rfl, ?_⟩))
    · refine as_ (jq_cut k0 [0, 0, 0] ⟨hk0.1, by omega, fun _ => hb h⟩ rfl ?_)
      (repeat (first | exact True.intro | refine ⟨rfl, ?_⟩))
  intro k ⟨hk1, hk8, hkd⟩
  clear ht
  have fin1 : ∀ (s : Sm) (m : Ms), m.ok → StG V A Sh d il hs0 lab0 m.lab [s] → ∀ K : S → List Ch → Prop, (∀ r : Ms × List Sm, (r.1.ok ∧ r.2.length ≤ 2 ∧ StG V A Sh d il hs0 lab0 r.1.lab r.2) → K (.cell (.list (r.2.map Sm.row))) [Mk bm bd V r.1.lv A Sh hs0 r.1.lab r.1.st il, Dk bd L, .own r.1.lv 9 1 (LS.map Wrow)]) →
      K (.cell (.list [s.row])) [Mk bm bd V m.lv A Sh hs0 m.lab m.st il, Dk bd L, .own m.lv 9 1 (LS.map Wrow)] :=
    fun s m hm hs K h => h (m, [s]) ⟨hm, by simp, hs⟩
  have fin0 : ∀ (s : Sm), LeafG V (usableF A Sh hs0) lab0 lab0 [s] → ∀ K : S → List Ch → Prop, (∀ r : Ms × List Sm, (r.1.ok ∧ r.2.length ≤ 2 ∧ StG V A Sh d il hs0 lab0 r.1.lab r.2) → K (.cell (.list (r.2.map Sm.row))) [Mk bm bd V r.1.lv A Sh hs0 r.1.lab r.1.st il, Dk bd L, .own r.1.lv 9 1 (LS.map Wrow)]) →
      K (.cell (.list [s.row])) [Mk bm bd V lv0 A Sh hs0 lab0 st0 il, Dk bd L, .own lv0 9 1 (LS.map Wrow)] :=
    fun s hs => fin1 s ⟨lv0, lab0, st0⟩ ⟨⟨hlab0, hlab1⟩, hst0, hst1⟩ (.leaf hs)
  have hU := usable_len A Sh hs0
  have hUA := gv.hA
  have hUS := gv.hSh
  refine am_ (R_ (M_ r_ (T_ (jc_cut (ι := Unit) [0, 1] (fun _ => True) (fun _ => []) (fun _ => [Mk bm bd V lv0 A Sh hs0 lab0 st0 il, Dk bd L, .own lv0 9 1 (LS.map Wrow)]) ?_ ?_))))
  · refine au_ (R_ (o_ r_ (bn_ r_ r_ (E_ r_ (T_ (jc_condd rfl (fun h1 => ?_) (fun h1 => ?_)))))))
    · refine R_ (M_ r_ (o_ r_ (bi_ [0] r_ r_ (gusable_c gv.hA gv.hSh) (E_ r_ (T_ (R_ (M_ r_ (o_ r_ (br_ r_ (fun hlen => o_ r_ (bz_ r_ r_ (T_ (jc_condd rfl (fun hp => ?_) (fun hp => ?_))))))))))))))
      · simp only [List.length_map] at hp
        refine R_ (M_ r_ (M_ r_ (o_ r_ (bt_ [0, 0] rfl rfl (gname_c gv.hL gv.hLn (usableF A Sh hs0) g_ g_) (fun s1 hs1 => M_ r_ (o_ r_ (bt_ [0, 0] rfl rfl (gexpr_c gv.hL gv.hLn gv.hV0 gv.hV gv.hA gv.hSh 1 1 g_ g_ g_) (fun e1 he1 => o_ r_ (bq_ r_ r_ b_ r_ r_ b_ (M_ r_ (o_ r_ (bt_ [0, 0] rfl rfl (gexpr_c gv.hL gv.hLn gv.hV0 gv.hV gv.hA gv.hSh 2 2 g_ g_ g_) (fun e2 he2 => o_ r_ (bq_ r_ r_ b_ r_ r_ b_ ?_))))))))))))))
        exact o_ r_ (bu_ r_ r_ r_ r_ r_ (o_ r_ (bq_ r_ r_ b_ r_ r_ b_ (E_ r_ (T_ (ar_ (az_ (aw_ (jq_sle 4 rfl (SLe.cell (CLe.list (.cons (sm_le 2 s1 [e1] [e2] 0 0 [] [] (ex1_le e1) (ex1_le e2) .nil .nil) .nil))) (jq_ret1 rfl rfl [0, 0, 0] rfl (fin0 _ ⟨rfl, .inr ⟨s1, e1, e2, hs1, he1, he2, rfl⟩⟩)))))))))))
      · refine as_ (ay_ (jq_cut () [0, 0, 0] trivial rfl ?_))
        (repeat (first | exact True.intro | refine ⟨rfl, ?_⟩))
    · refine am_ (jc_cut (ι := Bool) [0, 1, 26] (fun b => b = decide (k = 3 ∨ k = 4 ∨ k = 5)) (fun b => [(45, Bl b)]) (fun _ => [Mk bm bd V lv0 A Sh hs0 lab0 st0 il, Dk bd L, .own lv0 9 1 (LS.map Wrow)]) ?_ ?_)
      · refine R_ (o_ r_ (bn_ r_ r_ (E_ r_ (T_ (jc_condd rfl (fun h3 => ?_) (fun h3 => ?_))))))
        · refine as_ (jq_cut (decide (k = 3)) [0, 0, 0] (by rw [decide_eq_decide]; omega) rfl ?_)
          (repeat (first | exact True.intro | refine ⟨rfl, ?_⟩))
        · refine R_ (o_ r_ (bn_ r_ r_ (E_ r_ (T_ (jc_condd rfl (fun h4 => ?_) (fun h4 => ?_))))))
          · refine as_ (jq_cut (decide (k = 4)) [0, 0, 0] (by rw [decide_eq_decide]; omega) rfl ?_)
            (repeat (first | exact True.intro | refine ⟨rfl, ?_⟩))
          · refine an_ (o_ r_ (bn_ r_ r_ (E_ r_ (ak_ (jq_cut (decide (k = 5)) [0, 0, 0] (by rw [decide_eq_decide]; omega) rfl ?_)))))
            (repeat (first | exact True.intro | refine ⟨rfl, ?_⟩))
      intro b hb
      refine jc_cond rfl (fun hbt => ?_) (fun hbt => ?_)
      · have hk3 : k = 3 ∨ k = 4 ∨ k = 5 := by rw [hb] at hbt; exact of_decide_eq_true hbt
        obtain ⟨hx0, hl12⟩ := hkd (by omega)
        obtain ⟨d', rfl⟩ : ∃ d', d = d' + 1 := ⟨d - 1, by omega⟩
        have hblk := hblk d' rfl
        clear hloop
        refine R_ (M_ r_ (N_ r_ (F_ r_ (L_ 0 r_ (o_ r_ (bj_ r_ r_ g_ (N_ r_ (F_ r_ (W_ 0 r_ (T_ (am_ (jc_anyB 9 (some 8) rfl k_ k_ (yM_ r_ (yN_ r_ (yF_ r_ (yL_ 0 r_ ?_))))))))))))))))
        refine yM_ r_ (aa_ (fun c => ow_callA [0, 0] r_ r_ (con_toEx (gcondition_c gv.hL gv.hLn gv.hV0 gv.hV gv.hA gv.hSh))) (aa_ (fun c => ow_exarg 61 rfl (fun i => bq_ rfl rfl b_ rfl rfl b_ ⟨rfl, .refl _⟩)) (aa_ (fun c => ow_exarg 62 rfl (fun i => bu_ rfl rfl rfl rfl rfl ⟨rfl, .refl _⟩)) (af_ (ae_ (afin_some rfl rfl rfl (fun bS => jl_slot 63 rfl (fun e1 => S_ 0 r_ (T_ (R_ (M_ r_ (M_ r_ (o_ r_ (cg_ r_ r_ g_ ?_))))))))))))))
        refine o_ r_ (ow_callNP [1, 1, 1] rfl rfl (hblk ⟨lv0, lab0 + 1, st0⟩ hs0 il LS (x - 1) 2 ⟨⟨by dsimp only; omega, by dsimp only; omega⟩, hst0, hst1⟩ hil hil2 hLS g_ g_ g_) (fun r n hn hr => ?_))
        obtain ⟨⟨lv1, lab1, st1⟩, v1, l1⟩ := r
        obtain ⟨hok1, hf1, hl1, hsh1⟩ := hr
        dsimp only at hok1 hl1 hsh1 hf1 ⊢
        refine jl_freezeF 67 0 rfl rfl (hf1.mono hn) (F_ r_ (W_ 3 r_ (T_ (am_ (jc_cut (ι := Ms × List Sm) [0, 1, 7] (fun r => r.1.ok ∧ r.2.length ≤ 4 ∧ (r.2 = [] ∧ r.1.lab = lab1 ∨ BlG (StG V A Sh d' il hs0) 2 lab1 r.1.lab r.2)) (fun _ => []) (fun r => [Mk bm bd V r.1.lv A Sh hs0 r.1.lab r.1.st il, Dk bd L, .own r.1.lv 9 1 (LS.map Wrow), .blk bS 57 (Sm.row' (.mk 3 ⟨#[]⟩ [] [e1.1] 0 (lab0 + 1) l1 r.2))]) ?_ ?_)))))
        · refine R_ (M_ r_ (N_ r_ (F_ r_ (L_ 1 r_ (o_ r_ (bt_ [2] rfl rfl (Nx_c _ gv.hL gv.hLn g_) (fun k4 hk4 => o_ r_ (bn_ r_ r_ (T_ (jc_condd rfl (fun h2 => ?_) (fun h2 => ?_)))))))))))
          · refine an_ (M_ r_ (M_ r_ (o_ r_ (cg_ r_ r_ g_ (o_ r_ (ow_callNP [2, 0, 1] rfl rfl (hblk ⟨lv1, lab1, st1⟩ hs0 il LS (x - 1) 2 hok1 hil hil2 hLS g_ g_ g_) (fun r n2 hn2 hr => ?_)))))))
            obtain ⟨⟨lv2, lab2, st2⟩, v2, l2⟩ := r
            obtain ⟨hok2, hf2, hl2, hsh2⟩ := hr
            dsimp only at hok2 hl2 hsh2 hf2 ⊢
            refine jl_freezeF 78 0 rfl rfl (hf2.mono hn2) (F_ r_ (W_ 3 r_ (ak_ ?_)))
            (first | refine jq_row 0 _ rfl (sm_le' 3 ⟨#[]⟩ [] [e1.1] 0 (lab0 + 1) l1 l2 .nil (ex1_le e1.1) (.refl _) (.refl _)) ?_ | refine jq_row 1 _ rfl (sm_le' 3 ⟨#[]⟩ [] [e1.1] 0 (lab0 + 1) l1 l2 .nil (ex1_le e1.1) (.refl _) (.refl _)) ?_ | refine jq_row 2 _ rfl (sm_le' 3 ⟨#[]⟩ [] [e1.1] 0 (lab0 + 1) l1 l2 .nil (ex1_le e1.1) (.refl _) (.refl _)) ?_ | refine jq_row 3 _ rfl (sm_le' 3 ⟨#[]⟩ [] [e1.1] 0 (lab0 + 1) l1 l2 .nil (ex1_le e1.1) (.refl _) (.refl _)) ?_)
            (first | refine jq_cut (⟨lv2, lab2, st2⟩, l2) [1, 1, 1, 0] ⟨hok2, by dsimp only; omega, .inr hsh2⟩ rfl ?_ | refine jq_cut (⟨lv2, lab2, st2⟩, l2) [1, 2, 1, 0] ⟨hok2, by dsimp only; omega, .inr hsh2⟩ rfl ?_ | refine jq_cut (⟨lv2, lab2, st2⟩, l2) [2, 1, 1, 0] ⟨hok2, by dsimp only; omega, .inr hsh2⟩ rfl ?_ | refine jq_cut (⟨lv2, lab2, st2⟩, l2) [2, 2, 1, 0] ⟨hok2, by dsimp only; omega, .inr hsh2⟩ rfl ?_ | refine jq_cut (⟨lv2, lab2, st2⟩, l2) [3, 1, 1, 0] ⟨hok2, by dsimp only; omega, .inr hsh2⟩ rfl ?_ | refine jq_cut (⟨lv2, lab2, st2⟩, l2) [3, 2, 1, 0] ⟨hok2, by dsimp only; omega, .inr hsh2⟩ rfl ?_)
            (repeat (first | exact True.intro | refine ⟨rfl, ?_⟩))
          · refine as_ ?_
            (first | refine jq_row 0 _ rfl (sm_le' 3 ⟨#[]⟩ [] [e1.1] 0 (lab0 + 1) l1 [] .nil (ex1_le e1.1) (.refl _) .nil) ?_ | refine jq_row 1 _ rfl (sm_le' 3 ⟨#[]⟩ [] [e1.1] 0 (lab0 + 1) l1 [] .nil (ex1_le e1.1) (.refl _) .nil) ?_ | refine jq_row 2 _ rfl (sm_le' 3 ⟨#[]⟩ [] [e1.1] 0 (lab0 + 1) l1 [] .nil (ex1_le e1.1) (.refl _) .nil) ?_ | refine jq_row 3 _ rfl (sm_le' 3 ⟨#[]⟩ [] [e1.1] 0 (lab0 + 1) l1 [] .nil (ex1_le e1.1) (.refl _) .nil) ?_)
            (first | refine jq_cut (⟨lv1, lab1, st1⟩, []) [1, 1, 1, 0] ⟨hok1, by simp, .inl ⟨rfl, rfl⟩⟩ rfl ?_ | refine jq_cut (⟨lv1, lab1, st1⟩, []) [1, 2, 1, 0] ⟨hok1, by simp, .inl ⟨rfl, rfl⟩⟩ rfl ?_ | refine jq_cut (⟨lv1, lab1, st1⟩, []) [2, 1, 1, 0] ⟨hok1, by simp, .inl ⟨rfl, rfl⟩⟩ rfl ?_ | refine jq_cut (⟨lv1, lab1, st1⟩, []) [2, 2, 1, 0] ⟨hok1, by simp, .inl ⟨rfl, rfl⟩⟩ rfl ?_ | refine jq_cut (⟨lv1, lab1, st1⟩, []) [3, 1, 1, 0] ⟨hok1, by simp, .inl ⟨rfl, rfl⟩⟩ rfl ?_ | refine jq_cut (⟨lv1, lab1, st1⟩, []) [3, 2, 1, 0] ⟨hok1, by simp, .inl ⟨rfl, rfl⟩⟩ rfl ?_)
            (repeat (first | exact True.intro | refine ⟨rfl, ?_⟩))
        · rintro ⟨⟨lv2, lab2, st2⟩, l2⟩ ⟨hok2, hl2, hsh2⟩
          dsimp only at hok2 hl2 hsh2 ⊢
          exact R_ (A_ 3 r_ (o_ r_ (bq_ r_ r_ b_ r_ r_ b_ (E_ r_ (T_ (ar_ (az_ (aw_ (jq_sle 4 rfl (SLe.cell (CLe.list (.cons (sm_le 3 ⟨#[]⟩ [] [e1.1] 0 (lab0 + 1) l1 l2 (.refl _) (.refl _) (.refl _) (.refl _)) .nil))) (jq_ret1 rfl rfl [0, 0, 0] rfl (fin1 _ ⟨lv2, lab2, st2⟩ hok2 (.inn (.inl ⟨hl12, e1.1, l1, l2, lab1, e1.2, hsh1, hsh2, rfl⟩)))))))))))))
      · refine am_ (jc_cut (ι := Bool) [0, 1, 26] (fun b => b = decide (k = 6 ∨ k = 7)) (fun b => [(82, Bl b)]) (fun _ => [Mk bm bd V lv0 A Sh hs0 lab0 st0 il, Dk bd L, .own lv0 9 1 (LS.map Wrow)]) ?_ ?_)
        · refine R_ (o_ r_ (bn_ r_ r_ (E_ r_ (T_ (jc_condd rfl (fun h6 => ?_) (fun h6 => ?_))))))
          · refine as_ (jq_cut (decide (k = 6)) [0, 0, 0] (by rw [decide_eq_decide]; omega) rfl ?_)
            (repeat (first | exact True.intro | refine ⟨rfl, ?_⟩))
          · refine an_ (o_ r_ (bn_ r_ r_ (E_ r_ (ak_ (jq_cut (decide (k = 7)) [0, 0, 0] (by rw [decide_eq_decide]; omega) rfl ?_)))))
            (repeat (first | exact True.intro | refine ⟨rfl, ?_⟩))
        intro b hb
        refine jc_cond rfl (fun hbt => ?_) (fun hbt => ?_)
        · have hk6 : k = 6 ∨ k = 7 := by rw [hb] at hbt; exact of_decide_eq_true hbt
          obtain ⟨hx0, hl12⟩ := hkd (by omega)
          obtain ⟨d', rfl⟩ : ∃ d', d = d' + 1 := ⟨d - 1, by omega⟩
          have hloop := hloop d' rfl
          clear hblk
          refine R_ (M_ r_ (N_ r_ (F_ r_ (L_ 0 r_ (o_ r_ (bw_ r_ r_ (T_ (jc_condd rfl (fun hil1 => ?_) (fun hil1 => ?_)))))))))
          · refine R_ (M_ r_ (M_ r_ (o_ r_ (bt_ [0, 0, 0] rfl rfl (hloop ⟨lv0, lab0, st0⟩ hs0 il LS x ⟨⟨hlab0, hlab1⟩, hst0, hst1⟩ (by dsimp only; omega) hil g_ hLS hx) (fun r hr => ?_)))))
            obtain ⟨m1, l1⟩ := r
            dsimp only at hr ⊢
            exact E_ r_ (T_ (ar_ (az_ (aw_ (jq_ret1 rfl rfl [0, 0, 0] rfl (fun K h => h (m1, l1) ⟨hr.1, hr.2.1, .inn (.inr (.inl hr.2.2))⟩))))))
          · refine as_ (ay_ (jq_cut () [0, 0, 0] trivial rfl ?_))
            (repeat (first | exact True.intro | refine ⟨rfl, ?_⟩))
        · refine R_ (o_ r_ (bn_ r_ r_ (E_ r_ (T_ (jc_condd rfl (fun h8 => ?_) (fun h8 => ?_))))))
          · obtain ⟨hx0, hl12⟩ := hkd (by omega)
            obtain ⟨d', rfl⟩ : ∃ d', d = d' + 1 := ⟨d - 1, by omega⟩
            have hblk := hblk d' rfl
            clear hloop
            refine am_ (jc_cut (ι := Bool) [0, 1] (fun b => b = true → hs0 = ⟨#[]⟩ ∧ 0 < Sh.length) (fun b => [(107, Bl b)]) (fun _ => [Mk bm bd V lv0 A Sh hs0 lab0 st0 il, Dk bd L, .own lv0 9 1 (LS.map Wrow)]) ?_ ?_)
            · by_cases hh : hs0 = ⟨#[]⟩
              · refine an_ (M_ r_ (N_ r_ (F_ r_ (L_ 0 r_ (o_ r_ (cs_ r_ r_ (M_ r_ (ah_ r_ u_ b_ (bd_ r_ (ah_ r_ u_ b_ (bh_ r_ (ah_ r_ u_ b_ (bf_ r_ r_ r_ b_ (ah_ r_ u_ b_ (bg_ 0 r_ r_ r_ r_ (ah_ r_ u_ b_ (br_ r_ (fun hlen => ah_ r_ u_ b_ (bz_ r_ r_ (o_ r_ (bp_ r_ u_ r_ (ak_ (jq_cut (decide (0 < ((Sh.map ShRow).length : Int))) [0, 0, 0] (by simp [hh]) rfl ?_)))))))))))))))))))))))
                (repeat (first | exact True.intro | refine ⟨rfl, ?_⟩))
              · refine an_ (M_ r_ (N_ r_ (F_ r_ (L_ 0 r_ (o_ r_ (cs_ r_ r_ (M_ r_ (ai_ r_ w_ b_ (ai_ r_ w_ b_ (ai_ r_ w_ b_ (ai_ r_ w_ b_ (ai_ r_ w_ b_ (ai_ r_ w_ b_ (o_ r_ (bv_ r_ w_ r_ (ak_ (jq_cut false [0, 0, 0] (by simp) rfl ?_)))))))))))))))))
                (repeat (first | exact True.intro | refine ⟨rfl, ?_⟩))
            intro b2 hb2
            refine jc_cond rfl (fun hbt => ?_) (fun hbt => ?_)
            · obtain ⟨rfl, hSh0⟩ := hb2 hbt
              have hShm := gv.hSh
              have eSh : (Sh.map ShRow).length = Sh.length := List.length_map _
              refine am_ (jc_anyB 18 none rfl k_ k_ (yM_ r_ (yM_ r_ (yN_ r_ (yF_ r_ (yL_ 0 r_ (yM_ r_ (yN_ r_ (yF_ r_ (yL_ 0 r_ (yM_ r_ (yN_ r_ (yF_ r_ (yL_ 0 r_ (aa_ (fun c => br_ r_ (fun hlen => p_)) ?_)))))))))))))))
              refine aa_ (fun c => ow_callA [1] r_ r_ (gNext_c L _ _ gv.hL gv.hLn g_)) (aa_ (fun c => ow_exarg 122 rfl (fun i => cv_ rfl rfl (by have := i.2; omega) (by have := i.2; omega) rfl rfl b_ ⟨rfl, .refl _⟩)) (aa_ (fun c => ow_exarg 123 rfl (fun i => cf_ rfl rfl rfl b_ rfl b_ ⟨rfl, .refl _⟩)) (aa_ (fun c => ow_exarg 124 rfl (fun i => cb_ rfl rfl ⟨rfl, .refl _⟩)) (ae_ (afin_none (jl_slot 125 rfl (fun i => N_ r_ (F_ r_ ?_))))))))
              refine W_ 0 r_ (T_ (R_ (M_ r_ (N_ r_ (F_ r_ (L_ 0 r_ (E_ r_ (T_ (R_ (M_ r_ (M_ r_ (M_ r_ (o_ r_ (cg_ r_ r_ g_ (o_ r_ (ow_callNP [0, 0, 0] rfl rfl (hblk ⟨lv0, lab0, st0⟩ Sh[i.1.toNat].2.2 il LS (x - 1) 2 ⟨⟨hlab0, hlab1⟩, hst0, hst1⟩ hil hil2 hLS g_ g_ g_) (fun r n hn hr => ?_)))))))))))))))))
              obtain ⟨⟨lv1, lab1, st1⟩, v1, l1⟩ := r
              obtain ⟨hok1, hf1, hl1, hsh1⟩ := hr
              dsimp only at hok1 hl1 hsh1 hf1 ⊢
              refine jl_freezeF 136 0 rfl rfl (hf1.mono hn) (o_ r_ (bu_ r_ r_ r_ r_ r_ (o_ r_ (bl_ r_ r_ (fun bl => S_ 0 r_ (T_ (R_ (M_ r_ (N_ r_ (F_ r_ (W_ 1 r_ (T_ (R_ (A_ 1 r_ (o_ r_ (bq_ r_ r_ b_ r_ r_ b_ (E_ r_ (T_ ?_))))))))))))))))))
              refine ar_ (az_ (aw_ (jq_sle 4 rfl (SLe.cell (CLe.list (.cons (sm_le 5 Sh[i.1.toNat].2.2 [] [] 0 0 l1 [] .nil .nil (.refl _) .nil) .nil))) ?_)))
              first | exact jq_ret1 rfl rfl [0, 1, 1] rfl (fin1 _ ⟨lv1, lab1, st1⟩ hok1 (.inn (.inr (.inr ⟨rfl, _, List.getElem_mem (h := by have := i.2; omega), l1, hsh1, rfl⟩)))) | exact jq_ret1 rfl rfl [0, 2, 1] rfl (fin1 _ ⟨lv1, lab1, st1⟩ hok1 (.inn (.inr (.inr ⟨rfl, _, List.getElem_mem (h := by have := i.2; omega), l1, hsh1, rfl⟩)))) | exact jq_ret1 rfl rfl [0, 0, 0] rfl (fin1 _ ⟨lv1, lab1, st1⟩ hok1 (.inn (.inr (.inr ⟨rfl, _, List.getElem_mem (h := by have := i.2; omega), l1, hsh1, rfl⟩)))) | exact jq_ret1 rfl rfl [0, 0, 1] rfl (fin1 _ ⟨lv1, lab1, st1⟩ hok1 (.inn (.inr (.inr ⟨rfl, _, List.getElem_mem (h := by have := i.2; omega), l1, hsh1, rfl⟩)))) | exact jq_ret1 rfl rfl [0, 1, 0] rfl (fin1 _ ⟨lv1, lab1, st1⟩ hok1 (.inn (.inr (.inr ⟨rfl, _, List.getElem_mem (h := by have := i.2; omega), l1, hsh1, rfl⟩)))) | exact jq_ret1 rfl rfl [1, 0, 0] rfl (fin1 _ ⟨lv1, lab1, st1⟩ hok1 (.inn (.inr (.inr ⟨rfl, _, List.getElem_mem (h := by have := i.2; omega), l1, hsh1, rfl⟩)))) | exact jq_ret1 rfl rfl [1, 1, 0] rfl (fin1 _ ⟨lv1, lab1, st1⟩ hok1 (.inn (.inr (.inr ⟨rfl, _, List.getElem_mem (h := by have := i.2; omega), l1, hsh1, rfl⟩))))
            · refine as_ (ay_ (jq_cut () [0, 0, 0] trivial rfl ?_))
              (repeat (first | exact True.intro | refine ⟨rfl, ?_⟩))
          · refine as_ (ay_ (jq_cut () [0, 0, 0] trivial rfl ?_))
            (repeat (first | exact True.intro | refine ⟨rfl, ?_⟩))
  · intro _ _
    refine R_ (M_ r_ (o_ r_ (bt_ [0, 0, 0] rfl rfl (gtarget_c gv.hL gv.hLn gv.hV0 gv.hV g_) (fun s1 hs1 => M_ r_ (o_ r_ (bt_ [0, 0] rfl rfl (gexpr_c gv.hL gv.hLn gv.hV0 gv.hV gv.hA gv.hSh 2 2 g_ g_ g_) (fun e1 he1 => o_ r_ (bq_ r_ r_ b_ r_ r_ b_ (o_ r_ (bu_ r_ r_ r_ r_ r_ (o_ r_ (bq_ r_ r_ b_ r_ r_ b_ (E_ r_ (T_ (ar_ ?_)))))))))))))))
    exact jq_sle 4 rfl (SLe.cell (CLe.list (.cons (sm_le 1 s1 [] [e1] 0 0 [] [] .nil (ex1_le e1) .nil .nil) .nil))) (jq_ret1 rfl rfl [0, 0, 0] rfl (fin0 _ ⟨rfl, .inl ⟨s1, e1, hs1, he1, rfl⟩⟩))
end
end Go.Proofs.YtamajcgdfjeehaaGreatDoor
end
