import Derived.Test.YtlniadfidfmckaaDoorMl1
import Derived.Lib.SliceRun
import Derived.Laws.OwnMore
import Derived.Laws.StructEq
import Derived.OrdersHeld
import Derived.Test.YtlniadfidfmckaaDoorProg
import Derived.KernelRfl
import Derived.Recover
section
namespace Go.Vc

section
variable {α : Type} (key : α → Int)
end
end Go.Vc
end

section
namespace Go.Vc
open Go.RowKit

section
variable {P : Program} [Gl P] {nt : Nat} {c : Cx P nt} {env : Env} {H : List Ch} {K : S → List Ch → Prop}
variable {d : Option Tmp} {ty t t' : TypeId} {pos : String} {af : Array Edge} {g : Option (Nat × Bool)} {x y : Operand}

end
end Go.Vc
end

section
namespace Go.Vc
open Go.RowKit

section
variable {P : Program} [Gl P] {nt : Nat} {c : Cx P nt} {env : Env} {H : List Ch} {K : S → List Ch → Prop}
variable {d : Option Tmp} {ty t t' : TypeId} {pos : String} {af : Array Edge} {g : Option (Nat × Bool)} {x y : Operand}

/-- What is asked of a type of two integers, to compare its values. -/
structure Two (P : Program) (t : TypeId) (u : TypeId) (k : IntKind) : Prop where
  ht : P.underlying t = some (.struct (P.fieldsOf t))
  hp : P.stoodInHeld t = false
  hm : P.eqGuardType P.depth t = false
  hf : ∃ f0 f1, (P.fieldsOf t).toList = [f0, f1] ∧ f0.name ≠ "_" ∧ f1.name ≠ "_" ∧ f0.offset = 0 ∧ f1.offset = 1 ∧ f0.type = u ∧ f1.type = u
  hu : P.underlying u = some (.int k)
end
end Go.Vc
end

section
namespace Go.Vc
open Go.RowKit

def Keep (L : List (Nat × List Value × TypeId)) (w : World) : Prop := ∀ p ∈ L, w.heap[p.1]? = some (.cells p.2.1.toArray p.2.2 (0, 0))
theorem rdRow_vals {w : World} {A : Nat → Prop} : ∀ {vs cs : List Value}, RdRow w A (vs.map C.val) cs → cs = vs
  | [], _, h => h
  | v :: vs, _, h => by
    obtain ⟨x, r, rfl, g1, g2⟩ := h
    rw [g1.1, rdRow_vals g2]
theorem rdRow_exact {w w' : World} {A A' : Nat → Prop} {row : List C} {cs : List Value} (h : RdRow w A row cs) : RdRow w' A' (cs.map C.val) cs := by
  have h1 := rdRow_one h
  clear h
  induction cs with
  | nil => rfl
  | cons v vs ih => exact ⟨v, vs, rfl, ⟨rfl, h1 v (by simp)⟩, ih (fun u hu => h1 u (by simp [hu]))⟩

section
variable {P : Program} [Gl P] {nt : Nat} {c : Cx P nt} {env : Env} {H Hr : List Ch} {ops : Array Oper} {Q : Exit → Act → World → Prop} {Sw : World → Prop} {L : List (Nat × List Value × TypeId)}
variable {fuel : Nat} {listed : Array Bool} {d ty t t' : TypeId} {pos : String} {af : Array Edge} {x y : Operand}

def HOk (c : Cx P nt) (Sw : World → Prop) (env : Env) (H : List Ch) (o : Oper) (s : S) : Prop :=
  ∀ a w, St c env H a w → Sw w → ∃ v, (∀ w', Sw w' → (execOp a.eval o).run P w' = .ok (.value v) w') ∧ SOk w (c.av H) s v

/-- What stands in H still stands. -/
theorem keep_of (h : ∀ p ∈ L, Ch.blk p.1 p.2.2 (p.2.1.map C.val) ∈ H) : ∀ w, StW c H w → Keep L w := by
  intro w hw p hp
  obtain ⟨cs, g1, g2⟩ := hw.ok _ (h p hp)
  rw [rdRow_vals g2] at g1
  exact g1
theorem hok_move {d : Option Tmp} {s : S} (hx : env.ev x = some s) : HOk c Sw env H ⟨d, .move x, ty, pos, af, none⟩ s :=
  fun a _ hst _ => ⟨a.eval x, fun _ _ => rfl, ev_ok hst hx⟩
theorem hok_add {d : Option Tmp} {m n : Int} (hx : env.ev x = some (In .i64 m)) (hy : env.ev y = some (In .i64 n)) (hb : -9223372036854775808 ≤ m + n ∧ m + n ≤ 9223372036854775807) : HOk c Sw env H ⟨d, .binOp .add t x y t', ty, pos, af, none⟩ (In .i64 (m + n)) :=
  fun _ _ hst _ => ⟨.int .i64 (m + n), fun _ _ => by simp [execOp, ev_val hst hx, ev_val hst hy, eqGuard, binOp, Op.intArith, IntWalk.i64_in _ hb], rfl, rfl⟩
theorem hok_extract {d : Option Tmp} {l : List S} {i : Nat} {s : S} (hx : env.ev x = some (.tup l)) (hi : l[i]? = some s) : HOk c Sw env H ⟨d, .extract x i, ty, pos, af, none⟩ s :=
  fun _ _ h _ => by
    obtain ⟨vs, he, hs⟩ := ev_ok h hx
    obtain ⟨v, hv, hr⟩ := soks_get hs hi
    have hv' : vs.toArray[i]? = some v := by simpa using hv
    exact ⟨v, fun _ _ => by simp only [execOp, he, Instr.extract, hv', Sem.run_bind, Sem.run_pure, Result.andThen_ok], hr⟩
theorem hok_fieldAddr {d : Option Tmp} {b o f off size : Nat} [TI P t] [TS P t] (hs : structB (TI.u P t) = true) (hx : env.ev x = some (.cell (.val (.pointer (some ⟨b, o, none⟩))))) (hf : (TS.pl P t)[f]? = some (off, size)) (hz : 0 < size) :
    HOk c Sw env H ⟨d, .fieldAddr t x f, ty, pos, af, none⟩ (.cell (.val (.pointer (some ⟨b, o + off, none⟩)))) :=
  fun _ _ hst _ => ⟨.pointer (some ⟨b, o + off, none⟩), fun _ _ => by simp only [execOp, ev_val hst hx, Sem.run_bind, run_fieldAt t hs hf hz, Result.andThen_ok, Sem.run_pure], rfl, rfl⟩
theorem blk_keep {a : Act} {w : World} {b : Nat} {bt : TypeId} {row : List C} {cs : List Value} {is : List Nat} (hst : St c env H a w) (hp : pick is H = some ([.blk b bt row], Hr)) (hS : Keep L w) (hm : (b, cs, bt) ∈ L) : RdRow w (c.av H) row cs := by
  obtain ⟨cs', g1, g2⟩ := blk_ok hst hp
  have g3 := hS _ hm
  dsimp only at g3
  rw [g1] at g3
  obtain rfl : cs' = cs := by simpa using g3
  exact g2
theorem hok_load {d : Option Tmp} {b o : Nat} {row : List C} {e : C} {bt : TypeId} {cs : List Value} [TI P t] (j : Nat) (ha : aggB (TI.u P t) = false) (hx : env.ev x = some (.cell (.val (.pointer (some ⟨b, o, none⟩))))) (hp : pick [j] H = some ([.blk b bt row], Hr))
    (hm : (b, cs, bt) ∈ L) (he : row[o]? = some e) : HOk c (Keep L) env H ⟨d, .load t x, ty, pos, af, none⟩ (.cell e) :=
  fun _ _ hst hS => by
    obtain ⟨v, hv, hrd⟩ := rdRow_get (blk_keep hst hp hS hm) he
    refine ⟨v, fun w' hS' => ?_, hrd⟩
    have hh := hS' _ hm
    simp only [execOp, ev_val hst hx, Instr.loadAt, Instr.sureAddr, Sem.run_bind, Sem.run_pure, Result.andThen_ok, run_loadVar1 t ha (show w'.cell? ⟨b, o, none⟩ = some v by simp [World.cell?, hh, hv])]
theorem hok_loadAll {d : Option Tmp} {b : Nat} {row : List C} {bt : TypeId} {cs : List Value} [TI P t] (j : Nat) (ha : aggB (TI.u P t) = true) (hx : env.ev x = some (.cell (.val (.pointer (some ⟨b, 0, none⟩))))) (hp : pick [j] H = some ([.blk b bt row], Hr))
    (hm : (b, cs, bt) ∈ L) (hz : (TI.i P t).size = row.length) : HOk c (Keep L) env H ⟨d, .load t x, ty, pos, af, none⟩ (.row row) :=
  fun _ _ hst hS => by
    have hrd := blk_keep hst hp hS hm
    refine ⟨.agg cs.toArray, fun w' hS' => ?_, cs.toArray, rfl, by simpa using hrd⟩
    have hh := hS' _ hm
    simp only [execOp, ev_val hst hx, Instr.loadAt, Instr.sureAddr, Sem.run_bind, Sem.run_pure, Result.andThen_ok, run_loadVarN t ha (hz.trans (rdRow_length hrd).symm) (cells_of_blk hh 0)]
end
end Go.Vc
end

section
namespace Go.Vc
open Go.RowKit

section
variable {P : Program} [Gl P] {nt : Nat} {c : Cx P nt} {env : Env} {H : List Ch}
end
end Go.Vc
end

section
namespace Go.Vc
open Go.RowKit

section
variable {P : Program} [Gl P] {nt : Nat} {c : Cx P nt} {env : Env} {H : List Ch} {K : S → List Ch → Prop}
variable {d : Option Tmp} {ty t t' : TypeId} {pos : String} {af : Array Edge} {g : Option (Nat × Bool)} {x y : Operand}
/-- An element of an array, by its address. -/
theorem ow_indexArr {b o n : Nat} {e : TypeId} {m : Int} [TI P t] [TI P e] (hu : TI.u P t = .array n e) (hx : env.ev x = some (.cell (.val (.pointer (some ⟨b, o, none⟩))))) (hy : env.ev y = some (In .i64 m)) (h0 : 0 ≤ m) (hlt : m < (n : Int))
    (hK : K (.cell (.val (.pointer (some ⟨b, o + m.toNat * (TI.i P e).size, none⟩)))) H) : OpWp c ⟨d, .indexAddr t x y, ty, pos, af, g⟩ env H K :=
  ow_valx rfl (fun a w h => by
    have hu' : (underlying t).run P w = .ok (.array n e) w := by rw [run_underlying (TI.hu (P := P) (t := t)), hu]
    simp [execOp, ev_val h hx, ev_val h hy, Instr.indexAt, asIntOf, hu', Instr.sureAddr, h0, hlt, run_sizeOf, add_at]) hK
theorem rdRows_flat {w : World} {A : Nat → Prop} {k : Nat} : ∀ {rows : List (List C)} {vs : List Value}, RdRows w A k rows vs → RdRow w A rows.flatten vs
  | [], _, h => h
  | _ :: _, _, ⟨x, r, e, _, g1, g2⟩ => by subst e; exact rdRow_append g1 (rdRows_flat g2)
/-- An array that is written out, all its elements in order. -/
theorem ow_buildArr {n : Nat} {e : TypeId} [TI P t] [TI P e] (hu : TI.u P t = .array n e) {z : Value} (hz : (TI.i P t).zero = some z) {ps : Array (Nat × Operand)} {ss : List (Nat × S)} (hp : env.parts ps.toList = some ss) {rows : List (List C)}
    (hs : sliceRows (TI.i P e).size 0 ss = some rows) (hl : z.cells.toList.length = rows.length * (TI.i P e).size) (hK : K (.row rows.flatten) H) : OpWp c ⟨d, .build t ps, ty, pos, af, g⟩ env H K :=
  ow_val (s := .row rows.flatten) (fun a w h => by
    obtain ⟨cs, g1, g2⟩ := fill_rows (pre := []) (post := z.cells.toList) (parts_ok h hp) hs (by simp) hl
    refine ⟨.agg cs.toArray, ?_, cs.toArray, rfl, by simpa using rdRows_flat g2⟩
    simp only [List.nil_append, Array.toArray_toList] at g1
    have hu' : (underlying t).run P w = .ok (.array n e) w := by rw [run_underlying (TI.hu (P := P) (t := t)), hu]
    simp only [execOp, Instr.build, Sem.run_bind, run_zeroValue t hz, hu', run_sizeOf, Result.andThen_ok, Array.toList_map, g1, Sem.run_pure]) hK
/-- A package variable that reads so. -/
def GV (w : World) (A : Nat → Prop) (b : Nat) (row : List C) : Prop := ¬ A b ∧ ∃ cs t f, w.heap[b]? = some (.cells cs t f) ∧ RdRow w A row cs.toList
theorem GV.up {w w' : World} {A A' : Nat → Prop} {b : Nat} {row : List C} (hu : Up A w w') (hA : ∀ b, A' b → A b ∨ w.heap.size ≤ b) (h : GV w A b row) : GV w' A' b row := by
  obtain ⟨h1, cs, t, f, h2, h3⟩ := h
  have hlt : b < w.heap.size := (Array.getElem?_eq_some_iff.1 h2).1
  exact ⟨fun h => (hA b h).elim h1 (by omega), cs, t, f, by rw [hu.block b hlt h1]; exact h2, rdRow_up hu hA _ _ h3⟩
theorem ow_loadG [TI P t] {b o : Nat} {row : List C} {e : C} (hg : ∀ w A, Gl.ok P w A → GV w A b row) (ha : aggB (TI.u P t) = false) (hx : env.ev x = some (.cell (.val (.pointer (some ⟨b, o, none⟩))))) (he : row[o]? = some e) (hK : K (.cell e) H) : OpWp c ⟨d, .load t x, ty, pos, af, g⟩ env H K :=
  ow_val (fun a w h => by
    obtain ⟨_, cs, bt, f, hh, hr⟩ := hg _ _ h.heap.gl
    obtain ⟨v, hv, hrd⟩ := rdRow_get hr he
    refine ⟨v, ?_, hrd⟩
    simp only [execOp, ev_val h hx, Instr.loadAt, Instr.sureAddr, Sem.run_bind, Sem.run_pure, Result.andThen_ok, run_loadVar1 t ha (show w.cell? ⟨b, o, none⟩ = some v by simp [World.cell?, hh]; simpa using hv)]) hK
end
end Go.Vc
end

section
namespace Go.Proofs.YtlniadfidfmckaaDoor
open Go.Vc

def words : List ByteArray := [⟨#[114, 101, 115, 111, 117, 114, 99, 101]⟩, ⟨#[115, 104, 97, 114, 101, 100]⟩, ⟨#[116, 97, 115, 107]⟩, ⟨#[112, 101, 114, 105, 111, 100]⟩, ⟨#[100, 101, 97, 100, 108, 105, 110, 101]⟩, ⟨#[112, 114, 105, 111, 114, 105, 116, 121]⟩, ⟨#[106, 105, 116, 116, 101, 114]⟩, ⟨#[105, 110, 112, 117, 116]⟩, ⟨#[118, 97, 114]⟩, ⟨#[97, 114, 114, 97, 121]⟩, ⟨#[109, 111, 100, 101]⟩, ⟨#[110, 101, 118, 101, 114]⟩, ⟨#[98, 111, 100, 121]⟩, ⟨#[101, 110, 100]⟩, ⟨#[105, 102]⟩, ⟨#[108, 97, 98, 101, 108]⟩, ⟨#[101, 108, 115, 101]⟩, ⟨#[119, 104, 105, 108, 101]⟩, ⟨#[109, 97, 120]⟩, ⟨#[108, 111, 99, 107]⟩]
def signL : List ByteArray := [⟨#[43]⟩, ⟨#[45]⟩, ⟨#[42]⟩, ⟨#[47]⟩, ⟨#[37]⟩, ⟨#[38]⟩, ⟨#[124]⟩, ⟨#[94]⟩, ⟨#[60, 60]⟩, ⟨#[62, 62]⟩, ⟨#[60]⟩, ⟨#[60, 61]⟩, ⟨#[61, 61]⟩, ⟨#[33, 61]⟩]
def addL : List ByteArray := [⟨#[43]⟩, ⟨#[45]⟩, ⟨#[124]⟩, ⟨#[94]⟩]
def mulL : List ByteArray := [⟨#[42]⟩, ⟨#[47]⟩, ⟨#[37]⟩, ⟨#[38]⟩, ⟨#[60, 60]⟩, ⟨#[62, 62]⟩]
def cmpL : List ByteArray := [⟨#[60]⟩, ⟨#[60, 61]⟩, ⟨#[61, 61]⟩, ⟨#[33, 61]⟩]
abbrev Wrow (s : ByteArray) : List C := [.val (.string s)]
instance gl : Gl Tryd.prog where
  ok w A := GV w A 3 [.list (words.map Wrow)] ∧ GV w A 2 (signL.map (fun s => .val (.string s))) ∧ GV w A 1 [.list (addL.map Wrow), .list (mulL.map Wrow)] ∧ GV w A 0 [.list (cmpL.map Wrow)]
  up := fun hu hA ⟨h2, h3, h4, h5⟩ => ⟨h2.up hu hA, h3.up hu hA, h4.up hu hA, h5.up hu hA⟩
theorem gl_words (w : World) (A : Nat → Prop) (h : Gl.ok Tryd.prog w A) : GV w A 3 [.list (words.map Wrow)] := h.1
theorem gl_signs (w : World) (A : Nat → Prop) (h : Gl.ok Tryd.prog w A) : GV w A 2 (signL.map (fun s => .val (.string s))) := h.2.1
theorem gl_lines (w : World) (A : Nat → Prop) (h : Gl.ok Tryd.prog w A) : GV w A 1 [.list (addL.map Wrow), .list (mulL.map Wrow)] := h.2.2.1
theorem gl_cmps (w : World) (A : Nat → Prop) (h : Gl.ok Tryd.prog w A) : GV w A 0 [.list (cmpL.map Wrow)] := h.2.2.2
end Go.Proofs.YtlniadfidfmckaaDoor
end

section
namespace Go.Proofs.YtlniadfidfmckaaDoor
open Go.Vc

noncomputable instance ti3 : TI Tryd.prog 3 := ⟨_, Tryd.underlying3, Tryd.t3, by kernel_rfl⟩
noncomputable instance ti4 : TI Tryd.prog 4 := ⟨_, Tryd.underlying4, Tryd.t4, by kernel_rfl⟩
noncomputable instance ti5 : TI Tryd.prog 5 := ⟨_, Tryd.underlying5, Tryd.t5, by kernel_rfl⟩
noncomputable instance ti9 : TI Tryd.prog 9 := ⟨_, Tryd.underlying9, Tryd.t9, by kernel_rfl⟩
noncomputable instance ti20 : TI Tryd.prog 20 := ⟨_, Tryd.underlying20, Tryd.t20, by kernel_rfl⟩
noncomputable instance ti22 : TI Tryd.prog 22 := ⟨_, Tryd.underlying22, Tryd.t22, by kernel_rfl⟩
noncomputable instance ti26 : TI Tryd.prog 26 := ⟨_, Tryd.underlying26, Tryd.t26, by kernel_rfl⟩
noncomputable instance ti29 : TI Tryd.prog 29 := ⟨_, Tryd.underlying29, Tryd.t29, by kernel_rfl⟩
noncomputable instance ti30 : TI Tryd.prog 30 := ⟨_, Tryd.underlying30, Tryd.t30, by kernel_rfl⟩
noncomputable instance ti31 : TI Tryd.prog 31 := ⟨_, Tryd.underlying31, Tryd.t31, by kernel_rfl⟩
noncomputable instance ti33 : TI Tryd.prog 33 := ⟨_, Tryd.underlying33, Tryd.t33, by kernel_rfl⟩
noncomputable instance ti35 : TI Tryd.prog 35 := ⟨_, Tryd.underlying35, Tryd.t35, by kernel_rfl⟩
noncomputable instance ti42 : TI Tryd.prog 42 := ⟨_, Tryd.underlying42, Tryd.t42, by kernel_rfl⟩
noncomputable instance ti45 : TI Tryd.prog 45 := ⟨_, Tryd.underlying45, Tryd.t45, by kernel_rfl⟩
noncomputable instance ti47 : TI Tryd.prog 47 := ⟨_, Tryd.underlying47, Tryd.t47, by kernel_rfl⟩
noncomputable instance ti52 : TI Tryd.prog 52 := ⟨_, Tryd.underlying52, Tryd.t52, by kernel_rfl⟩
noncomputable instance ti53 : TI Tryd.prog 53 := ⟨_, Tryd.underlying53, Tryd.t53, by kernel_rfl⟩
noncomputable instance ti55 : TI Tryd.prog 55 := ⟨_, Tryd.underlying55, Tryd.t55, by kernel_rfl⟩
noncomputable instance ti57 : TI Tryd.prog 57 := ⟨_, Tryd.underlying57, Tryd.t57, by kernel_rfl⟩
noncomputable instance ti63 : TI Tryd.prog 63 := ⟨_, Tryd.underlying63, Tryd.t63, by kernel_rfl⟩
noncomputable instance ti67 : TI Tryd.prog 67 := ⟨_, Tryd.underlying67, Tryd.t67, by kernel_rfl⟩
noncomputable instance ti72 : TI Tryd.prog 72 := ⟨_, Tryd.underlying72, Tryd.t72, by kernel_rfl⟩
noncomputable instance ti73 : TI Tryd.prog 73 := ⟨_, Tryd.underlying73, Tryd.t73, by kernel_rfl⟩
noncomputable instance ti74 : TI Tryd.prog 74 := ⟨_, Tryd.underlying74, Tryd.t74, by kernel_rfl⟩
noncomputable instance ti75 : TI Tryd.prog 75 := ⟨_, Tryd.underlying75, Tryd.t75, by kernel_rfl⟩
noncomputable instance ti76 : TI Tryd.prog 76 := ⟨_, Tryd.underlying76, Tryd.t76, by kernel_rfl⟩
noncomputable instance ti78 : TI Tryd.prog 78 := ⟨_, Tryd.underlying78, Tryd.t78, by kernel_rfl⟩
noncomputable instance ti80 : TI Tryd.prog 80 := ⟨_, Tryd.underlying80, Tryd.t80, by kernel_rfl⟩
noncomputable instance ti82 : TI Tryd.prog 82 := ⟨_, Tryd.underlying82, Tryd.t82, by kernel_rfl⟩
noncomputable instance ti85 : TI Tryd.prog 85 := ⟨_, Tryd.underlying85, Tryd.t85, by kernel_rfl⟩
noncomputable instance ti87 : TI Tryd.prog 87 := ⟨_, Tryd.underlying87, Tryd.t87, by kernel_rfl⟩
noncomputable instance ti89 : TI Tryd.prog 89 := ⟨_, Tryd.underlying89, Tryd.t89, by kernel_rfl⟩
noncomputable instance ti92 : TI Tryd.prog 92 := ⟨_, Tryd.underlying92, Tryd.t92, by kernel_rfl⟩
noncomputable instance ti111 : TI Tryd.prog 111 := ⟨_, Tryd.underlying111, Tryd.t111, by kernel_rfl⟩
noncomputable instance ti115 : TI Tryd.prog 115 := ⟨_, Tryd.underlying115, Tryd.t115, by kernel_rfl⟩
noncomputable instance ti122 : TI Tryd.prog 122 := ⟨_, Tryd.underlying122, Tryd.t122, by kernel_rfl⟩
noncomputable instance ti123 : TI Tryd.prog 123 := ⟨_, Tryd.underlying123, Tryd.t123, by kernel_rfl⟩
noncomputable instance ti126 : TI Tryd.prog 126 := ⟨_, Tryd.underlying126, Tryd.t126, by kernel_rfl⟩
noncomputable instance ti134 : TI Tryd.prog 134 := ⟨_, Tryd.underlying134, Tryd.t134, by kernel_rfl⟩
noncomputable instance ti136 : TI Tryd.prog 136 := ⟨_, Tryd.underlying136, Tryd.t136, by kernel_rfl⟩
noncomputable instance sl22 : SL Tryd.prog 22 := ⟨3, inferInstance, Tryd.underlying22⟩
noncomputable instance sl23 : SL Tryd.prog 23 := ⟨5, inferInstance, Tryd.underlying23⟩
noncomputable instance sl29 : SL Tryd.prog 29 := ⟨9, inferInstance, Tryd.underlying29⟩
noncomputable instance sl30 : SL Tryd.prog 30 := ⟨82, inferInstance, Tryd.underlying30⟩
noncomputable instance sl31 : SL Tryd.prog 31 := ⟨78, inferInstance, Tryd.underlying31⟩
noncomputable instance sl42 : SL Tryd.prog 42 := ⟨63, inferInstance, Tryd.underlying42⟩
noncomputable instance sl45 : SL Tryd.prog 45 := ⟨47, inferInstance, Tryd.underlying45⟩
noncomputable instance sl72 : SL Tryd.prog 72 := ⟨85, inferInstance, Tryd.underlying72⟩
noncomputable instance sl73 : SL Tryd.prog 73 := ⟨80, inferInstance, Tryd.underlying73⟩
noncomputable instance sl74 : SL Tryd.prog 74 := ⟨87, inferInstance, Tryd.underlying74⟩
noncomputable instance sl75 : SL Tryd.prog 75 := ⟨89, inferInstance, Tryd.underlying75⟩
noncomputable instance sl76 : SL Tryd.prog 76 := ⟨111, inferInstance, Tryd.underlying76⟩
noncomputable instance sl124 : SL Tryd.prog 124 := ⟨123, inferInstance, Tryd.underlying124⟩
noncomputable instance mp94 : MP Tryd.prog 94 := ⟨9, 4, Tryd.underlying94, Tryd.underlying9⟩
noncomputable instance mpe94 : TI Tryd.prog (MP.e Tryd.prog 94) := inferInstanceAs (TI Tryd.prog 4)
instance fi4 : FI Tryd.prog 4 := ⟨fun args w => by kernel_rfl⟩
instance fi5 : FI Tryd.prog 5 := ⟨fun args w => by kernel_rfl⟩
instance fi6 : FI Tryd.prog 6 := ⟨fun args w => by kernel_rfl⟩
instance fi7 : FI Tryd.prog 7 := ⟨fun args w => by kernel_rfl⟩
instance fi8 : FI Tryd.prog 8 := ⟨fun args w => by kernel_rfl⟩
instance fi9 : FI Tryd.prog 9 := ⟨fun args w => by kernel_rfl⟩
instance fi10 : FI Tryd.prog 10 := ⟨fun args w => by kernel_rfl⟩
instance fi11 : FI Tryd.prog 11 := ⟨fun args w => by kernel_rfl⟩
instance fi12 : FI Tryd.prog 12 := ⟨fun args w => by kernel_rfl⟩
instance fi13 : FI Tryd.prog 13 := ⟨fun args w => by kernel_rfl⟩
instance fi14 : FI Tryd.prog 14 := ⟨fun args w => by kernel_rfl⟩
instance fi15 : FI Tryd.prog 15 := ⟨fun args w => by kernel_rfl⟩
instance fi16 : FI Tryd.prog 16 := ⟨fun args w => by kernel_rfl⟩
instance fi17 : FI Tryd.prog 17 := ⟨fun args w => by kernel_rfl⟩
instance fi18 : FI Tryd.prog 18 := ⟨fun args w => by kernel_rfl⟩
instance fi19 : FI Tryd.prog 19 := ⟨fun args w => by kernel_rfl⟩
instance fi20 : FI Tryd.prog 20 := ⟨fun args w => by kernel_rfl⟩
instance fi21 : FI Tryd.prog 21 := ⟨fun args w => by kernel_rfl⟩
instance fi22 : FI Tryd.prog 22 := ⟨fun args w => by kernel_rfl⟩
instance fi23 : FI Tryd.prog 23 := ⟨fun args w => by kernel_rfl⟩
instance fi24 : FI Tryd.prog 24 := ⟨fun args w => by kernel_rfl⟩
instance fi25 : FI Tryd.prog 25 := ⟨fun args w => by kernel_rfl⟩
instance fi26 : FI Tryd.prog 26 := ⟨fun args w => by kernel_rfl⟩
instance fi27 : FI Tryd.prog 27 := ⟨fun args w => by kernel_rfl⟩
instance fi28 : FI Tryd.prog 28 := ⟨fun args w => by kernel_rfl⟩
instance fi29 : FI Tryd.prog 29 := ⟨fun args w => by kernel_rfl⟩
instance fi30 : FI Tryd.prog 30 := ⟨fun args w => by kernel_rfl⟩
instance fi31 : FI Tryd.prog 31 := ⟨fun args w => by kernel_rfl⟩
instance fi32 : FI Tryd.prog 32 := ⟨fun args w => by kernel_rfl⟩
instance fi33 : FI Tryd.prog 33 := ⟨fun args w => by kernel_rfl⟩
instance fi34 : FI Tryd.prog 34 := ⟨fun args w => by kernel_rfl⟩
instance fi35 : FI Tryd.prog 35 := ⟨fun args w => by kernel_rfl⟩
instance fi36 : FI Tryd.prog 36 := ⟨fun args w => by kernel_rfl⟩
instance fi37 : FI Tryd.prog 37 := ⟨fun args w => by kernel_rfl⟩
instance fi38 : FI Tryd.prog 38 := ⟨fun args w => by kernel_rfl⟩
instance fi39 : FI Tryd.prog 39 := ⟨fun args w => by kernel_rfl⟩
instance fi40 : FI Tryd.prog 40 := ⟨fun args w => by kernel_rfl⟩
instance fi41 : FI Tryd.prog 41 := ⟨fun args w => by kernel_rfl⟩
instance fi42 : FI Tryd.prog 42 := ⟨fun args w => by kernel_rfl⟩
instance fi43 : FI Tryd.prog 43 := ⟨fun args w => by kernel_rfl⟩
instance fi44 : FI Tryd.prog 44 := ⟨fun args w => by kernel_rfl⟩
instance fi45 : FI Tryd.prog 45 := ⟨fun args w => by kernel_rfl⟩
instance fi46 : FI Tryd.prog 46 := ⟨fun args w => by kernel_rfl⟩
instance fi47 : FI Tryd.prog 47 := ⟨fun args w => by kernel_rfl⟩
instance fi48 : FI Tryd.prog 48 := ⟨fun args w => by kernel_rfl⟩
instance fi49 : FI Tryd.prog 49 := ⟨fun args w => by kernel_rfl⟩
instance fi50 : FI Tryd.prog 50 := ⟨fun args w => by kernel_rfl⟩
instance fi51 : FI Tryd.prog 51 := ⟨fun args w => by kernel_rfl⟩
instance fi52 : FI Tryd.prog 52 := ⟨fun args w => by kernel_rfl⟩
instance fi53 : FI Tryd.prog 53 := ⟨fun args w => by kernel_rfl⟩
instance fi54 : FI Tryd.prog 54 := ⟨fun args w => by kernel_rfl⟩
instance fi55 : FI Tryd.prog 55 := ⟨fun args w => by kernel_rfl⟩
instance fi56 : FI Tryd.prog 56 := ⟨fun args w => by kernel_rfl⟩
instance fi57 : FI Tryd.prog 57 := ⟨fun args w => by kernel_rfl⟩
instance fi58 : FI Tryd.prog 58 := ⟨fun args w => by kernel_rfl⟩
instance fi59 : FI Tryd.prog 59 := ⟨fun args w => by kernel_rfl⟩
instance fi60 : FI Tryd.prog 60 := ⟨fun args w => by kernel_rfl⟩
instance fi61 : FI Tryd.prog 61 := ⟨fun args w => by kernel_rfl⟩
instance fi62 : FI Tryd.prog 62 := ⟨fun args w => by kernel_rfl⟩
instance fi63 : FI Tryd.prog 63 := ⟨fun args w => by kernel_rfl⟩
instance fi64 : FI Tryd.prog 64 := ⟨fun args w => by kernel_rfl⟩
instance fi65 : FI Tryd.prog 65 := ⟨fun args w => by kernel_rfl⟩
instance fi66 : FI Tryd.prog 66 := ⟨fun args w => by kernel_rfl⟩
instance fi67 : FI Tryd.prog 67 := ⟨fun args w => by kernel_rfl⟩
instance fi68 : FI Tryd.prog 68 := ⟨fun args w => by kernel_rfl⟩
instance fi69 : FI Tryd.prog 69 := ⟨fun args w => by kernel_rfl⟩
instance fi70 : FI Tryd.prog 70 := ⟨fun args w => by kernel_rfl⟩
instance fi71 : FI Tryd.prog 71 := ⟨fun args w => by kernel_rfl⟩
instance fi72 : FI Tryd.prog 72 := ⟨fun args w => by kernel_rfl⟩
instance fi73 : FI Tryd.prog 73 := ⟨fun args w => by kernel_rfl⟩
instance fi74 : FI Tryd.prog 74 := ⟨fun args w => by kernel_rfl⟩
instance fi75 : FI Tryd.prog 75 := ⟨fun args w => by kernel_rfl⟩
instance fi76 : FI Tryd.prog 76 := ⟨fun args w => by kernel_rfl⟩
instance fi77 : FI Tryd.prog 77 := ⟨fun args w => by kernel_rfl⟩
instance fi78 : FI Tryd.prog 78 := ⟨fun args w => by kernel_rfl⟩
instance fi79 : FI Tryd.prog 79 := ⟨fun args w => by kernel_rfl⟩
instance fi80 : FI Tryd.prog 80 := ⟨fun args w => by kernel_rfl⟩
instance fi81 : FI Tryd.prog 81 := ⟨fun args w => by kernel_rfl⟩
instance fi82 : FI Tryd.prog 82 := ⟨fun args w => by kernel_rfl⟩
instance fi83 : FI Tryd.prog 83 := ⟨fun args w => by kernel_rfl⟩
instance fi84 : FI Tryd.prog 84 := ⟨fun args w => by kernel_rfl⟩
instance fi85 : FI Tryd.prog 85 := ⟨fun args w => by kernel_rfl⟩
instance fi86 : FI Tryd.prog 86 := ⟨fun args w => by kernel_rfl⟩
instance fi87 : FI Tryd.prog 87 := ⟨fun args w => by kernel_rfl⟩
instance fi88 : FI Tryd.prog 88 := ⟨fun args w => by kernel_rfl⟩
instance fi89 : FI Tryd.prog 89 := ⟨fun args w => by kernel_rfl⟩
instance fi90 : FI Tryd.prog 90 := ⟨fun args w => by kernel_rfl⟩
instance fi91 : FI Tryd.prog 91 := ⟨fun args w => by kernel_rfl⟩
instance fi92 : FI Tryd.prog 92 := ⟨fun args w => by kernel_rfl⟩
instance fi93 : FI Tryd.prog 93 := ⟨fun args w => by kernel_rfl⟩
instance fi94 : FI Tryd.prog 94 := ⟨fun args w => by kernel_rfl⟩
instance fi95 : FI Tryd.prog 95 := ⟨fun args w => by kernel_rfl⟩
instance fi96 : FI Tryd.prog 96 := ⟨fun args w => by kernel_rfl⟩
instance fi97 : FI Tryd.prog 97 := ⟨fun args w => by kernel_rfl⟩
instance fi98 : FI Tryd.prog 98 := ⟨fun args w => by kernel_rfl⟩
instance fi99 : FI Tryd.prog 99 := ⟨fun args w => by kernel_rfl⟩
instance fi100 : FI Tryd.prog 100 := ⟨fun args w => by kernel_rfl⟩
instance fi101 : FI Tryd.prog 101 := ⟨fun args w => by kernel_rfl⟩
instance fi102 : FI Tryd.prog 102 := ⟨fun args w => by kernel_rfl⟩
noncomputable instance ts33 : TS Tryd.prog 33 := ⟨#[(0, 1), (1, 1), (2, 1)], fun w => by kernel_rfl⟩
noncomputable instance ts47 : TS Tryd.prog 47 := ⟨#[(0, 1), (1, 1), (2, 1), (3, 1), (4, 1)], fun w => by kernel_rfl⟩
noncomputable instance ts52 : TS Tryd.prog 52 := ⟨#[(0, 1), (1, 1)], fun w => by kernel_rfl⟩
noncomputable instance ts55 : TS Tryd.prog 55 := ⟨#[(0, 1), (1, 1)], fun w => by kernel_rfl⟩
noncomputable instance ts57 : TS Tryd.prog 57 := ⟨#[(0, 1), (1, 1)], fun w => by kernel_rfl⟩
noncomputable instance ts63 : TS Tryd.prog 63 := ⟨#[(0, 1), (1, 1), (2, 1), (3, 1)], fun w => by kernel_rfl⟩
noncomputable instance ts67 : TS Tryd.prog 67 := ⟨#[(0, 5), (5, 1), (6, 1)], fun w => by kernel_rfl⟩
noncomputable instance ts78 : TS Tryd.prog 78 := ⟨#[(0, 1), (1, 1), (2, 1), (3, 1), (4, 1), (5, 1), (6, 1), (7, 1), (8, 1), (9, 1), (10, 1)], fun w => by kernel_rfl⟩
noncomputable instance ts80 : TS Tryd.prog 80 := ⟨#[(0, 1), (1, 1)], fun w => by kernel_rfl⟩
noncomputable instance ts82 : TS Tryd.prog 82 := ⟨#[(0, 2), (2, 1)], fun w => by kernel_rfl⟩
noncomputable instance ts85 : TS Tryd.prog 85 := ⟨#[(0, 1), (1, 1), (2, 1)], fun w => by kernel_rfl⟩
noncomputable instance ts87 : TS Tryd.prog 87 := ⟨#[(0, 1), (1, 1), (2, 1), (3, 1)], fun w => by kernel_rfl⟩
noncomputable instance ts89 : TS Tryd.prog 89 := ⟨#[(0, 1), (1, 1)], fun w => by kernel_rfl⟩
noncomputable instance ts111 : TS Tryd.prog 111 := ⟨#[(0, 1), (1, 1), (2, 1), (3, 1), (4, 1), (5, 1), (6, 1), (7, 1)], fun w => by kernel_rfl⟩
noncomputable instance ts115 : TS Tryd.prog 115 := ⟨#[(0, 1), (1, 1), (2, 1), (3, 1), (4, 1), (5, 1), (6, 1), (7, 1), (8, 1)], fun w => by kernel_rfl⟩
noncomputable instance ts123 : TS Tryd.prog 123 := ⟨#[(0, 1), (1, 1)], fun w => by kernel_rfl⟩
end Go.Proofs.YtlniadfidfmckaaDoor
end

section
namespace Go.Vc
open Go.RowKit

/-- How a call ends: it returns (and what is known then), or it panics with a value. -/
inductive Fin : Type 1
  | ret (post : (S → List Ch → Prop) → Prop)
  | pan (v : Value)

def Pan (P : Program) [Gl P] (f : FuncId) (args : List S) (Hin : List Ch) (v : Value) : Prop :=
  ∀ (vs : List Value) (w : World) (A : Nat → Prop), (∀ b, A b → b < w.heap.size) → (∀ b ∈ hb Hin, A b) → (hb Hin).Nodup → SOks w A args vs → (∀ ch ∈ Hin, ch.ok w A) → Gl.ok P w A →
    Calls P f vs.toArray w (fun e w' => e = .panicked [{ v := v, recovered := false }] ∧ Grow (hb Hin) w w')
def ConE (P : Program) [Gl P] (f : FuncId) (args : List S) (Hin : List Ch) : Fin → Prop
  | .ret post => Con P f args Hin post
  | .pan v => Pan P f args Hin v

section
variable {P : Program} [Gl P] {nt : Nat} {c : Cx P nt} {env : Env} {H : List Ch} {K : S → List Ch → Prop}
variable {d : Option Tmp} {ty t t' : TypeId} {pos : String} {af : Array Edge} {g : Option (Nat × Bool)} {x y : Operand}
def RE (c : Cx P nt) : Fin → Ending → World → Prop
  | .ret post => RR c post
  | .pan v => fun e w' => e = .panicked [{ v := v, recovered := false }] ∧ Grow c.X c.B w'

theorem con_introE {f : FuncId} {fn : Func} {code : Code} {args : List S} {Hin : List Ch} {fin : Fin} (hf : P.funcs[f]? = some fn) (hbd : fn.body = some code) (hnt : fn.ntmps = nt) (hle : args.length ≤ nt)
    (h : ∀ c : Cx P nt, c.X = hb Hin → JC c code (bodyPost P fn (RE c fin)) (enum 0 args) Hin) : ConE P f args Hin fin := by
  cases fin with
  | ret post => exact con_intro hf hbd hnt hle h
  | pan u =>
    intro vs w A hA hHA hnd hvs hok hgl
    have hlen := soks_length hvs
    let c : Cx P nt := ⟨w, A, hb Hin, hA⟩
    have hav : ∀ b, c.av Hin b → A b := fun b hb => hb.elim id (hHA b)
    refine calls_of_wp hf hbd ?_
    refine h c rfl _ _ ⟨?_, rfl, ?_, ⟨rfl, rfl, rfl, Nat.le_refl _, fun _ _ _ => rfl, fun ch hch => Ch.up (Up.refl _ _) (fun b hb => .inl (hav b hb)) (fun _ _ => rfl) (hok ch hch), hnd, fun b hb => .inl hb, Gl.up (Up.refl _ _) (fun b hb => .inl (hav b hb)) hgl⟩⟩
    · simp only [Array.size_append, Array.size_replicate, List.size_toArray, hnt]
      omega
    · intro i s hi
      obtain ⟨v, _, h2, h3⟩ := enum_lookup hvs hi
      have hlt : i < vs.length := (List.getElem?_eq_some_iff.1 (by simpa using h2)).1
      rw [Array.getD_eq_getD_getElem?, Array.getElem?_append_left (by simpa using hlt)]
      simp only [List.getElem?_toArray]
      simp only [Nat.sub_zero] at h2
      rw [h2]
      exact sok_up (Up.refl _ _) (fun b hb => .inl (hav b hb)) s v h3

theorem pan_intro {f : FuncId} {fn : Func} {code : Code} {args : List S} {Hin : List Ch} {v : Value} (hf : P.funcs[f]? = some fn) (hbd : fn.body = some code) (hnt : fn.ntmps = nt) (hle : args.length ≤ nt)
    (h : ∀ c : Cx P nt, c.X = hb Hin → JC c code (bodyPost P fn (RE c (.pan v))) (enum 0 args) Hin) : Pan P f args Hin v :=
  con_introE (fin := .pan v) hf hbd hnt hle h
/-- At an exit: it has turned out how it ends. -/
theorem jq_fin {fn : Func} {fin : Fin} {post : (S → List Ch → Prop) → Prop} {ex : Exit} (he : fin = .ret post) (h : JQ c (bodyPost P fn (RR c post)) ex env H) : JQ c (bodyPost P fn (RE c fin)) ex env H := by
  subst he
  exact h

/-- A struct and two more results. -/
theorem jq_retRow2 {fn : Func} {post : (S → List Ch → Prop) → Prop} {a u u2 : Tmp} {b : Nat} {bt t : TypeId} [TI P t] {row : List C} {s' s'' : S} {Hx Hout : List Ch} (hres : fn.results = #[.cell a t, .tmp u, .tmp u2]) (ha : aggB (TI.u P t) = true) (hz : (TI.i P t).size = row.length) (hl : env.lookup a = some (.cell (.val (.pointer (some ⟨b, 0, none⟩))))) (hl' : env.lookup u = some s') (hl'' : env.lookup u2 = some s'') (j : Nat) (hj : pick [j] H = some ([.blk b bt row], Hx)) (hpost : ∀ K, post K → K (.tup [.row row, s', s'']) Hout) (hp : Sub H Hout) :
    JQ c (bodyPost P fn (RR c post)) .ret env H :=
  let ⟨_, _, hp⟩ := hp
  jq_retG (ss := [.row row, s', s'']) (.inl rfl) (by rw [hres]; exact ⟨.row row, _, b, j, bt, row, Hx, rfl, hl, hj, res_row ha hz, s', _, rfl, hl', s'', _, rfl, hl'', rfl⟩) hp hpost
/-- A test that is decided. -/
theorem jc_condT {Q : Exit → Act → World → Prop} {thn els : Code} {b : Bool} (hx : env.ev x = some (Bl b)) (hb : b = true) (h : JC c thn Q env H) : JC c (.cond x thn els) Q env H := jc_cond hx (fun _ => h) (fun h => by rw [hb] at h; cases h)
theorem jc_condF {Q : Exit → Act → World → Prop} {thn els : Code} {b : Bool} (hx : env.ev x = some (Bl b)) (hb : b = false) (h : JC c els Q env H) : JC c (.cond x thn els) Q env H := jc_cond hx (fun h => by rw [hb] at h; cases h) (fun _ => h)
/-- No result. -/
theorem jq_ret0 {fn : Func} {post : (S → List Ch → Prop) → Prop} {ex : Exit} (hex : ex = .ret ∨ ex = .normal) (hres : fn.results = #[]) (is : List Nat) {Hout Hr : List Ch} (hp : pick is H = some (Hout, Hr)) (hpost : ∀ K, post K → K (.tup []) Hout) : JQ c (bodyPost P fn (RR c post)) ex env H :=
  jq_retG (ss := []) hex (by rw [hres]; rfl) hp hpost
/-- What is asked at a panic. -/
def PanQ (c : Cx P nt) (Q : Exit → Act → World → Prop) (v : Value) : Prop := ∀ a w, a.defers = [] → Grow c.X c.B w → Q (.panic [{ v := v, recovered := false }]) a w
omit [Gl P] in
theorem pq_then {Q : Exit → Act → World → Prop} {K : Act → World → Prop} {v : Value} (h : PanQ c Q v) : PanQ c (Exit.then K Q) v := h
omit [Gl P] in
theorem pq_block {Q : Exit → Act → World → Prop} {id : Nat} {v : Value} (h : PanQ c Q v) : PanQ c (Exit.inBlock id Q) v := h
omit [Gl P] in
theorem pq_fin {fn : Func} {fin : Fin} {v : Value} (he : fin = .pan v) : PanQ c (bodyPost P fn (RE c fin)) v := by
  subst he
  exact fun a w hd hg => ⟨hd, rfl, hg⟩

theorem grow_st {w w' : World} {is : List Nat} {Hin Hr : List Ch} (h : StW c H w) (hp : pick is H = some (Hin, Hr)) (hg : Grow (hb Hin) w w') : Grow c.X c.B w' := by
  have h0 := stw_grow h
  refine ⟨hg.os.trans h0.os, hg.tape.trans h0.tape, hg.output.trans h0.output, Nat.le_trans h0.size hg.size, fun k hk hX => ?_⟩
  rw [hg.block k (Nat.lt_of_lt_of_le hk h0.size) ?_]
  · exact h0.block k hk hX
  · intro hk1
    have hm : k ∈ hb H := (hb_perm (pick_perm hp)).mem_iff.2 (by rw [hb_app]; exact List.mem_append.2 (.inl hk1))
    rcases h.mine k hm with h' | h'
    · exact hX h'
    · omega

/-- An operation that panics. -/
def OpPan (c : Cx P nt) (o : Oper) (env : Env) (H : List Ch) (v : Value) : Prop :=
  ∀ a w, St c env H a w → ∀ (next : Act → World → Prop) Q, PanQ c Q v → o.wp P a w next Q

theorem op_pan {Hin Hr : List Ch} {f : FuncId} [FI P f] {xs : Array Operand} {at_ : Array TypeId} {ss : List S} {v : Value} (is : List Nat) (hx : env.evs xs.toList = some ss) (hp : pick is H = some (Hin, Hr)) (con : Pan P f ss Hin v) :
    OpPan c ⟨d, .call { callee := .value (.func f), args := xs, argTypes := at_ }, ty, pos, af, g⟩ env H v := by
  intro a w h next Q hq
  have hperm := pick_perm hp
  have h' : StW c (Hin ++ Hr) w := h.heap.perm hperm
  have hav : c.av (Hin ++ Hr) = c.av H := av_perm c hperm
  have hnd := h'.nodup
  rw [hb_app, List.nodup_append] at hnd
  have hrun : (execOp a.eval ⟨d, .call { callee := .value (.func f), args := xs, argTypes := at_ }, ty, pos, af, g⟩).run P w = .ok (.enter f (xs.toList.map a.eval).toArray) w := by
    have e1 : (xs.map a.eval) = (xs.toList.map a.eval).toArray := by apply Array.ext'; simp
    simp only [execOp, resolve, invoke, Act.eval, Deferred.ofValue, Sem.run_bind, Sem.run_pure, Result.andThen_ok]
    rw [e1]
    simp [FI.hrun]
  unfold Oper.wp
  rw [hrun, Oper.upon_enter]
  refine (con (xs.toList.map a.eval) w (c.av H) (fun b hb => h.heap.avlt b hb) (fun b hb => by rw [← hav]; exact .inr (by rw [hb_app]; exact List.mem_append.2 (.inl hb))) hnd.1 (evs_ok h hx)
    (fun ch hch => by rw [← hav]; exact h'.ok ch (List.mem_append.2 (.inl hch))) h.heap.gl).mono ?_
  rintro e w' ⟨rfl, hg⟩
  exact hq a w' h.defers (grow_st h.heap hp hg)
theorem op_panic {u : TypeId} {v : Value} (hx : env.ev x = some (.cell (.val (.iface u v)))) : OpPan c ⟨d, .panic x, ty, pos, af, g⟩ env H (.iface u v) := by
  intro a w h next Q hq
  have hrun : (execOp a.eval ⟨d, .panic x, ty, pos, af, g⟩).run P w = .halt (.panic (.iface u v)) w := by
    simp [execOp, ev_val h hx, Instr.panic]
  unfold Oper.wp
  rw [hrun, Oper.upon_panic]
  exact hq a w h.defers (stw_grow h.heap)

theorem jl_pan {ops : Array Oper} {Q : Exit → Act → World → Prop} {l : List Oper} {op : Op} {v : Value} (h : OpPan c ⟨d, op, ty, pos, af, none⟩ env H v) (hq : PanQ c Q v) : JL c ops Q (⟨d, op, ty, pos, af, none⟩ :: l) env H := by
  intro a w hs
  exact wpList_plain rfl fun K _ => h a w hs _ _ hq
theorem ow_makeIface {vs : List Value} [TI P t] (hi : structB (TI.u P t) = true) (hx : env.ev x = some (.row (vs.map C.val))) (hK : K (.cell (.val (.iface t (.agg vs.toArray)))) H) : OpWp c ⟨d, .makeInterface t x, ty, pos, af, g⟩ env H K :=
  ow_valx rfl (fun a w h => by
    obtain ⟨cs, he, hr⟩ := ev_ok h hx
    have e1 : cs.toList = vs := rdRow_vals hr
    have e2 : cs = vs.toArray := by apply Array.ext'; simpa using e1
    subst e2
    have hu := u_of_struct hi
    have hu' : (underlying t).run P w = .ok (.struct (fieldsB (TI.u P t))) w := by rw [run_underlying (TI.hu (P := P) (t := t))]; exact congrArg (fun u => Result.ok u w) hu
    simp only [execOp, he, Instr.makeInterface, Sem.run_bind, hu', Result.andThen_ok, Sem.run_pure]) hK

def Env.vals (env : Env) : List Operand → Option (List Value)
  | [] => some []
  | x :: r => match env.ev x, Env.vals env r with
    | some (.cell (.val v)), some vs => some (v :: vs)
    | _, _ => none
theorem vals_ok {a : Act} {w : World} (h : St c env H a w) : ∀ {xs : List Operand} {vs : List Value}, env.vals xs = some vs → xs.map a.eval = vs
  | [], vs, hp => by simp only [Env.vals, Option.some.injEq] at hp; subst hp; rfl
  | x :: xs, vs, hp => by
    simp only [Env.vals] at hp
    split at hp
    · rename_i v vs' h1 h2
      simp only [Option.some.injEq] at hp
      subst hp
      rw [List.map_cons, ev_val h h1, vals_ok h h2]
    · cases hp
theorem ow_makeFunc {f : FuncId} {xs : Array Operand} {vs : List Value} (hx : env.vals xs.toList = some vs) (hK : K (.cell (.val (.func (.func f) #[] vs.toArray))) H) : OpWp c ⟨d, .makeFunc (.func f) #[] xs, ty, pos, af, g⟩ env H K :=
  ow_valx rfl (fun a w h => by
    have e1 : xs.map a.eval = vs.toArray := by apply Array.ext'; simpa using vals_ok h hx
    simp only [execOp, Instr.makeFunc, e1, Array.map_empty, Sem.run_bind, Sem.run_pure, Result.andThen_ok]) hK
theorem ow_negW {k : IntKind} {m : Int} (hx : env.ev x = some (In k m)) (hK : K (In k (k.wrap (-m))) H) : OpWp c ⟨d, .unOp .neg t x, ty, pos, af, g⟩ env H K :=
  ow_valx rfl (fun a w h => by simp [execOp, ev_val h hx, Op.unary, Op.intArith]) hK
/-- All of a package array, as a slice. -/
theorem ow_sliceG {b n : Nat} {e : TypeId} [TI P t] [TI P e] {rows : List (List C)} (hg : ∀ w A, Gl.ok P w A → GV w A b rows.flatten) (hu : TI.u P t = .array n e) (hn : rows.length = n) (hr : rows.all (fun r => decide (r.length = (TI.i P e).size)) = true) (hpos : 0 < (TI.i P e).size) (hmax : n ≤ maxLen)
    (hx : env.ev x = some (.cell (.val (.pointer (some ⟨b, 0, none⟩))))) (hK : K (.cell (.list rows)) H) : OpWp c ⟨d, .slice t x none none none, ty, pos, af, g⟩ env H K :=
  ow_val (fun a w h => by
    obtain ⟨hA, cs, bt, f, hh, hrow⟩ := hg _ _ h.heap.gl
    have hu1 : (underlying t).run P w = .ok (.array n e) w := by rw [run_underlying (TI.hu (P := P) (t := t)), hu]
    have hflat : ∀ (rows : List (List C)) (vs : List Value), rows.all (fun r => decide (r.length = (TI.i P e).size)) = true → RdRow w (c.av H) rows.flatten vs → RdRows w (c.av H) (TI.i P e).size rows vs := by
      intro rows
      induction rows with
      | nil => intro vs _ h; exact h
      | cons r rows ih =>
        intro vs hall h
        simp only [List.all_cons, Bool.and_eq_true, decide_eq_true_eq] at hall
        have h1 := rdRow_take r.length h
        have h2 := rdRow_drop r.length h
        simp only [List.flatten_cons, List.take_left', List.drop_left'] at h1 h2
        refine ⟨vs.take r.length, vs.drop r.length, (List.take_append_drop _ _).symm, ?_, h1, ih _ hall.2 h2⟩
        rw [rdRow_length h1, hall.1]
    refine ⟨.slice (some ⟨b, 0, none⟩) n n, ?_, some ⟨b, 0, none⟩, n, by rw [hn], by omega, hmax, .inr ⟨b, 0, cs.toList, (TI.i P e).size, rfl, hA, ?_, hpos, hflat _ _ hr hrow⟩⟩
    · simp [execOp, ev_val h hx, Instr.sliceAt, Instr.slice, Instr.sliceBounds, hu1, run_sizeOf, add_at, Instr.sureAddr]
    · intro j v hj
      simp only [World.cell?, hh, Nat.zero_add]
      simpa using hj) hK
end
end Go.Vc
end

section
namespace Go.Vc
open Go.RowKit

def PanI (Q : Exit → Act → World → Prop) : Prop := ∀ ch a d v w, Q (.panic ch) (Act.put a d v) w → Q (.panic ch) a w
theorem pani_then {K : Act → World → Prop} {Q : Exit → Act → World → Prop} (h : PanI Q) : PanI (Exit.then K Q) := h
theorem pani_block {id : Nat} {Q : Exit → Act → World → Prop} (h : PanI Q) : PanI (Exit.inBlock id Q) := h
theorem pani_body {P : Program} {fn : Func} {R : Ending → World → Prop} : PanI (bodyPost P fn R) := by
  intro ch a d v w h
  cases d <;> exact h

theorem len2 {α : Type} {l : List α} (h : l.length = 2) : ∃ v0 v1, l = [v0, v1] := by
  match l, h with
  | [v0, v1], _ => exact ⟨v0, v1, rfl⟩
theorem len5 {α : Type} {l : List α} (h : l.length = 5) : ∃ v0 v1 v2 v3 v4, l = [v0, v1, v2, v3, v4] := by
  match l, h with
  | [v0, v1, v2, v3, v4], _ => exact ⟨v0, v1, v2, v3, v4, rfl⟩
theorem len7 {α : Type} {l : List α} (h : l.length = 7) : ∃ v0 v1 v2 v3 v4 v5 v6, l = [v0, v1, v2, v3, v4, v5, v6] := by
  match l, h with
  | [v0, v1, v2, v3, v4, v5, v6], _ => exact ⟨v0, v1, v2, v3, v4, v5, v6, rfl⟩
section
variable {P : Program} {ops : Array Oper} {Q : Exit → Act → World → Prop} {md : Region.Mode} {S : World → Prop} {m : Nat}
def anyX (P : Program) (md : Region.Mode) (ops : Array Oper) (Q : Exit → Act → World → Prop) (S : World → Prop) (m : Nat) : Nat → Array Bool → Act → World → Prop
  | 0, listed, a, w => Region.ready md ops listed = [] ∧ Q .normal a w
  | fuel + 1, listed, a, w => (Region.ready md ops listed = [] → Q .normal a w) ∧ ∀ i ∈ Region.ready md ops listed, wpOp P ops Q i (fun a' w' => (i < m → S w') ∧ anyX P md ops Q S m fuel (listed.setIfInBounds i true) a' w') a w
theorem any_of_x : ∀ (fuel : Nat) (listed : Array Bool) (a : Act) (w : World), anyX P md ops Q S m fuel listed a w → wpAny P md ops Q fuel listed a w
  | 0, _, _, _, h => h
  | fuel + 1, _, _, _, h => ⟨h.1, fun i hi => wpOp_mono (fun a' w' h' => any_of_x fuel _ a' w' h'.2) (h.2 i hi)⟩
/-- One that only looks is taken first; the later ones wait for it. -/
theorem anyX_first {i : Nat} {oi : Oper} {v : Value} (hi : ops[i]? = some oi) (hsel : ∀ (j : Nat) (o : Oper) cs b, ops[j]? = some o → o.op ≠ .select cs b) (hQ : ∀ c a w, Q (.panic c) (a.put oi.dst v) w → Q (.panic c) a w)
    (hlate : ∀ (j : Nat) (o : Oper), m ≤ j → ops[j]? = some o → j ≠ i → ∃ e ∈ o.after, Region.binds md e = true ∧ e.on = i) :
    ∀ (fuel : Nat) (listed : Array Bool) (a : Act) (w : World),
      (∀ j oj, ops[j]? = some oj → j ≠ i → listed.getD j true = false → (∀ e ∈ oj.after, Region.binds md e = true → e.on ≠ i) → oi.apart ops oj = true) →
      i ∈ Region.ready md ops listed → YieldsIf P ops S oi v a → S w →
      anyX P md ops Q S m fuel (listed.setIfInBounds i true) (a.put oi.dst v) w → anyX P md ops Q S m (fuel + 1) listed a w := by
  intro fuel
  induction fuel with
  | zero =>
    intro listed a w _ hr hy hS hX
    refine ⟨fun h => (by rw [h] at hr; cases hr), fun j hj => ?_⟩
    by_cases hji : j = i
    · subst hji; exact hy.wpOp hi hS ⟨fun _ => hS, hX⟩
    · have := ready_mono hj hji
      rw [hX.1] at this
      cases this
  | succ fuel ih =>
    intro listed a w hfree hr hy hS hX
    refine ⟨fun h => (by rw [h] at hr; cases hr), fun j hj => ?_⟩
    by_cases hji : j = i
    · subst hji; exact hy.wpOp hi hS ⟨fun _ => hS, hX⟩
    · obtain ⟨hjun, oj, hoj, hall⟩ := mem_ready.1 hj
      have hnot : ∀ e ∈ oj.after, Region.binds md e = true → e.on ≠ i := fun e he hbd heq => by
        have h1 := hall e he hbd
        have h0 := (mem_ready.1 hr).1
        rw [heq] at h1
        rw [Array.getD_eq_getD_getElem?] at h0 h1
        cases hl : listed[i]? with
        | none => rw [hl] at h1; cases h1
        | some bb => rw [hl] at h0 h1; simp only [Option.getD_some] at h0 h1; rw [h0] at h1; cases h1
      have hjm : j < m := by
        rcases Nat.lt_or_ge j m with h | h
        · exact h
        · obtain ⟨e, he, hbd, hon⟩ := hlate j oj h hoj hji
          exact absurd hon (hnot e he hbd)
      have h2 := wpOp_putIf hoj (hfree j oj hoj hji hjun hnot) (fun cs b => hsel i oi cs b hi) (fun cs b => hsel j oj cs b hoj) hQ hy (hX.2 j (ready_mono hj hji))
      refine wpOp_mono (fun a' w' h3 => ⟨fun _ => h3.2.1 hjm, ih (listed.setIfInBounds j true) a' w' ?_ (ready_mono hr (Ne.symm hji)) h3.1 (h3.2.1 hjm) ?_⟩) h2
      · intro k ok hk hki hun hno
        refine hfree k ok hk hki ?_ hno
        by_cases hjk : j = k
        · subst hjk; exact hjun
        · rw [getD_set_ne true hjk] at hun; exact hun
      · rw [Array.setIfInBounds_comm _ _ hji]
        exact h3.2.2
end

section
variable {P : Program} [Gl P] {nt : Nat} {c : Cx P nt} {env : Env} {H Hr : List Ch} {ops : Array Oper} {Q : Exit → Act → World → Prop} {Sw : World → Prop} {L : List (Nat × List Value × TypeId)}
variable {m fuel : Nat} {listed : Array Bool} {d ty t t' : TypeId} {pos : String} {af : Array Edge} {x y : Operand}

def HP (c : Cx P nt) (ops : Array Oper) (Q : Exit → Act → World → Prop) (Sw : World → Prop) (m fuel : Nat) (listed : Array Bool) (env : Env) (H : List Ch) : Prop :=
  ∀ a w, St c env H a w → Sw w → anyX P .any ops Q Sw m fuel listed a w
/-- From number m on each waits for this one. -/
def lateWait (ops : Array Oper) (m i : Nat) : Bool := ops.toList.zipIdx.all fun (o, j) => decide (j < m) || j == i || hasEdge o i
omit [Gl P] in
theorem late_spec {i : Nat} (h : lateWait ops m i = true) : ∀ (j : Nat) (o : Oper), m ≤ j → ops[j]? = some o → j ≠ i → ∃ e ∈ o.after, Region.binds .any e = true ∧ e.on = i := by
  intro j o hj ho hne
  have h1 := List.all_eq_true.1 h (o, j) (by rw [List.mem_zipIdx_iff_getElem?]; simpa using ho)
  have h2 : decide (j < m) = false := by simpa using hj
  have h3 : (j == i) = false := by simpa using hne
  simp only [h2, h3, Bool.false_or] at h1
  exact edge_spec h1
theorem hp_take {i : Nat} {op : Op} {s : S} (hi : ops[i]? = some ⟨some d, op, ty, pos, af, none⟩) (hs : (Region.noSelect ops && lateWait ops m i) = true) (hf : Region.free .any ops listed i = true) (hr : (Region.ready .any ops listed).contains i = true) (hd : d < nt) (hQ : PanI Q)
    (hop : HOk c Sw env H ⟨some d, op, ty, pos, af, none⟩ s) (h : HP c ops Q Sw m fuel (listed.setIfInBounds i true) ((d, s) :: env) H) : HP c ops Q Sw m (fuel + 1) listed env H := by
  intro a w hst hS
  obtain ⟨v, h1, h2⟩ := hop a w hst hS
  rw [Bool.and_eq_true] at hs
  exact anyX_first hi (Region.noSelect_spec hs.1) (fun ch a w h => hQ ch a _ _ w h) (late_spec hs.2) fuel listed a w (Region.free_spec hi hf) (by simpa using hr) (.inl ⟨rfl, h1⟩) hS (h _ _ (hst.next hd hst.heap h2 (fun _ _ h => h)) hS)
omit [Gl P] in
theorem anyX_all {rs : List Nat} {a : Act} {w : World} (hr : Region.ready .any ops listed = rs) (hne : rs ≠ []) (h : ∀ i ∈ rs, wpOp P ops Q i (fun a' w' => (i < m → Sw w') ∧ anyX P .any ops Q Sw m fuel (listed.setIfInBounds i true) a' w') a w) : anyX P .any ops Q Sw m (fuel + 1) listed a w :=
  ⟨fun h0 => absurd (hr ▸ h0) hne, hr ▸ h⟩
/-- The only one that may come up now. -/
theorem hp_op {i : Nat} {op : Op} (hi : ops[i]? = some ⟨some d, op, ty, pos, af, none⟩) (hr : Region.ready .any ops listed = [i]) (hd : d < nt)
    (h : OpWp c ⟨some d, op, ty, pos, af, none⟩ env H (fun s H' => (∀ w, StW c H' w → Sw w) ∧ HP c ops Q Sw m fuel (listed.setIfInBounds i true) ((d, s) :: env) H')) : HP c ops Q Sw m (fuel + 1) listed env H := by
  intro a w hst hS
  refine anyX_all hr (by simp) (fun j hj => ?_)
  obtain rfl : j = i := by simpa using hj
  unfold wpOp
  rw [hi]
  dsimp only
  rw [if_pos (show Region.wanted _ _ = true from rfl)]
  refine .inl (h a w hst _ _ ?_)
  intro s H' v w' hK hw' hv hk
  exact ⟨fun _ => hK.1 _ hw', hK.2 _ _ (hst.next hd hw' hv hk) (hK.1 _ hw')⟩
theorem hp_op0 {i : Nat} {op : Op} (hi : ops[i]? = some ⟨none, op, ty, pos, af, none⟩) (hr : Region.ready .any ops listed = [i])
    (h : OpWp c ⟨none, op, ty, pos, af, none⟩ env H (fun _ H' => (∀ w, StW c H' w → Sw w) ∧ HP c ops Q Sw m fuel (listed.setIfInBounds i true) env H')) : HP c ops Q Sw m (fuel + 1) listed env H := by
  intro a w hst hS
  refine anyX_all hr (by simp) (fun j hj => ?_)
  obtain rfl : j = i := by simpa using hj
  unfold wpOp
  rw [hi]
  dsimp only
  rw [if_pos (show Region.wanted _ _ = true from rfl)]
  refine .inl (h a w hst _ _ ?_)
  intro s H' v w' hK hw' hv hk
  exact ⟨fun _ => hK.1 _ hw', hK.2 _ _ (hst.next0 hw' hk) (hK.1 _ hw')⟩
theorem hp_pan {i : Nat} {dd : Option Nat} {op : Op} {v : Value} (hi : ops[i]? = some ⟨dd, op, ty, pos, af, none⟩) (hr : Region.ready .any ops listed = [i])
    (h : OpPan c ⟨dd, op, ty, pos, af, none⟩ env H v) (hq : PanQ c Q v) : HP c ops Q Sw m (fuel + 1) listed env H := by
  intro a w hst hS
  refine anyX_all hr (by simp) (fun j hj => ?_)
  obtain rfl : j = i := by simpa using hj
  unfold wpOp
  rw [hi]
  dsimp only
  rw [if_pos (show Region.wanted _ _ = true from rfl)]
  exact .inl (h a w hst _ _ hq)
theorem hp_done (hr : Region.ready .any ops listed = []) (h : JQ c Q .normal env H) : HP c ops Q Sw m fuel listed env H := by
  intro a w hst _
  cases fuel with
  | zero => exact ⟨hr, h a w hst⟩
  | succ fuel => exact ⟨fun _ => h a w hst, by rw [hr]; simp⟩
/-- What comes behind the first m, one after the other: nothing need hold any more. -/
def HT (c : Cx P nt) (ops : Array Oper) (Q : Exit → Act → World → Prop) (Sw : World → Prop) (m fuel : Nat) (listed : Array Bool) (env : Env) (H : List Ch) : Prop :=
  ∀ a w, St c env H a w → anyX P .any ops Q Sw m fuel listed a w
theorem hp_tail (h : HT c ops Q Sw m fuel listed env H) : HP c ops Q Sw m fuel listed env H := fun a w hst _ => h a w hst
theorem ht_op {i : Nat} {op : Op} (hi : ops[i]? = some ⟨some d, op, ty, pos, af, none⟩) (hr : Region.ready .any ops listed = [i]) (hd : d < nt) (hm : m ≤ i)
    (h : OpWp c ⟨some d, op, ty, pos, af, none⟩ env H (fun s H' => HT c ops Q Sw m fuel (listed.setIfInBounds i true) ((d, s) :: env) H')) : HT c ops Q Sw m (fuel + 1) listed env H := by
  intro a w hst
  refine anyX_all hr (by simp) (fun j hj => ?_)
  obtain rfl : j = i := by simpa using hj
  unfold wpOp
  rw [hi]
  dsimp only
  rw [if_pos (show Region.wanted _ _ = true from rfl)]
  refine .inl (h a w hst _ _ ?_)
  intro s H' v w' hK hw' hv hk
  exact ⟨fun hlt => absurd hlt (by omega), hK _ _ (hst.next hd hw' hv hk)⟩
theorem ht_op0 {i : Nat} {op : Op} (hi : ops[i]? = some ⟨none, op, ty, pos, af, none⟩) (hr : Region.ready .any ops listed = [i]) (hm : m ≤ i)
    (h : OpWp c ⟨none, op, ty, pos, af, none⟩ env H (fun _ H' => HT c ops Q Sw m fuel (listed.setIfInBounds i true) env H')) : HT c ops Q Sw m (fuel + 1) listed env H := by
  intro a w hst
  refine anyX_all hr (by simp) (fun j hj => ?_)
  obtain rfl : j = i := by simpa using hj
  unfold wpOp
  rw [hi]
  dsimp only
  rw [if_pos (show Region.wanted _ _ = true from rfl)]
  refine .inl (h a w hst _ _ ?_)
  intro s H' v w' hK hw' hv hk
  exact ⟨fun hlt => absurd hlt (by omega), hK _ _ (hst.next0 hw' hk)⟩
theorem ht_done (hr : Region.ready .any ops listed = []) (h : JQ c Q .normal env H) : HT c ops Q Sw m fuel listed env H := by
  intro a w hst
  cases fuel with
  | zero => exact ⟨hr, h a w hst⟩
  | succ fuel => exact ⟨fun _ => h a w hst, by rw [hr]; simp⟩
theorem hp_exact {b : Nat} {bt : TypeId} {row : List C} {cs : List Value} (j : Nat) (hp : pick [j] H = some ([.blk b bt row], Hr)) (hm : (b, cs, bt) ∈ L) (h : HP c ops Q (Keep L) m fuel listed env (.blk b bt (cs.map C.val) :: Hr)) : HP c ops Q (Keep L) m fuel listed env H := by
  intro a w hst hS
  obtain ⟨cs', g1, g2⟩ := blk_ok hst hp
  have g3 := hS _ hm
  dsimp only at g3
  rw [g1] at g3
  obtain rfl : cs' = cs := by simpa using g3
  exact h a w (st_row hst hp ⟨cs', g1, rdRow_exact g2⟩) hS
theorem hp_begin {id n : Nat} (m : Nat) (hn : ops.size = n) (hm : P.follows .mixedOrders = true) {a : Act} {w : World} (hs : St c env H a w) (hS : Sw { w with drawn := w.drawn + 1 }) (h : HP c ops Q Sw m n (Array.replicate n false) env H) : (Code.region id ops true).wp P Q a w := by
  subst hn
  refine wp_region_any hm (any_of_x (S := Sw) (m := m) _ _ _ _ ?_)
  obtain ⟨d1, d2⟩ := stw_drew hs.heap
  exact h a _ ⟨hs.size, hs.defers, fun t s hl => d2 _ _ (hs.slots t s hl), d1⟩ hS
/-- No block is looked at that is turned elsewhere. -/
theorem jc_hp0 {id n : Nat} (m : Nat) (hn : ops.size = n) (hm : P.follows .mixedOrders = true) (h : HP c ops Q (Keep []) m n (Array.replicate n false) env H) : JC c (.region id ops true) Q env H :=
  fun _ _ hs => hp_begin m hn hm hs (by intro p hp; cases hp) h
theorem jc_hp1 {id n : Nat} (m : Nat) (hn : ops.size = n) {b1 : Nat} {t1 : TypeId} {r1 : List C} (j1 : Nat) (hm : P.follows .mixedOrders = true) (hp : pick [j1] H = some ([.blk b1 t1 r1], Hr))
    (h : ∀ cs1 : List Value, cs1.length = r1.length → HP c ops Q (Keep [(b1, cs1, t1)]) m n (Array.replicate n false) env H) : JC c (.region id ops true) Q env H := by
  intro a w hs
  obtain ⟨cs1, g1, k1⟩ := blk_ok hs hp
  refine hp_begin m hn hm hs ?_ (h cs1 (rdRow_length k1))
  intro p hp
  obtain rfl := List.mem_singleton.1 hp
  exact g1
/-- A block each of whose cells is known. -/
theorem jc_hpV {id n : Nat} (m : Nat) (hn : ops.size = n) {b1 : Nat} {t1 : TypeId} {r1 : List C} (j1 : Nat) (vs : List Value) (hm : P.follows .mixedOrders = true) (hp : pick [j1] H = some ([.blk b1 t1 r1], Hr)) (hv : r1 = vs.map C.val)
    (h : HP c ops Q (Keep [(b1, vs, t1)]) m n (Array.replicate n false) env H) : JC c (.region id ops true) Q env H := by
  intro a w hs
  obtain ⟨cs1, g1, g2⟩ := blk_ok hs hp
  subst hv
  obtain rfl := rdRow_vals g2
  refine hp_begin m hn hm hs ?_ h
  intro p hp
  obtain rfl := List.mem_singleton.1 hp
  exact g1
theorem keep0 : ∀ w, StW c H w → Keep [] w := by intro w _ p hp; cases hp
theorem keep1 {b1 : Nat} {t1 : TypeId} {cs1 : List Value} (j : Nat) (hp : H[j]? = some (.blk b1 t1 (cs1.map C.val))) : ∀ w, StW c H w → Keep [(b1, cs1, t1)] w :=
  keep_of (fun p hp2 => by
    obtain rfl := List.mem_singleton.1 hp2
    exact List.mem_of_getElem? hp)
theorem mem0 {α : Type} {x : α} {l : List α} : x ∈ x :: l := List.mem_cons_self ..
theorem hok_nilCheck {d : Option Tmp} {b o : Nat} {sp : Option Nat} (hx : env.ev x = some (.cell (.val (.pointer (some ⟨b, o, sp⟩))))) : HOk c Sw env H ⟨d, .nilCheck x, ty, pos, af, none⟩ (.cell (.val (.pointer (some ⟨b, o, sp⟩)))) :=
  fun _ _ hst _ => ⟨.pointer (some ⟨b, o, sp⟩), fun _ _ => by simp [execOp, ev_val hst hx], rfl, rfl⟩
theorem hok_assign {d : Option Tmp} {s : S} (hx : env.ev x = some s) : HOk c Sw env H ⟨d, .assign x, ty, pos, af, none⟩ s :=
  fun a _ hst _ => ⟨a.eval x, fun _ _ => rfl, ev_ok hst hx⟩
theorem hok_loadN {d : Option Tmp} {b o : Nat} {row r : List C} {bt : TypeId} {cs : List Value} [TI P t] (j : Nat) (ha : aggB (TI.u P t) = true) (hx : env.ev x = some (.cell (.val (.pointer (some ⟨b, o, none⟩))))) (hp : pick [j] H = some ([.blk b bt row], Hr))
    (hm : (b, cs, bt) ∈ L) (hr : r = (row.drop o).take (TI.i P t).size) (hz : r.length = (TI.i P t).size) : HOk c (Keep L) env H ⟨d, .load t x, ty, pos, af, none⟩ (.row r) :=
  fun _ _ hst hS => by
    have hrd := blk_keep hst hp hS hm
    have h1 := rdRow_take (TI.i P t).size (rdRow_drop o hrd)
    rw [← hr] at h1
    have hlen := rdRow_length h1
    refine ⟨.agg ((cs.drop o).take (TI.i P t).size).toArray, fun w' hS' => ?_, _, rfl, by simpa using h1⟩
    have hh := hS' _ hm
    have hc := cells_take (cells_of_blk hh o) (TI.i P t).size
    simp only [execOp, ev_val hst hx, Instr.loadAt, Instr.sureAddr, Sem.run_bind, Sem.run_pure, Result.andThen_ok, run_loadVarN t ha (by rw [hlen, hz]) hc]
end
end Go.Vc
end

section
namespace Go.Vc
open Go.RowKit

section
variable {P : Program} [Gl P] {nt : Nat} {c : Cx P nt} {env : Env} {H : List Ch} {K : S → List Ch → Prop}
variable {d : Option Tmp} {ty t t' : TypeId} {pos : String} {af : Array Edge} {g : Option (Nat × Bool)} {x y : Operand}
/-- A slice of one constant struct. -/
theorem ow_buildSliceC [SL P t] {z : Value} {arr : Array Value} {row : List C} (cs : List Value) (hc : arr.toList = cs) (h1 : cs.all Value.oneCell' = true) (hz : (TI.i P (SL.e P t)).zero = some z) (hrow : row = cs.map C.val)
    (hpos : 0 < (TI.i P (SL.e P t)).size) (hs : sliceRows (TI.i P (SL.e P t)).size 0 [(0, S.row row)] = some [row]) (hlim : (TI.i P (SL.e P t)).size ≤ 16777216) (hK : K (.cell (.list [row])) H) : OpWp c ⟨d, .buildSlice t 1 #[(0, .const (.agg arr))], ty, pos, af, g⟩ env H K := by
  intro a w h next Q hn
  have hparts : Parts w (c.av H) [(0, S.row row)] [(0, .agg arr)] := by
    refine ⟨.agg arr, [], rfl, ⟨arr, rfl, ?_⟩, rfl⟩
    rw [hc, hrow]
    exact rdRow_zero cs (List.all_eq_true.1 h1)
  obtain ⟨cs', g1, g2⟩ := run_buildSlice (P := P) (t := t) (len := 1) hz rfl hparts hs rfl (by omega)
  have hg : Grow (hb []) w (w.alloc (.cells cs'.toArray (SL.e P t))) := ⟨rfl, rfl, rfl, by simp, fun k hk _ => Below.heap_alloc _ _ _ hk⟩
  have h' : StW c ([] ++ H) w := h.heap
  obtain ⟨s1, s2⟩ := StW.step (H1' := []) h' hg (by simp [hb]) (by simp [hb]) (by simp)
  have hav : ¬ c.av H w.heap.size := fun hx => by have := h.heap.avlt _ hx; omega
  have hr := rdRows_up (hg.up (A := c.av H) (by simp [hb])) (fun b hb => Or.inl hb) _ _ _ g2
  unfold Oper.wp
  have hrun : (execOp a.eval ⟨d, .buildSlice t 1 #[(0, .const (.agg arr))], ty, pos, af, g⟩).run P w = .ok (.value (.slice (some ⟨w.heap.size, 0, none⟩) 1 1)) (w.alloc (.cells cs'.toArray (SL.e P t))) := by
    simp only [execOp, List.map_toArray, List.map_cons, List.map_nil, Act.eval, Sem.run_bind, g1, Result.andThen_ok, Sem.run_pure]
  rw [hrun]
  refine hn _ H _ _ hK s1 ?_ s2
  exact rdRows_cells (e := SL.e P t) hr hpos (by show (w.heap.push _)[w.heap.size]? = _; simp) hav _ (Nat.le_refl _) (by unfold maxLen; omega)
/-- Append of one element, to lists that are not long. -/
theorem ow_apR {α : Type} {f : α → List C} {v : Value} {e : TypeId} {k : Nat} {l1 : List α} {Hr : List Ch} [SL P t] {z : Value} (j : Nat) (a : α) (hx : env.ev x = some (.cell (.val v))) (hp : pick [j] H = some ([.own v e k (l1.map f)], Hr)) (hy : env.ev y = some (.cell (.list [f a])))
    (he : SL.e P t = e) (hz : (TI.i P (SL.e P t)).zero = some z) (hzs : z.cells.size = k) (hsz : (TI.i P (SL.e P t)).size = k)
    (hrow : ∀ a, (f a).length = k) (hlen : l1.length ≤ 2000000) (hb : (TI.i P (SL.e P t)).bytes ≤ 1000)
    (hK : ∀ v', v'.oneCell' = true → K (.cell (.val v')) (.own v' e k ((l1 ++ [a]).map f) :: Hr)) :
    OpWp c ⟨d, .call { callee := .builtin .append, args := #[x, y], argTypes := #[t, t] }, ty, pos, af, g⟩ env H K :=
  ow_append1 j a hx hp hy he hz hzs hsz hrow (by have := Nat.mul_le_mul (show l1.length + 1 ≤ 2000001 by omega) hb; omega) (by omega) hK
/-- Append of one row. -/
theorem ow_apRow {v : Value} {e : TypeId} {k : Nat} {rows : List (List C)} {row : List C} {Hr : List Ch} [SL P t] {z : Value} (j : Nat) (hx : env.ev x = some (.cell (.val v))) (hp : pick [j] H = some ([.own v e k rows], Hr)) (hy : env.ev y = some (.cell (.list [row])))
    (he : SL.e P t = e) (hz : (TI.i P (SL.e P t)).zero = some z) (hzs : z.cells.size = k) (hsz : (TI.i P (SL.e P t)).size = k)
    (hrow : row.length = k) (hlen : rows.length ≤ 2000000) (hb : (TI.i P (SL.e P t)).bytes ≤ 1000)
    (hK : ∀ v', v'.oneCell' = true → K (.cell (.val v')) (.own v' e k (rows ++ [row]) :: Hr)) :
    OpWp c ⟨d, .call { callee := .builtin .append, args := #[x, y], argTypes := #[t, t] }, ty, pos, af, g⟩ env H K :=
  ow_append j hx hp hy he hz hzs hsz (by intro r hr; obtain rfl := List.mem_singleton.1 hr; exact hrow) (by have := Nat.mul_le_mul (show rows.length + 1 ≤ 2000001 by omega) hb; simp only [List.length_singleton]; omega) (by simp only [List.length_singleton]; omega) hK
/-- What is owned becomes what is only read: where cell i of a block holds it. -/
theorem st_freezeBi {a : Act} {w : World} {v : Value} {e t : TypeId} {b k j j2 : Nat} {rows : List (List C)} {row : List C} {Hr Hr2 : List Ch} (i : Nat) (h : St c env H a w) (hp : pick [j] H = some ([.own v e k rows], Hr)) (hp2 : pick [j2] Hr = some ([.blk b t row], Hr2)) (hi : row[i]? = some (.val v)) (hX : ∀ b ∈ c.X, b ∈ hb Hr) :
    St c env (.blk b t (row.set i (.list rows)) :: Hr2) a w := by
  have h' : StW c (.own v e k rows :: Hr) w := h.heap.perm (pick_perm hp)
  have hav : c.av (.own v e k rows :: Hr) = c.av H := av_perm c (pick_perm hp)
  obtain ⟨f1, f2, f3⟩ := stw_freeze h' hX
  have hs : St c env Hr a w := ⟨h.size, h.defers, fun t s hl => f3 _ _ (by rw [hav]; exact h.slots t s hl), f1⟩
  obtain ⟨cs, g1, g2⟩ := blk_ok hs hp2
  refine st_row hs hp2 ⟨cs, g1, ?_⟩
  obtain ⟨u, hu, hr⟩ := rdRow_get g2 hi
  have := rdRow_set (i := i) g2 (c := .list rows) (v := u) (by rw [hr.1]; exact f2)
  obtain ⟨hlt, rfl⟩ := List.getElem?_eq_some_iff.1 hu
  rwa [List.set_getElem_self] at this
theorem jq_freezeBi {Q : Exit → Act → World → Prop} {ex : Exit} (j j2 i : Nat) {v : Value} {e t : TypeId} {b k : Nat} {rows : List (List C)} {row : List C} {Hr Hr2 : List Ch} (hp : pick [j] H = some ([.own v e k rows], Hr)) (hp2 : pick [j2] Hr = some ([.blk b t row], Hr2)) (hi : row[i]? = some (.val v)) (hX : ∀ b ∈ c.X, b ∈ hb Hr)
    (h : JQ c Q ex env (.blk b t (row.set i (.list rows)) :: Hr2)) : JQ c Q ex env H := fun a w hs => h a w (st_freezeBi i hs hp hp2 hi hX)
end
end Go.Vc
end

section
namespace Go.Vc
open Go.RowKit

section
variable {P : Program} [Gl P] {nt : Nat} {c : Cx P nt} {env : Env} {H : List Ch} {K : S → List Ch → Prop}
variable {d : Option Tmp} {ty t t' : TypeId} {pos : String} {af : Array Edge} {g : Option (Nat × Bool)} {x y : Operand}
end
end Go.Vc
end

section
namespace Go.Vc
open Go.RowKit

/-- A deferred call: what its frame's caller was doing (u), what it does then (u'). -/
def ConD (P : Program) [Gl P] (f : FuncId) (args : List S) (Hin : List Ch) (u u' : FrameMode) (Hout : List Ch) : Prop :=
  ∀ (vs : List Value) (w : World) (A : Nat → Prop), (∀ b, A b → b < w.heap.size) → (∀ b ∈ hb Hin, A b) → (hb Hin).Nodup → SOks w A args vs → (∀ ch ∈ Hin, ch.ok w A) → Gl.ok P w A →
    CallsD P f vs.toArray u w (fun e uu w' => (∃ v, e = .returned v) ∧ uu = u' ∧ (∀ ch ∈ Hout, ch.ok w' (fun b => A b ∨ b ∈ hb Hout)) ∧ (hb Hout).Nodup ∧ (∀ b ∈ hb Hout, b ∈ hb Hin ∨ w.heap.size ≤ b) ∧ Grow (hb Hin) w w')
section
variable {P : Program} [Gl P] {nt : Nat} {c : Cx P nt} {env : Env} {H : List Ch} {K : S → List Ch → Prop}
variable {d : Option Tmp} {ty t t' : TypeId} {pos : String} {af : Array Edge} {g : Option (Nat × Bool)} {x y : Operand}
def RD (c : Cx P nt) (u' : FrameMode) (Hout : List Ch) (e : Ending) (uu : FrameMode) (w' : World) : Prop :=
  (∃ v, e = .returned v) ∧ uu = u' ∧ (∀ ch ∈ Hout, ch.ok w' (fun b => c.A b ∨ b ∈ hb Hout)) ∧ (hb Hout).Nodup ∧ (∀ b ∈ hb Hout, b ∈ c.X ∨ c.B.heap.size ≤ b) ∧ Grow c.X c.B w'
theorem cond_intro {f : FuncId} {fn : Func} {code : Code} {args : List S} {Hin Hout : List Ch} {u u' : FrameMode} (hf : P.funcs[f]? = some fn) (hbd : fn.body = some code) (hnt : fn.ntmps = nt) (hle : args.length ≤ nt)
    (h : ∀ c : Cx P nt, c.X = hb Hin → ∀ (c₀ : Frame) (cs : List Frame), c₀.mode = u → ∀ a w, St c (enum 0 args) Hin a w → code.wpS P (bodyPostS P fn c₀ cs (RD c u' Hout)) a (c₀ :: cs) w) : ConD P f args Hin u u' Hout := by
  intro vs w A hA hHA hnd hvs hok hgl
  have hlen := soks_length hvs
  let c : Cx P nt := ⟨w, A, hb Hin, hA⟩
  have hav : ∀ b, c.av Hin b → A b := fun b hb => hb.elim id (hHA b)
  refine callsD_of_wpS hf hbd fun c₀ cs hu => ?_
  refine h c rfl c₀ cs hu _ _ ⟨?_, rfl, ?_, ⟨rfl, rfl, rfl, Nat.le_refl _, fun _ _ _ => rfl, fun ch hch => Ch.up (Up.refl _ _) (fun b hb => .inl (hav b hb)) (fun _ _ => rfl) (hok ch hch), hnd, fun b hb => .inl hb, Gl.up (Up.refl _ _) (fun b hb => .inl (hav b hb)) hgl⟩⟩
  · simp only [Array.size_append, Array.size_replicate, List.size_toArray, hnt]
    omega
  · intro i s hi
    obtain ⟨v, _, h2, h3⟩ := enum_lookup hvs hi
    have hlt : i < vs.length := (List.getElem?_eq_some_iff.1 (by simpa using h2)).1
    rw [Array.getD_eq_getD_getElem?, Array.getElem?_append_left (by simpa using hlt)]
    simp only [List.getElem?_toArray]
    simp only [Nat.sub_zero] at h2
    rw [h2]
    exact sok_up (Up.refl _ _) (fun b hb => .inl (hav b hb)) s v h3
/-- How such a call ends. -/
theorem jq_retD {fn : Func} {c₀ : Frame} {cs cs' : List Frame} {u' : FrameMode} {Hout : List Ch} (hres : fn.results = #[]) (hc' : cs' = { c₀ with mode := u' } :: cs) (hp : Sub H Hout) :
    JQ c (fun e a w => bodyPostS P fn c₀ cs (RD c u' Hout) e a cs' w) .normal env H := by
  obtain ⟨is, Hr, hp⟩ := hp
  intro a w h
  have hperm := pick_perm hp
  have h' : StW c (Hr ++ Hout) w := (h.heap.perm hperm).perm List.perm_append_comm
  obtain ⟨d1, d2⟩ := h'.drop
  refine ⟨h.defers, u', hc', .tuple #[], ?_, ⟨_, rfl⟩, rfl, d1.ok, d1.nodup, d1.mine, stw_grow d1⟩
  rw [results_eq, hres]
  simp
/-- What recover finds. -/
theorem wps_recover {Q : Exit → Act → List Frame → World → Prop} {a : Act} {w : World} {cs cs' : List Frame} {id d1 d2 : Nat} {ty1 ty2 : TypeId} {p1 p2 : String} {af1 af2 : Array Edge} {v : Value} {rest : Code} (h : St c env H a w) (hd1 : d1 < nt) (hd2 : d2 < nt) (hv : v.oneCell' = true)
    (hrec : recoverD cs = some (v, cs') ∨ recoverD cs = none ∧ v = .nilIface ∧ cs' = cs)
    (hr : JC c rest (fun e a w => Q e a cs' w) ((d2, .cell (.val v)) :: (d1, .cell (.val v)) :: env) H) :
    (Code.seq (.region id #[⟨some d1, .call { callee := .builtin .recover, args := #[], argTypes := #[] }, ty1, p1, af1, none⟩, ⟨some d2, .assign (.tmp d1), ty2, p2, af2, none⟩] false) rest).wpS P Q a cs w := by
  have hs1 : St c ((d1, .cell (.val v)) :: env) H (a.put (some d1) v) w := h.next hd1 h.heap ⟨rfl, hv⟩ (fun _ _ h => h)
  have hs2 : St c ((d2, .cell (.val v)) :: (d1, .cell (.val v)) :: env) H ((a.put (some d1) v).put (some d2) v) w := hs1.next hd2 hs1.heap ⟨rfl, hv⟩ (fun _ _ h => h)
  have hev : (a.put (some d1) v).eval (.tmp d1) = v := ev_val hs1 (by simp [Env.ev])
  refine wpS_seq (wpS_region ?_)
  have hex1 : (execOp a.eval ⟨some d1, .call { callee := .builtin .recover, args := #[], argTypes := #[] }, ty1, p1, af1, none⟩).run P w = .ok .recover w := by
    simp [execOp, resolve, invoke, builtin]
  have hex2 : (execOp (a.put (some d1) v).eval ⟨some d2, .assign (.tmp d1), ty2, p2, af2, none⟩).run P w = .ok (.value v) w := by
    simp [execOp, hev]
  have fin : Code.wpS P rest Q ((a.put (some d1) v).put (some d2) v) cs' w := wpS_of_wp (hr _ _ hs2)
  rcases hrec with hrec | ⟨hrec, rfl, rfl⟩
  · simp only [List.size_toArray, List.length_cons, List.length_nil, show List.range 2 = [0, 1] from rfl, wpOpsS, List.getElem?_toArray, List.getElem?_cons_zero, List.getElem?_cons_succ, Region.wanted, if_true, hex1, hrec, hex2, Oper.upon, Exit.thenS]
    exact fin
  · simp only [List.size_toArray, List.length_cons, List.length_nil, show List.range 2 = [0, 1] from rfl, wpOpsS, List.getElem?_toArray, List.getElem?_cons_zero, List.getElem?_cons_succ, Region.wanted, if_true, hex1, hrec, hex2, Oper.upon, Exit.thenS]
    exact fin
/-- What recover gave, looked at. -/
def ifaceB : TypeDesc → Bool
  | .interface _ => true
  | _ => false
omit [Gl P] in
theorem u_of_iface {u : TypeDesc} (h : ifaceB u = true) : ∃ m, u = .interface m := by cases u <;> simp_all [ifaceB]
theorem ow_neqNilIface [TI P t] (hu : ifaceB (TI.u P t) = true) (h : env.ev x = some (.cell (.val .nilIface))) (hK : K (Bl false) H) : OpWp c ⟨d, .binOp .neq t x (.const .nilIface) t', ty, pos, af, g⟩ env H K :=
  ow_valx rfl (fun a w hs => by
    have e1 : a.eval x = .nilIface := ev_val hs h
    have e2 : a.eval (.const .nilIface) = .nilIface := rfl
    obtain ⟨m, hm⟩ := u_of_iface hu
    have hu' : (underlying t).run P w = .ok (.interface m) w := by rw [run_underlying (TI.hu (P := P) (t := t)), hm]
    have h1 : ∀ n, (Op.equalIn (n + 1) t .nilIface .nilIface).run P w = .ok true w := fun n => by simp [Op.equalIn, hu']
    have h2 : (Op.equalIn Op.maxDepth t .nilIface .nilIface).run P w = .ok true w := h1 9999
    simp [execOp, e1, e2, eqGuard, binOp, Op.equal, h2]) hK
theorem ow_neqIface [TI P t] (hu : ifaceB (TI.u P t) = true) {u : TypeId} {v : Value} (h : env.ev x = some (.cell (.val (.iface u v)))) (hK : K (Bl true) H) : OpWp c ⟨d, .binOp .neq t x (.const .nilIface) t', ty, pos, af, g⟩ env H K :=
  ow_valx rfl (fun a w hs => by
    have e1 : a.eval x = .iface u v := ev_val hs h
    have e2 : a.eval (.const .nilIface) = .nilIface := rfl
    obtain ⟨m, hm⟩ := u_of_iface hu
    have hu' : (underlying t).run P w = .ok (.interface m) w := by rw [run_underlying (TI.hu (P := P) (t := t)), hm]
    have h1 : ∀ n, (Op.equalIn (n + 1) t (.iface u v) .nilIface).run P w = .ok false w := fun n => by simp [Op.equalIn, hu']
    have h2 : (Op.equalIn Op.maxDepth t (.iface u v) .nilIface).run P w = .ok false w := h1 9999
    simp [execOp, e1, e2, eqGuard, binOp, Op.equal, h2]) hK
theorem ow_typeAssert {u : TypeId} [TI P u] {vs : List Value} (hu : structB (TI.u P u) = true) (h : env.ev x = some (.cell (.val (.iface u (.agg vs.toArray))))) (h1 : vs.all Value.oneCell' = true) (hK : K (.row (vs.map C.val)) H) : OpWp c ⟨d, .typeAssert x t u false, ty, pos, af, g⟩ env H K :=
  ow_val (fun a w hs => by
    have hu' : (underlying u).run P w = .ok (.struct (fieldsB (TI.u P u))) w := by rw [run_underlying (TI.hu (P := P) (t := u))]; exact congrArg (fun u => Result.ok u w) (u_of_struct hu)
    refine ⟨.agg vs.toArray, ?_, vs.toArray, rfl, ?_⟩
    · simp [execOp, ev_val hs h, Instr.typeAssert, hu']
    · simpa using rdRow_zero vs (List.all_eq_true.1 h1)) hK

def bare (a : Act) : Act := { a with defers := [] }
def JLD (c : Cx P nt) (ds : List Deferred) (ops : Array Oper) (Q : Exit → Act → World → Prop) (l : List Oper) (env : Env) (H : List Ch) : Prop := ∀ a w, St c env H (bare a) w → a.defers = ds → wpList P ops Q l a w
def JCD (c : Cx P nt) (ds : List Deferred) (code : Code) (Q : Exit → Act → World → Prop) (env : Env) (H : List Ch) : Prop := ∀ a w, St c env H (bare a) w → a.defers = ds → code.wp P Q a w
def JQD (c : Cx P nt) (ds : List Deferred) (Q : Exit → Act → World → Prop) (e : Exit) (env : Env) (H : List Ch) : Prop := ∀ a w, St c env H (bare a) w → a.defers = ds → Q e a w
variable {ds : List Deferred} {ops : Array Oper} {Q : Exit → Act → World → Prop} {l : List Oper}
theorem jl_defer {fv : Fn} {cap : Array Value} (hx : env.ev x = some (.cell (.val (.func fv #[] cap)))) (h : JLD c [⟨.fn fv cap, #[]⟩] ops Q l env H) : JL c ops Q (⟨none, .defer { callee := .value x, args := #[], argTypes := #[] }, ty, pos, af, none⟩ :: l) env H := by
  intro a w hs
  refine wpList_plain rfl fun K hK => ?_
  have hrun : (execOp a.eval ⟨none, .defer { callee := .value x, args := #[], argTypes := #[] }, ty, pos, af, none⟩).run P w = .ok (.defer ⟨.fn fv cap, #[]⟩) w := by
    simp [execOp, resolve, Deferred.ofValue, ev_val hs hx]
  unfold Oper.wp
  rw [hrun, Oper.upon_defer]
  refine hK _ _ (h _ _ ?_ ?_)
  · exact ⟨hs.size, rfl, hs.slots, hs.heap⟩
  · show _ :: a.defers = _
    rw [hs.defers]
theorem jld_nil (h : JQD c ds Q .normal env H) : JLD c ds ops Q [] env H := fun a w hs hd => h a w hs hd
theorem put_bare (a : Act) (dst : Option Tmp) (v : Value) : { (bare a).put dst v with defers := a.defers } = a.put dst v := by cases dst <;> rfl
omit [Gl P] in
/-- What an operation that defers nothing does. -/
theorem wp_bare {o : Oper} {a : Act} {w : World} {next : Act → World → Prop} (hnd : ∀ dd w', (execOp a.eval o).run P w ≠ .ok (.defer dd) w')
    (h : o.wp P (bare a) w (fun a' w' => next { a' with defers := a.defers } w') (fun e a' w' => Q e { a' with defers := a.defers } w')) : o.wp P a w next Q := by
  unfold Oper.wp at h ⊢
  rw [show (bare a).eval = a.eval from rfl] at h
  revert h hnd
  generalize (execOp a.eval o).run P w = r
  intro hnd h
  have hb0 : ({ bare a with defers := a.defers } : Act) = a := rfl
  unfold Oper.upon at h ⊢
  split at h
  · rw [put_bare] at h; exact h
  · rw [put_bare] at h; exact h
  · exact absurd rfl (hnd _ _)
  · refine h.mono ?_
    intro e w' he
    cases e with
    | returned v => dsimp only at he ⊢; rw [put_bare] at he; exact he
    | panicked ch => exact he
    | outgrown => obtain ⟨a1, w1, h1⟩ := he; exact ⟨_, w1, h1⟩
  · refine h.mono ?_
    intro v w' he
    dsimp only at he; rw [put_bare] at he; exact he
  · exact h
  · exact h.elim
theorem jld_op {d : Nat} {op : Op} (h : OpWp c ⟨some d, op, ty, pos, af, none⟩ env H (fun s H' => JLD c ds ops Q l ((d, s) :: env) H')) (hd : d < nt)
    (hnd : ∀ a w, St c env H (bare a) w → ∀ dd w', (execOp a.eval ⟨some d, op, ty, pos, af, none⟩).run P w ≠ .ok (.defer dd) w') : JLD c ds ops Q (⟨some d, op, ty, pos, af, none⟩ :: l) env H := by
  intro a w hs hds
  refine wpList_plain rfl fun K hK => ?_
  refine wp_bare (hnd a w hs) (h _ w hs _ _ ?_)
  intro s H' v w' hJ hw' hv hk
  exact hK _ _ (hJ _ _ (hs.next hd hw' hv hk) hds)
theorem jld_op0 {op : Op} (h : OpWp c ⟨none, op, ty, pos, af, none⟩ env H (fun _ H' => JLD c ds ops Q l env H'))
    (hnd : ∀ a w, St c env H (bare a) w → ∀ dd w', (execOp a.eval ⟨none, op, ty, pos, af, none⟩).run P w ≠ .ok (.defer dd) w') : JLD c ds ops Q (⟨none, op, ty, pos, af, none⟩ :: l) env H := by
  intro a w hs hds
  refine wpList_plain rfl fun K hK => ?_
  refine wp_bare (hnd a w hs) (h _ w hs _ _ ?_)
  intro s H' v w' hJ hw' _ hk
  exact hK _ _ (hJ _ _ (hs.next0 (v := v) hw' hk) hds)
theorem jq_thenD {y : Code} (h : JCD c ds y Q env H) : JQD c ds (Exit.then (fun a w => y.wp P Q a w) Q) .normal env H := fun a w hs hd => h a w hs hd
theorem jcd_region {id : Nat} {l : List Oper} (h : JLD c ds l.toArray Q l env H) : JCD c ds (.region id l.toArray false) Q env H := fun a w hs hd => wp_region_lit (h a w hs hd)
theorem jcd_seq {x y : Code} (h : JCD c ds x (Exit.then (fun a w => y.wp P Q a w) Q) env H) : JCD c ds (.seq x y) Q env H := fun a w hs hd => wp_seq (h a w hs hd)
theorem jcd_ret (h : JQD c ds Q .ret env H) : JCD c ds .ret Q env H := fun a w hs hd => wp_ret (h a w hs hd)
/-- The frame leaves: its deferred call is made first. -/
theorem leaves_of {fn : Func} {f : FuncId} [FI P f] {cap : Array Value} {u u' : FrameMode} {w : World} {a : Act} {ss : List S} {Hd Hd' Hr : List Ch} {is : List Nat} {post : (S → List Ch → Prop) → Prop} (hs : St c env H (bare a) w) (hu : u ≠ .run) (hu' : settle u' = .returning) (hp : pick is H = some (Hd, Hr))
    (hargs : ∀ w, StW c H w → SOks w (c.av H) ss cap.toList) (con : ConD P f ss Hd u u' Hd') (h : JQ c (bodyPost P fn (RR c post)) .ret env (Hd' ++ Hr)) : Leaves P fn a.tmps (RR c post) [⟨.fn (.func f) cap, #[]⟩] u w := by
  have hperm := pick_perm hp
  have h' : StW c (Hd ++ Hr) w := hs.heap.perm hperm
  have hav : c.av (Hd ++ Hr) = c.av H := av_perm c hperm
  have hnd := h'.nodup
  rw [hb_app, List.nodup_append] at hnd
  refine leaves_cons (f := f) (args := cap.toList.toArray) hu (by simp [invoke, FI.hrun]) ?_
  refine (con cap.toList w (c.av H) (fun b hb => hs.heap.avlt b hb) (fun b hb => by rw [← hav]; exact .inr (by rw [hb_app]; exact List.mem_append.2 (.inl hb))) hnd.1 (hargs w hs.heap)
    (fun ch hch => by rw [← hav]; exact h'.ok ch (List.mem_append.2 (.inl hch))) hs.heap.gl).mono ?_
  rintro e uu w' ⟨⟨v, rfl⟩, rfl, hok, hnd', hnew, hg⟩
  have hA : ∀ b, c.av (Hd' ++ Hr) b → c.av H b ∨ b ∈ hb Hd' := by
    intro b hb
    rw [← hav]
    rcases hb with hb | hb
    · exact .inl (.inl hb)
    · rw [hb_app] at hb
      rcases List.mem_append.1 hb with hb | hb
      · exact .inr hb
      · exact .inl (.inr (by rw [hb_app]; exact List.mem_append.2 (.inr hb)))
  obtain ⟨s1, s2⟩ := StW.step h' hg hnew hnd' (fun ch hch => Ch.up (Up.refl _ _) (fun b hb => .inl (hA b hb)) (fun _ _ => rfl) (hok ch hch))
  have hs' : St c env (Hd' ++ Hr) (bare a) w' := ⟨hs.size, rfl, fun i s hi => s2 s _ (by rw [hav]; exact hs.slots i s hi), s1⟩
  obtain ⟨_, v, hv, hR⟩ := h _ _ hs'
  show Leaves P fn a.tmps (RR c post) [] (settle uu) w'
  rw [hu']
  exact ⟨v, hv, hR⟩
theorem jqd_ret {fn : Func} {f : FuncId} [FI P f] {cap : Array Value} {ss : List S} {Hd Hd' Hr : List Ch} {post : (S → List Ch → Prop) → Prop} (is : List Nat) (hp : pick is H = some (Hd, Hr))
    (hargs : ∀ w, StW c H w → SOks w (c.av H) ss cap.toList) (con : ConD P f ss Hd .returning .returning Hd') (h : JQ c (bodyPost P fn (RR c post)) .ret env (Hd' ++ Hr)) : JQD c [⟨.fn (.func f) cap, #[]⟩] (bodyPostD P fn (RR c post)) .ret env H := by
  intro a w hs hd
  show Leaves P fn a.tmps (RR c post) a.defers .returning w
  rw [hd]
  exact leaves_of hs (by intro h; cases h) rfl hp hargs con h
/-- A call through a function value that panics, in such a frame. -/
theorem jld_pan {fn : Func} {d : Nat} {f f' : FuncId} [FI P f] [FI P f'] {z : Operand} {cap cap' : Array Value} {ss cs : List S} {Hin Hr Hd Hd' Hr' : List Ch} {v : Value} {u' : FrameMode} {is is' : List Nat} {post : (S → List Ch → Prop) → Prop}
    (hz : env.ev z = some (.cell (.val (.func (.func f') #[] cap')))) (hcap : ∀ w, StW c H w → SOks w (c.av H) cs cap'.toList) (hp : pick is H = some (Hin, Hr)) (con : Pan P f' cs Hin v)
    (hp' : pick is' Hr = some (Hd, Hr')) (hu' : settle u' = .returning) (hargs : ∀ w, StW c Hr w → SOks w (c.av Hr) ss cap.toList) (conD : ConD P f ss Hd (.panicking [{ v := v, recovered := false }]) u' Hd')
    (hq : ∀ a w, Q (.panic [{ v := v, recovered := false }]) a w = bodyPostD P fn (RR c post) (.panic [{ v := v, recovered := false }]) a w)
    (h : JQ c (bodyPost P fn (RR c post)) .ret env (Hd' ++ Hr')) : JLD c [⟨.fn (.func f) cap, #[]⟩] ops Q (⟨some d, .call { callee := .value z, args := #[], argTypes := #[] }, ty, pos, af, none⟩ :: l) env H := by
  intro a w hs hds
  refine wpList_plain rfl fun K _ => ?_
  have hperm := pick_perm hp
  have h' : StW c (Hin ++ Hr) w := hs.heap.perm hperm
  have hav : c.av (Hin ++ Hr) = c.av H := av_perm c hperm
  have hnd := h'.nodup
  rw [hb_app, List.nodup_append] at hnd
  have hrun : (execOp a.eval ⟨some d, .call { callee := .value z, args := #[], argTypes := #[] }, ty, pos, af, none⟩).run P w = .ok (.enter f' cap'.toList.toArray) w := by
    have e1 : a.eval z = .func (.func f') #[] cap' := ev_val (a := bare a) hs hz
    simp [execOp, resolve, invoke, e1, Deferred.ofValue, FI.hrun]
  unfold Oper.wp
  rw [hrun, Oper.upon_enter]
  refine (con cap'.toList w (c.av H) (fun b hb => hs.heap.avlt b hb) (fun b hb => by rw [← hav]; exact .inr (by rw [hb_app]; exact List.mem_append.2 (.inl hb))) hnd.1 (hcap w hs.heap)
    (fun ch hch => by rw [← hav]; exact h'.ok ch (List.mem_append.2 (.inl hch))) hs.heap.gl).mono ?_
  rintro e w' ⟨rfl, hg⟩
  obtain ⟨s1, s2⟩ := StW.step (H1' := []) h' hg (by simp [hb]) (by simp [hb]) (by simp)
  show Q (.panic [{ v := v, recovered := false }]) a w'
  rw [hq]
  show Leaves P fn a.tmps (RR c post) a.defers (.panicking [{ v := v, recovered := false }]) w'
  rw [hds]
  exact leaves_of (H := Hr) ⟨hs.size, rfl, fun i s hi => s2 s _ (by rw [hav]; exact hs.slots i s hi), s1⟩ (by intro h; cases h) hu' hp' hargs conD h
/-- A function whose frame may have deferred calls. -/
theorem con_introD {f : FuncId} {fn : Func} {code : Code} {args : List S} {Hin : List Ch} {post : (S → List Ch → Prop) → Prop} (hf : P.funcs[f]? = some fn) (hbd : fn.body = some code) (hnt : fn.ntmps = nt) (hle : args.length ≤ nt)
    (h : ∀ c : Cx P nt, c.X = hb Hin → JC c code (bodyPostD P fn (RR c post)) (enum 0 args) Hin) : Con P f args Hin post := by
  intro vs w A hA hHA hnd hvs hok hgl
  have hlen := soks_length hvs
  let c : Cx P nt := ⟨w, A, hb Hin, hA⟩
  have hav : ∀ b, c.av Hin b → A b := fun b hb => hb.elim id (hHA b)
  refine calls_of_wp_defers hf hbd ?_
  refine h c rfl _ _ ⟨?_, rfl, ?_, ⟨rfl, rfl, rfl, Nat.le_refl _, fun _ _ _ => rfl, fun ch hch => Ch.up (Up.refl _ _) (fun b hb => .inl (hav b hb)) (fun _ _ => rfl) (hok ch hch), hnd, fun b hb => .inl hb, Gl.up (Up.refl _ _) (fun b hb => .inl (hav b hb)) hgl⟩⟩
  · simp only [Array.size_append, Array.size_replicate, List.size_toArray, hnt]
    omega
  · intro i s hi
    obtain ⟨v, _, h2, h3⟩ := enum_lookup hvs hi
    have hlt : i < vs.length := (List.getElem?_eq_some_iff.1 (by simpa using h2)).1
    rw [Array.getD_eq_getD_getElem?, Array.getElem?_append_left (by simpa using hlt)]
    simp only [List.getElem?_toArray]
    simp only [Nat.sub_zero] at h2
    rw [h2]
    exact sok_up (Up.refl _ _) (fun b hb => .inl (hav b hb)) s v h3
omit [Gl P] in
/-- No operation but one defers. -/
theorem nd_move {a : Act} {w : World} {dd : Deferred} {w' : World} : (execOp a.eval ⟨d, .move x, ty, pos, af, g⟩).run P w ≠ .ok (.defer dd) w' := by simp [execOp]
omit [Gl P] in
theorem nd_val {s : Sem Value} {w : World} {dd : Deferred} {w' : World} : ((do pure (.value (← s)) : Sem Next)).run P w ≠ .ok (.defer dd) w' := by
  simp only [Sem.run_bind]
  cases s.run P w <;> simp
omit [Gl P] in
theorem nd_unit {s : Sem Unit} {w : World} {dd : Deferred} {w' : World} : ((do s; pure .skip : Sem Next)).run P w ≠ .ok (.defer dd) w' := by
  simp only [Sem.run_bind]
  cases s.run P w <;> simp
omit [Gl P] in
theorem nd_build {a : Act} {w : World} {ps : Array (Nat × Operand)} {dd : Deferred} {w' : World} : (execOp a.eval ⟨d, .build t ps, ty, pos, af, g⟩).run P w ≠ .ok (.defer dd) w' := nd_val
omit [Gl P] in
theorem nd_store {a : Act} {w : World} {dd : Deferred} {w' : World} : (execOp a.eval ⟨d, .store t x y, ty, pos, af, g⟩).run P w ≠ .ok (.defer dd) w' := nd_unit
theorem nd_callv {f' : FuncId} [FI P f'] {z : Operand} {cap' : Array Value} (hz : env.ev z = some (.cell (.val (.func (.func f') #[] cap')))) (a : Act) (w : World) (hs : St c env H (bare a) w) (dd : Deferred) (w' : World) : (execOp a.eval ⟨d, .call { callee := .value z, args := #[], argTypes := #[] }, ty, pos, af, g⟩).run P w ≠ .ok (.defer dd) w' := by
  have e1 : a.eval z = .func (.func f') #[] cap' := ev_val (a := bare a) hs hz
  simp [execOp, resolve, invoke, e1, Deferred.ofValue, FI.hrun]
/-- A struct and a cell, out of blocks. -/
theorem jq_retRowC {fn : Func} {post : (S → List Ch → Prop) → Prop} {a a2 : Tmp} {b b2 : Nat} {bt bt2 : TypeId} {t2 : TypeId} [TI P t] [TI P t2] {row : List C} {c1 : C} {Hx Hx2 Hout : List Ch} (hres : fn.results = #[.cell a t, .cell a2 t2]) (ha : aggB (TI.u P t) = true) (ha2 : aggB (TI.u P t2) = false) (hz : (TI.i P t).size = row.length) (hl : env.lookup a = some (.cell (.val (.pointer (some ⟨b, 0, none⟩))))) (hl2 : env.lookup a2 = some (.cell (.val (.pointer (some ⟨b2, 0, none⟩)))))
    (j j2 : Nat) (hj : pick [j] H = some ([.blk b bt row], Hx)) (hj2 : pick [j2] H = some ([.blk b2 bt2 [c1]], Hx2)) (hpost : ∀ K, post K → K (.tup [.row row, .cell c1]) Hout) (hp : Sub H Hout) : JQ c (bodyPost P fn (RR c post)) .ret env H :=
  let ⟨_, _, hp⟩ := hp
  jq_retG (ss := [.row row, .cell c1]) (.inl rfl) (by rw [hres]; exact ⟨.row row, _, b, j, bt, row, Hx, rfl, hl, hj, res_row ha hz, .cell c1, _, b2, j2, bt2, [c1], Hx2, rfl, hl2, hj2, res_cell ha2, rfl⟩) hp hpost
end
end Go.Vc
end

section
namespace Go.Vc
open Go.RowKit

section
variable {P : Program} [Gl P] {nt : Nat} {c : Cx P nt} {env : Env} {H Hr : List Ch} {ops : Array Oper} {Q : Exit → Act → World → Prop} {Sw : World → Prop}
variable {m fuel : Nat} {listed : Array Bool} {i j di dj : Nat} {opi opj : Op} {ti tj : TypeId} {pi pj : String} {afi afj : Array Edge} {s0 : S}
theorem ow_weaken {env' : Env} {o : Oper} {K : S → List Ch → Prop} (h : OpWp c o env H K) (hl : ∀ t s, env.lookup t = some s → env'.lookup t = some s) : OpWp c o env' H K :=
  fun a w hs next Q hn => h a w ⟨hs.size, hs.defers, fun t s ht => hs.slots t s (hl t s ht), hs.heap⟩ next Q hn
theorem ow_mono {o : Oper} {K K' : S → List Ch → Prop} (h : OpWp c o env H K) (hK : ∀ s H', K s H' → K' s H') : OpWp c o env H K' :=
  fun a w hs next Q hn => h a w hs next Q (fun s H' v w' hk => hn s H' v w' (hK s H' hk))
/-- The one yields a value and turns nothing that is owned. -/
theorem hp_two (hi : ops[i]? = some ⟨some di, opi, ti, pi, afi, none⟩) (hj : ops[j]? = some ⟨some dj, opj, tj, pj, afj, none⟩) (hr : (Region.ready .any ops listed == [i, j] || Region.ready .any ops listed == [j, i]) = true)
    (hri : Region.ready .any ops (listed.setIfInBounds i true) = [j]) (hrj : Region.ready .any ops (listed.setIfInBounds j true) = [i]) (hdi : di < nt) (hdj : dj < nt) (hne : (di == dj) = false) (hno : env.lookup di = none) (hkeep : ∀ w, StW c H w → Sw w)
    (h0 : OpWp c ⟨some di, opi, ti, pi, afi, none⟩ env H (fun s H' => s = s0 ∧ H' = H)) (h1 : ∀ s H', OpWp c ⟨some di, opi, ti, pi, afi, none⟩ ((dj, s) :: env) H' (fun s H'' => s = s0 ∧ H'' = H'))
    (h : OpWp c ⟨some dj, opj, tj, pj, afj, none⟩ env H (fun s H' => (∀ w, StW c H' w → Sw w) ∧ HP c ops Q Sw m fuel ((listed.setIfInBounds i true).setIfInBounds j true) ((dj, s) :: (di, s0) :: env) H')) : HP c ops Q Sw m (fuel + 2) listed env H := by
  have hne' : di ≠ dj := by simpa using hne
  intro a w hst hS
  have hstep : ∀ k ∈ [i, j], wpOp P ops Q k (fun a' w' => (k < m → Sw w') ∧ anyX P .any ops Q Sw m (fuel + 1) (listed.setIfInBounds k true) a' w') a w := by
    intro k hk
    rcases List.mem_cons.1 hk with rfl | hk
    · unfold wpOp
      rw [hi]
      dsimp only
      rw [if_pos (show Region.wanted _ _ = true from rfl)]
      refine .inl (h0 a w hst _ _ ?_)
      rintro s H' v w' ⟨rfl, rfl⟩ hw' hv hk
      have hst' := hst.next hdi hw' hv hk
      refine ⟨fun _ => hkeep _ hw', ?_⟩
      refine hp_op (c := c) (env := (di, s) :: env) (H := H') hj hri hdj (ow_weaken h ?_) _ _ hst' (hkeep _ hw')
      intro t s' ht
      rw [List.lookup_cons]
      by_cases htd : t = di
      · subst htd; rw [hno] at ht; cases ht
      · rw [show (t == di) = false by simpa using htd]; exact ht
    · obtain rfl := List.mem_singleton.1 hk
      unfold wpOp
      rw [hj]
      dsimp only
      rw [if_pos (show Region.wanted _ _ = true from rfl)]
      refine .inl (h a w hst _ _ ?_)
      rintro s H' v w' ⟨hk1, hk2⟩ hw' hv hk
      have hst' := hst.next hdj hw' hv hk
      refine ⟨fun _ => hk1 _ hw', ?_⟩
      refine hp_op (c := c) (env := (dj, s) :: env) (H := H') hi hrj hdi (ow_mono (h1 s H') ?_) _ _ hst' (hk1 _ hw')
      rintro s1 H1 ⟨rfl, rfl⟩
      refine ⟨hk1, ?_⟩
      rw [Array.setIfInBounds_comm _ _ (by intro hij; subst hij; rw [hi] at hj; simp only [Option.some.injEq, Oper.mk.injEq] at hj; exact hne' hj.1)]
      intro a2 w2 hst2 hS2
      refine hk2 a2 w2 ⟨hst2.size, hst2.defers, ?_, hst2.heap⟩ hS2
      intro t s' ht
      refine hst2.slots t s' ?_
      rw [List.lookup_cons, List.lookup_cons] at ht ⊢
      by_cases ht1 : t = dj
      · subst ht1
        rw [show (t == t) = true by simp] at ht ⊢
        rw [show (t == di) = false by simpa using (Ne.symm hne')]
        exact ht
      · rw [show (t == dj) = false by simpa using ht1] at ht ⊢
        exact ht
  have hmem : ∀ k ∈ Region.ready .any ops listed, k ∈ [i, j] := by
    intro k hk
    rw [Bool.or_eq_true] at hr
    rcases hr with hr | hr
    · rw [eq_of_beq hr] at hk; exact hk
    · rw [eq_of_beq hr] at hk; simp only [List.mem_cons, List.not_mem_nil, or_false] at hk ⊢; exact hk.symm
  have hne0 : Region.ready .any ops listed ≠ [] := by
    intro h0
    rw [h0] at hr
    simp at hr
  exact ⟨fun h0 => absurd h0 hne0, fun k hk => hstep k (hmem k hk)⟩
/-- .. the other panics. -/
theorem hp_two_pan {v : Value} {oj : Oper} (hi : ops[i]? = some ⟨some di, opi, ti, pi, afi, none⟩) (hj : ops[j]? = some oj) (hgj : oj.guard = none) (hr : (Region.ready .any ops listed == [i, j] || Region.ready .any ops listed == [j, i]) = true)
    (hri : Region.ready .any ops (listed.setIfInBounds i true) = [j]) (hdi : di < nt) (hno : env.lookup di = none) (hkeep : ∀ w, StW c H w → Sw w)
    (h0 : OpWp c ⟨some di, opi, ti, pi, afi, none⟩ env H (fun s H' => s = s0 ∧ H' = H)) (h : OpPan c oj env H v) (hq : PanQ c Q v) : HP c ops Q Sw m (fuel + 2) listed env H := by
  obtain ⟨dst, opj, tj, pj, afj, gj⟩ := oj
  obtain rfl : gj = none := hgj
  intro a w hst hS
  have hstep : ∀ k ∈ [i, j], wpOp P ops Q k (fun a' w' => (k < m → Sw w') ∧ anyX P .any ops Q Sw m (fuel + 1) (listed.setIfInBounds k true) a' w') a w := by
    intro k hk
    rcases List.mem_cons.1 hk with rfl | hk
    · unfold wpOp
      rw [hi]
      dsimp only
      rw [if_pos (show Region.wanted _ _ = true from rfl)]
      refine .inl (h0 a w hst _ _ ?_)
      rintro s H' v' w' ⟨rfl, rfl⟩ hw' hv hk
      have hst' := hst.next hdi hw' hv hk
      refine ⟨fun _ => hkeep _ hw', ?_⟩
      refine hp_pan (c := c) (env := env) (H := H') hj hri h hq _ _ ?_ (hkeep _ hw')
      refine ⟨hst'.size, hst'.defers, fun t s' ht => hst'.slots t s' ?_, hst'.heap⟩
      rw [List.lookup_cons]
      by_cases htd : t = di
      · subst htd; rw [hno] at ht; cases ht
      · rw [show (t == di) = false by simpa using htd]; exact ht
    · obtain rfl := List.mem_singleton.1 hk
      unfold wpOp
      rw [hj]
      dsimp only
      rw [if_pos (show Region.wanted _ _ = true from rfl)]
      exact .inl (h a w hst _ _ hq)
  have hmem : ∀ k ∈ Region.ready .any ops listed, k ∈ [i, j] := by
    intro k hk
    rw [Bool.or_eq_true] at hr
    rcases hr with hr | hr
    · rw [eq_of_beq hr] at hk; exact hk
    · rw [eq_of_beq hr] at hk; simp only [List.mem_cons, List.not_mem_nil, or_false] at hk ⊢; exact hk.symm
  have hne0 : Region.ready .any ops listed ≠ [] := by
    intro h0
    rw [h0] at hr
    simp at hr
  exact ⟨fun h0 => absurd h0 hne0, fun k hk => hstep k (hmem k hk)⟩
/-- What is left when the first m are done: nothing need stand any more. -/
def allDone (m : Nat) (listed : Array Bool) : Bool := (List.range m).all fun i => listed.getD i true
omit [Gl P] in
theorem anyX_tail {S' : World → Prop} {m' : Nat} : ∀ (fuel : Nat) (listed : Array Bool) (a : Act) (w : World), allDone m listed = true → anyX P .any ops Q S' m' fuel listed a w → anyX P .any ops Q Sw m fuel listed a w
  | 0, _, _, _, _, h => h
  | fuel + 1, listed, a, w, hd, h => ⟨h.1, fun i hi => wpOp_mono (fun a' w' h' => ⟨fun hlt => (by
      have h1 := List.all_eq_true.1 hd i (List.mem_range.2 hlt)
      have h2 := (mem_ready.1 hi).1
      rw [Array.getD_eq_getD_getElem?] at h1 h2
      rw [h1] at h2
      cases h2), anyX_tail fuel _ a' w' (by
        refine List.all_eq_true.2 fun k hk => ?_
        have h1 := List.all_eq_true.1 hd k hk
        by_cases hki : k = i
        · subst hki
          by_cases hlt : k < listed.size
          · simp [Array.getD_eq_getD_getElem?, hlt]
          · simp [Array.getD_eq_getD_getElem?, hlt]
        · rw [getD_set_ne true (fun h => hki h.symm)]; exact h1) h'.2⟩) (h.2 i hi)⟩
theorem hp_rest {n : Nat} (hd : allDone m listed = true) (h : HP c ops Q (fun _ => True) n fuel listed env H) : HP c ops Q Sw m fuel listed env H := fun a w hst _ => anyX_tail fuel listed a w hd (h a w hst trivial)
theorem keepT : ∀ w, StW c H w → True := fun _ _ => trivial
/-- Two stores, of which either may come first. -/
theorem hp_both0 (hi : ops[i]? = some ⟨none, opi, ti, pi, afi, none⟩) (hj : ops[j]? = some ⟨none, opj, tj, pj, afj, none⟩) (hr : (Region.ready .any ops listed == [i, j] || Region.ready .any ops listed == [j, i]) = true)
    (h1 : OpWp c ⟨none, opi, ti, pi, afi, none⟩ env H (fun _ H' => (∀ w, StW c H' w → Sw w) ∧ HP c ops Q Sw m fuel (listed.setIfInBounds i true) env H'))
    (h2 : OpWp c ⟨none, opj, tj, pj, afj, none⟩ env H (fun _ H' => (∀ w, StW c H' w → Sw w) ∧ HP c ops Q Sw m fuel (listed.setIfInBounds j true) env H')) : HP c ops Q Sw m (fuel + 1) listed env H := by
  intro a w hst hS
  have hmem : ∀ k ∈ Region.ready .any ops listed, k ∈ [i, j] := by
    intro k hk
    rw [Bool.or_eq_true] at hr
    rcases hr with hr | hr
    · rw [eq_of_beq hr] at hk; exact hk
    · rw [eq_of_beq hr] at hk; simp only [List.mem_cons, List.not_mem_nil, or_false] at hk ⊢; exact hk.symm
  have hne0 : Region.ready .any ops listed ≠ [] := by
    intro h0
    rw [h0] at hr
    simp at hr
  refine ⟨fun h0 => absurd h0 hne0, fun k hk => ?_⟩
  rcases List.mem_cons.1 (hmem k hk) with rfl | hk
  · unfold wpOp
    rw [hi]
    dsimp only
    rw [if_pos (show Region.wanted _ _ = true from rfl)]
    refine .inl (h1 a w hst _ _ ?_)
    intro s H' v w' hK hw' hv hk
    exact ⟨fun _ => hK.1 _ hw', hK.2 _ _ (hst.next0 (v := v) hw' hk) (hK.1 _ hw')⟩
  · obtain rfl := List.mem_singleton.1 hk
    unfold wpOp
    rw [hj]
    dsimp only
    rw [if_pos (show Region.wanted _ _ = true from rfl)]
    refine .inl (h2 a w hst _ _ ?_)
    intro s H' v w' hK hw' hv hk
    exact ⟨fun _ => hK.1 _ hw', hK.2 _ _ (hst.next0 (v := v) hw' hk) (hK.1 _ hw')⟩
/-- What only looks at a slice's header. -/
theorem hok_lenown {d : Option Tmp} {t ty : TypeId} {pos : String} {af : Array Edge} {x : Operand} [SL P t] {v : Value} {e : TypeId} {k : Nat} {rows : List (List C)} (q : Nat) (hx : env.ev x = some (.cell (.val v))) (hp : pick [q] H = some ([.own v e k rows], Hr)) (hm : rows.length ≤ 9223372036854775807) :
    HOk c Sw env H ⟨d, .call { callee := .builtin .len, args := #[x], argTypes := #[t] }, ty, pos, af, none⟩ (In .i64 rows.length) :=
  fun a w hs _ => by
    obtain ⟨vs, ho, _⟩ := hs.heap.ok (.own v e k rows) ((pick_perm hp).mem_iff.2 (by simp))
    obtain ⟨ad, cap, hv⟩ := own_len ho
    have h0 : (0 : Int) ≤ rows.length := by omega
    refine ⟨.int .i64 rows.length, fun w' _ => ?_, rfl, rfl⟩
    simp [execOp, resolve, invoke, builtin, Builtin.len_, run_elem t, ev_val hs hx, hv, goInt]
theorem hok_indexOwn {d : Option Tmp} {t ty : TypeId} {pos : String} {af : Array Edge} {x y : Operand} [SL P t] {v : Value} {e : TypeId} {k : Nat} {rows : List (List C)} {q : Int} (p : Nat) (hx : env.ev x = some (.cell (.val v))) (hp : pick [p] H = some ([.own v e k rows], Hr)) (hy : env.ev y = some (In .i64 q)) (h0 : 0 ≤ q) (hlt : q.toNat < rows.length)
    (hz : (TI.i P (SL.e P t)).size = k) : HOk c Sw env H ⟨d, .indexAddr t x y, ty, pos, af, none⟩ (.cell (.inn v (q.toNat * k))) :=
  fun a w h _ => by
    obtain ⟨vs, ho, _, _⟩ := h.heap.ok (.own v e k rows) ((pick_perm hp).mem_iff.2 (by simp))
    rcases ho.2 with ⟨rfl, h0⟩ | ⟨b, cap, cur, rfl, _, _⟩
    · omega
    · refine ⟨.pointer (some ⟨b, q.toNat * k, none⟩), fun w' _ => ?_, b, rows.length, cap, rfl, rfl⟩
      have : 0 ≤ q ∧ q < ↑rows.length := ⟨h0, by omega⟩
      simp [execOp, ev_val h hx, ev_val h hy, Instr.indexAt, asIntOf, run_elem t, this, run_sizeOf, add_at, hz]
end
end Go.Vc
end

section
namespace Go.Vc
open Go.RowKit

def Fa (w : World) (A : Nat → Prop) (F : List (S × Value)) : Prop := ∀ p ∈ F, SOk w A p.1 p.2
def FaS (F : List (S × Value)) (w : World) : Prop := ∃ A, Fa w A F
section
variable {P : Program} [Gl P] {nt : Nat} {c : Cx P nt} {env : Env} {H Hr : List Ch} {F : List (S × Value)} {ops : Array Oper} {Q : Exit → Act → World → Prop}
variable {fuel : Nat} {listed : Array Bool} {i j d : Nat} {ty t : TypeId} {pos : String} {af : Array Edge} {x y : Operand}
def HQ (c : Cx P nt) (F : List (S × Value)) (ops : Array Oper) (Q : Exit → Act → World → Prop) (fuel : Nat) (listed : Array Bool) (env : Env) (H : List Ch) : Prop :=
  ∀ a w, St c env H a w → Fa w (c.av H) F → anyX P .any ops Q (FaS F) 64 fuel listed a w
@[reducible] def putE (d : Option Nat) (s : S) (env : Env) : Env := match d with
  | some d => (d, s) :: env
  | none => env
def okD (d : Option Nat) (nt : Nat) : Bool := match d with
  | some d => decide (d < nt)
  | none => true
end
end Go.Vc
end

section
namespace Go.Vc
open Go.RowKit
theorem r_.{u} {α : Sort u} {a : α} : a = a := rfl
theorem g_ {p : Prop} (h : p := by omega) : p := h
theorem h_ {p : Prop} (h : p := by assumption) : p := h
theorem k_ {p : Prop} (h : p := by kernel_rfl) : p := h
theorem t_ {p : Prop} [Decidable p] (h : p := by omega) : decide p = true := decide_eq_true h
theorem u_ {p : Prop} [Decidable p] (h : p := by assumption) : decide p = true := decide_eq_true h
theorem v_ {p : Prop} [Decidable p] (h : ¬ p := by omega) : decide p = false := decide_eq_false h
theorem w_ {p : Prop} [Decidable p] (h : ¬ p := by assumption) : decide p = false := decide_eq_false h
theorem x_ {α : Type} [DecidableEq α] {a : α} : decide (a = a) = true := decide_eq_true rfl
theorem p_ {s : S} {H : List Ch} : s = s ∧ H.Perm H := ⟨rfl, List.Perm.refl _⟩
theorem b_ {n m : Nat} (h : Nat.ble n m = true := by rfl) : n ≤ m := nb h
section
variable {P : Program} [Gl P] {nt : Nat} {c : Cx P nt} {env : Env} {H Hr : List Ch} {ops : Array Oper} {Q : Exit → Act → World → Prop} {l : List Oper} {d : Nat} {op : Op} {ty t : TypeId} {pos : String} {af : Array Edge} {x y : Operand}
theorem o_ (hd : Nat.ble (d + 1) nt = true) (h : OpWp c ⟨some d, op, ty, pos, af, none⟩ env H (fun s H' => JL c ops Q l ((d, s) :: env) H')) : JL c ops Q (⟨some d, op, ty, pos, af, none⟩ :: l) env H := jl_op h (nb hd)
theorem M_ {s : S} (h : (env.ev x, Nat.ble (d + 1) nt) = (some s, true)) (k : JL c ops Q l ((d, s) :: env) H) : JL c ops Q (⟨some d, .move x, ty, pos, af, none⟩ :: l) env H := jl_op (ow_move (Prod.mk.inj h).1 k) (nb (Prod.mk.inj h).2)
theorem E_ {s : S} (h : (env.ev x, Nat.ble (d + 1) nt) = (some s, true)) (k : JL c ops Q l ((d, s) :: env) H) : JL c ops Q (⟨some d, .assign x, ty, pos, af, none⟩ :: l) env H := jl_op (ow_assign (Prod.mk.inj h).1 k) (nb (Prod.mk.inj h).2)
theorem N_ {b o : Nat} {sp : Option Nat} (h : (env.ev x, Nat.ble (d + 1) nt) = (some (.cell (.val (.pointer (some ⟨b, o, sp⟩)))), true)) (k : JL c ops Q l ((d, .cell (.val (.pointer (some ⟨b, o, sp⟩)))) :: env) H) : JL c ops Q (⟨some d, .nilCheck x, ty, pos, af, none⟩ :: l) env H := jl_op (ow_nilCheck (Prod.mk.inj h).1 k) (nb (Prod.mk.inj h).2)
theorem F_ {b o f off size : Nat} [TI P t] [TS P t] (h : (structB (TI.u P t), env.ev x, (TS.pl P t)[f]?, Nat.ble 1 size, Nat.ble (d + 1) nt) = (true, some (.cell (.val (.pointer (some ⟨b, o, none⟩)))), some (off, size), true, true))
    (k : JL c ops Q l ((d, .cell (.val (.pointer (some ⟨b, o + off, none⟩)))) :: env) H) : JL c ops Q (⟨some d, .fieldAddr t x f, ty, pos, af, none⟩ :: l) env H := by
  simp only [Prod.mk.injEq] at h
  obtain ⟨h1, h2, h3, h4, h5⟩ := h
  exact jl_op (ow_fieldAddr h1 h2 h3 (nb h4) k) (nb h5)
theorem L_ {b o : Nat} {row : List C} {e : C} {bt : TypeId} [TI P t] (j : Nat) (h : (aggB (TI.u P t), env.ev x, pick [j] H, row[o]?, Nat.ble (d + 1) nt) = (false, some (.cell (.val (.pointer (some ⟨b, o, none⟩)))), some ([.blk b bt row], Hr), some e, true))
    (k : JL c ops Q l ((d, .cell e) :: env) H) : JL c ops Q (⟨some d, .load t x, ty, pos, af, none⟩ :: l) env H := by
  simp only [Prod.mk.injEq] at h
  obtain ⟨h1, h2, h3, h4, h5⟩ := h
  exact jl_op (ow_load j h1 h2 h3 h4 k) (nb h5)
theorem A_ {b : Nat} {row : List C} {bt : TypeId} [TI P t] (j : Nat) (h : (aggB (TI.u P t), env.ev x, pick [j] H, (TI.i P t).size, Nat.ble (d + 1) nt) = (true, some (.cell (.val (.pointer (some ⟨b, 0, none⟩)))), some ([.blk b bt row], Hr), row.length, true))
    (k : JL c ops Q l ((d, .row row) :: env) H) : JL c ops Q (⟨some d, .load t x, ty, pos, af, none⟩ :: l) env H := by
  simp only [Prod.mk.injEq] at h
  obtain ⟨h1, h2, h3, h4, h5⟩ := h
  exact jl_op (ow_loadAll j h1 h2 h3 h4 k) (nb h5)
theorem S_ {b : Nat} {row r : List C} {s : S} {bt : TypeId} [TI P t] (j : Nat) (h : (env.ev x, env.ev y, s.cells, pick [j] H, (TI.i P t).size, row.length) = (some (.cell (.val (.pointer (some ⟨b, 0, none⟩)))), some s, some r, some ([.blk b bt row], Hr), r.length, r.length))
    (k : JL c ops Q l env (.blk b bt r :: Hr)) : JL c ops Q (⟨none, .store t x y, ty, pos, af, none⟩ :: l) env H := by
  simp only [Prod.mk.injEq] at h
  obtain ⟨h1, h2, h3, h4, h5, h6⟩ := h
  exact jl_op0 (ow_storeAll j h1 h2 h3 h4 h5 h6 k)
theorem W_ {b o : Nat} {row : List C} {c1 : C} {bt : TypeId} [TI P t] (j : Nat) (h : (env.ev x, env.ev y, pick [j] H, (TI.i P t).size, Nat.ble (o + 1) row.length) = (some (.cell (.val (.pointer (some ⟨b, o, none⟩)))), some (.cell c1), some ([.blk b bt row], Hr), 1, true))
    (k : JL c ops Q l env (.blk b bt (row.set o c1) :: Hr)) : JL c ops Q (⟨none, .store t x y, ty, pos, af, none⟩ :: l) env H := by
  simp only [Prod.mk.injEq] at h
  obtain ⟨h1, h2, h3, h4, h5⟩ := h
  exact jl_op0 (ow_store1 j h1 h2 h3 h4 (nb h5) k)
theorem X_ {ss : List S} {i : Nat} {s : S} (h : (env.ev x, ss[i]?, Nat.ble (d + 1) nt) = (some (.tup ss), some s, true)) (k : JL c ops Q l ((d, s) :: env) H) : JL c ops Q (⟨some d, .extract x i, ty, pos, af, none⟩ :: l) env H := by
  simp only [Prod.mk.injEq] at h
  obtain ⟨h1, h2, h3⟩ := h
  exact jl_op (ow_extract h1 h2 k) (nb h3)
theorem R_ {id : Nat} {ls : List Oper} {z : Code} (h : JL c ls.toArray (Exit.then (fun a w => z.wp P Q a w) Q) ls env H) : JC c (.seq (.region id ls.toArray false) z) Q env H := jc_seq (jc_region h)
theorem T_ {z : Code} (h : JC c z Q env H) : JL c ops (Exit.then (fun a w => z.wp P Q a w) Q) [] env H := jl_nil (jq_then h)
theorem B_ {id : Nat} {z u : Code} (h : JC c u (Exit.inBlock id (Exit.then (fun a w => z.wp P Q a w) Q)) env H) : JC c (.seq (.block id u) z) Q env H := jc_seq (jc_block h)
end
section
variable {P : Program} [Gl P] {nt : Nat} {ops : Array Oper} {H : List Ch} {K : Env → Prop} {env : Env} {l : List Oper} {d : Nat} {ty t : TypeId} {pos : String} {af : Array Edge} {x y : Operand} {Hr : List Ch}
theorem yM_ {s : S} (h : (env.only (Oper.looksAt ops ⟨some d, .move x, ty, pos, af, none⟩)).ev x = some s) (k : AnyOk P nt ops H K l ((d, s) :: env)) : AnyOk P nt ops H K (⟨some d, .move x, ty, pos, af, none⟩ :: l) env := any_op (fun _ => ow_move h p_) k
theorem yE_ {s : S} (h : (env.only (Oper.looksAt ops ⟨some d, .assign x, ty, pos, af, none⟩)).ev x = some s) (k : AnyOk P nt ops H K l ((d, s) :: env)) : AnyOk P nt ops H K (⟨some d, .assign x, ty, pos, af, none⟩ :: l) env := any_op (fun _ => ow_assign h p_) k
theorem yN_ {b o : Nat} {sp : Option Nat} (h : (env.only (Oper.looksAt ops ⟨some d, .nilCheck x, ty, pos, af, none⟩)).ev x = some (.cell (.val (.pointer (some ⟨b, o, sp⟩))))) (k : AnyOk P nt ops H K l ((d, .cell (.val (.pointer (some ⟨b, o, sp⟩)))) :: env)) : AnyOk P nt ops H K (⟨some d, .nilCheck x, ty, pos, af, none⟩ :: l) env := any_op (fun _ => ow_nilCheck h p_) k
theorem yF_ {b o f off size : Nat} [TI P t] [TS P t] (h : (structB (TI.u P t), (env.only (Oper.looksAt ops ⟨some d, .fieldAddr t x f, ty, pos, af, none⟩)).ev x, (TS.pl P t)[f]?, Nat.ble 1 size) = (true, some (.cell (.val (.pointer (some ⟨b, o, none⟩)))), some (off, size), true))
    (k : AnyOk P nt ops H K l ((d, .cell (.val (.pointer (some ⟨b, o + off, none⟩)))) :: env)) : AnyOk P nt ops H K (⟨some d, .fieldAddr t x f, ty, pos, af, none⟩ :: l) env := by
  simp only [Prod.mk.injEq] at h
  obtain ⟨h1, h2, h3, h4⟩ := h
  exact any_op (fun _ => ow_fieldAddr h1 h2 h3 (nb h4) p_) k
theorem yL_ {b o : Nat} {row : List C} {e : C} {bt : TypeId} [TI P t] (j : Nat) (h : (aggB (TI.u P t), (env.only (Oper.looksAt ops ⟨some d, .load t x, ty, pos, af, none⟩)).ev x, pick [j] H, row[o]?) = (false, some (.cell (.val (.pointer (some ⟨b, o, none⟩)))), some ([.blk b bt row], Hr), some e))
    (k : AnyOk P nt ops H K l ((d, .cell e) :: env)) : AnyOk P nt ops H K (⟨some d, .load t x, ty, pos, af, none⟩ :: l) env := by
  simp only [Prod.mk.injEq] at h
  obtain ⟨h1, h2, h3, h4⟩ := h
  exact any_op (fun _ => ow_load j h1 h2 h3 h4 p_) k
end
abbrev aa_ := @any_op
abbrev ab_ := @any_guardY
abbrev ac_ := @any_guardN
abbrev ae_ := @any_nil
abbrev af_ := @any_alloc
abbrev ag_ := @jl_op0
abbrev ah_ := @jl_guardY
abbrev ai_ := @jl_guardN
abbrev aj_ := @jl_guardU
abbrev ak_ := @jl_nil
abbrev al_ := @jq_then
abbrev am_ := @jc_seq
abbrev an_ := @jc_region
abbrev ao_ := @jc_any
abbrev ap_ := @jc_condF
abbrev aq_ := @jc_condT
abbrev ar_ := @jc_ret
abbrev as_ := @jc_skip
abbrev au_ := @jc_block
abbrev av_ := @jc_exit
abbrev aw_ := @jq_then_ret
abbrev ax_ := @jq_then_exit
abbrev ay_ := @jq_block
abbrev az_ := @jq_block_ret
abbrev ba_ := @jq_block_exit
abbrev bb_ := @jq_block_other
abbrev bc_ := @sub_step
abbrev bd_ := @ow_move
abbrev be_ := @ow_assign
abbrev bf_ := @ow_fieldAddr
abbrev bg_ := @ow_load
abbrev bh_ := @ow_nilCheck
abbrev bi_ := @ow_call1
abbrev bj_ := @ow_add64
abbrev bk_ := @ow_storeAll
abbrev bl_ := @ow_alloc
abbrev bm_ := @ow_call0
abbrev bn_ := @ow_eql
abbrev bp_ := @ow_pickT
abbrev bq_ := @ow_buildSlice
abbrev br_ := @ow_len
abbrev bs_ := @ow_loadAll
abbrev bt_ := @ow_callP
abbrev bu_ := @ow_build
abbrev bv_ := @ow_pickF
abbrev bw_ := @ow_lss
abbrev bx_ := @ow_neq
abbrev bz_ := @ow_gtr
abbrev ca_ := @ow_store1
abbrev cb_ := @ow_loadPlace
abbrev cc_ := @ow_indexAddrMapE
abbrev cd_ := @ow_not
abbrev ce_ := @ow_notdec
abbrev cf_ := @ow_fieldAddrPlace
abbrev cg_ := @ow_sub64
abbrev ch_ := @ow_rem
abbrev ci_ := @ow_box
abbrev cj_ := @ow_box1
abbrev ck_ := @ow_max2
abbrev cl_ := @ow_min2
abbrev cm_ := @ow_storeN
abbrev cn_ := @ow_geq
abbrev co_ := @ow_lenstr
abbrev cp_ := @ow_loadN
abbrev cq_ := @ow_insertSet
abbrev cr_ := @ow_loadPlaceN
abbrev cs_ := @ow_streql
abbrev cu_ := @ow_leq
abbrev cv_ := @ow_indexAddrMapI
abbrev cw_ := @ow_lenown
abbrev cx_ := @ow_callv
abbrev cy_ := @ow_neg64
abbrev cz_ := @ow_mul64
abbrev db_ := @ow_loadInn1
abbrev dc_ := @ow_indexOwn
abbrev dd_ := @ow_loadG
abbrev de_ := @ow_indexArr
abbrev df_ := @hp_take
abbrev dg_ := @hp_op
abbrev dh_ := @hp_op0
abbrev di_ := @ht_op
abbrev dj_ := @ht_op0
abbrev dk_ := @hok_move
abbrev dl_ := @hok_fieldAddr
abbrev dm_ := @hok_load
abbrev dn_ := @hok_loadAll
abbrev do_ := @hok_add
abbrev dq_ := @hok_extract
abbrev dr_ := @hok_nilCheck
end Go.Vc
end

section
namespace Go.Proofs.YtlniadfidfmckaaDoor
open Go.Vc
attribute [local irreducible] JL JC JQ OpWp Con ConN

def isL (n : Int) : Bool := decide (97 ≤ n) && decide (n ≤ 122)
def isD (n : Int) : Bool := decide (48 ≤ n) && decide (n ≤ 57)
def isLD (n : Int) : Bool := isL n || isD n

theorem letter_c (n : Int) : Con Tryd.prog 76 [In .u8 n] [] (fun K => K (Bl (isL n)) []) := by
  by_cases h : (97 : Int) ≤ n
  · refine con_intro Tryd.func76 rfl rfl (Nat.le_of_ble_eq_true rfl) (fun c hc => R_ (E_ r_ (T_ (R_ (M_ r_ (o_ r_ (cn_ r_ r_ (M_ r_ (ah_ r_ u_ b_ (bd_ r_ (ah_ r_ u_ b_ (cu_ r_ r_ (o_ r_ (bp_ r_ u_ r_ (E_ r_ (T_ (ar_ (jq_ret1 rfl rfl [] rfl (fun K h' => by rw [show isL n = decide (n ≤ 122) by simp [isL, h]] at h'; exact h')))))))))))))))))))
  · refine con_intro Tryd.func76 rfl rfl (Nat.le_of_ble_eq_true rfl) (fun c hc => R_ (E_ r_ (T_ (R_ (M_ r_ (o_ r_ (cn_ r_ r_ (M_ r_ (ai_ r_ w_ b_ (ai_ r_ w_ b_ (o_ r_ (bv_ r_ w_ r_ (E_ r_ (T_ (ar_ (jq_ret1 rfl rfl [] rfl (fun K h' => by rw [show isL n = false by simp [isL, h]] at h'; exact h')))))))))))))))))
theorem digit_c (n : Int) : Con Tryd.prog 55 [In .u8 n] [] (fun K => K (Bl (isD n)) []) := by
  by_cases h : (48 : Int) ≤ n
  · refine con_intro Tryd.func55 rfl rfl (Nat.le_of_ble_eq_true rfl) (fun c hc => R_ (E_ r_ (T_ (R_ (M_ r_ (o_ r_ (cn_ r_ r_ (M_ r_ (ah_ r_ u_ b_ (bd_ r_ (ah_ r_ u_ b_ (cu_ r_ r_ (o_ r_ (bp_ r_ u_ r_ (E_ r_ (T_ (ar_ (jq_ret1 rfl rfl [] rfl (fun K h' => by rw [show isD n = decide (n ≤ 57) by simp [isD, h]] at h'; exact h')))))))))))))))))))
  · refine con_intro Tryd.func55 rfl rfl (Nat.le_of_ble_eq_true rfl) (fun c hc => R_ (E_ r_ (T_ (R_ (M_ r_ (o_ r_ (cn_ r_ r_ (M_ r_ (ai_ r_ w_ b_ (ai_ r_ w_ b_ (o_ r_ (bv_ r_ w_ r_ (E_ r_ (T_ (ar_ (jq_ret1 rfl rfl [] rfl (fun K h' => by rw [show isD n = false by simp [isD, h]] at h'; exact h')))))))))))))))))
theorem both_c (n : Int) : Con Tryd.prog 77 [In .u8 n] [] (fun K => K (Bl (isLD n)) []) := by
  cases h : isL n with
  | true =>
    refine con_intro Tryd.func77 rfl rfl (Nat.le_of_ble_eq_true rfl) (fun c hc => R_ (E_ r_ (T_ (R_ (M_ r_ (o_ r_ (bm_ r_ (letter_c _) (M_ r_ (ai_ r_ h_ b_ (ai_ r_ h_ b_ (o_ r_ (bp_ r_ h_ r_ (E_ r_ (T_ (ar_ (jq_ret1 rfl rfl [] rfl (fun K h' => by rw [show isLD n = true by simp [isLD, h]] at h'; exact h')))))))))))))))))
  | false =>
    refine con_intro Tryd.func77 rfl rfl (Nat.le_of_ble_eq_true rfl) (fun c hc => R_ (E_ r_ (T_ (R_ (M_ r_ (o_ r_ (bm_ r_ (letter_c _) (M_ r_ (ah_ r_ h_ b_ (bd_ r_ (ah_ r_ h_ b_ (bm_ r_ (digit_c _) (o_ r_ (bv_ r_ h_ r_ (E_ r_ (T_ (ar_ (jq_ret1 rfl rfl [] rfl (fun K h' => by rw [show isLD n = isD n by simp [isLD, h]] at h'; exact h')))))))))))))))))))

theorem run_c (p : Int → Bool) (f : FuncId) [FI Tryd.prog f] (hp : ∀ n, Con Tryd.prog f [In .u8 n] [] (fun K => K (Bl (p n)) [])) (s : ByteArray) (hs : s.size ≤ 1000000) :
    Con Tryd.prog 54 [Str s, .cell (.val (.func (.func f) #[] #[]))] [] (fun K => K (In .i64 (runLen p s : Int)) []) := by
  refine con_intro Tryd.func54 rfl rfl (Nat.le_of_ble_eq_true rfl) (fun c hc => R_ (E_ r_ (T_ (R_ (E_ r_ (T_ (B_ (jc_loopS [] (fun k : Nat => k ≤ s.size ∧ ∀ j, j < k → p (byteAt s j) = true) (fun k => [(0, Str s), (1, .cell (.val (.func (.func f) #[] #[]))), (5, In .i64 (k : Int))]) (fun _ => []) (fun k => s.size - k) 0 ⟨Nat.zero_le _, fun j h => by omega⟩ ?_ ?_ ?_))))))))
  · exact sub_end
  · (repeat (first | exact True.intro | refine ⟨rfl, ?_⟩))
  · rintro k ⟨hk, hall⟩
    by_cases hlt : (k : Int) < (s.size : Int)
    · refine am_ (R_ (M_ r_ (M_ r_ (o_ r_ (co_ r_ r_ (o_ r_ (bw_ r_ r_ (M_ r_ (ah_ r_ u_ b_ (bd_ r_ (ah_ r_ u_ b_ (bd_ r_ (ah_ r_ u_ b_ (bd_ r_ (ah_ r_ u_ b_ (ow_indexStr r_ r_ r_ g_ g_ (ah_ r_ u_ b_ (ow_callv0 r_ r_ (hp _) (o_ r_ (bp_ r_ u_ r_ (T_ (jc_cond rfl (fun hb => ?_) (fun hb => ?_)))))))))))))))))))))))
      · refine as_ (al_ (au_ (an_ (M_ r_ (o_ r_ (bj_ r_ r_ g_ (E_ r_ (ak_ (ay_ (jq_againS (k + 1) ⟨by omega, fun j hj => ?_⟩ g_ ?_ ?_))))))))))
        · by_cases hjk : j < k
          · exact hall j hjk
          · obtain rfl : j = k := by omega
            exact hb
        · exact sub_end
        · (repeat (first | exact True.intro | refine ⟨rfl, ?_⟩))
      · refine av_ (ax_ (ax_ (ba_ (al_ (R_ (M_ r_ (E_ r_ (T_ (ar_ ?_)))))))))
        have e : runLen p s = k := runLen_eq hall hk (fun _ => hb)
        refine jq_ret1 rfl rfl [] rfl (fun K h => by rw [e] at h; exact h)
    · refine am_ (R_ (M_ r_ (M_ r_ (o_ r_ (co_ r_ r_ (o_ r_ (bw_ r_ r_ (M_ r_ (ai_ r_ w_ b_ (ai_ r_ w_ b_ (ai_ r_ w_ b_ (ai_ r_ w_ b_ (ai_ r_ w_ b_ (o_ r_ (bv_ r_ w_ r_ (T_ (jc_cond rfl (fun h => by cases h) (fun _ => av_ ?_))))))))))))))))))
      refine ax_ (ax_ (ba_ (al_ (R_ (M_ r_ (E_ r_ (T_ (ar_ ?_))))))))
      have e : runLen p s = k := runLen_eq hall hk (fun h => by omega)
      refine jq_ret1 rfl rfl [] rfl (fun K h => by rw [e] at h; exact h)

/-- How many bytes a name has at the beginning. -/
def nameLen (s : ByteArray) : Nat := if 0 < s.size ∧ isL (byteAt s 0) = true then runLen isLD s else 0
theorem name_c (s : ByteArray) (hs : s.size ≤ 1000000) : Con Tryd.prog 53 [Str s] [] (fun K => K (In .i64 (nameLen s : Int)) []) := by
  refine con_intro Tryd.func53 rfl rfl (Nat.le_of_ble_eq_true rfl) (fun c hc => R_ (E_ r_ (T_ (am_ (am_ (jc_cut (ι := Bool) [] (fun b => b = !(decide (0 < s.size) && isL (byteAt s 0))) (fun b => [(0, Str s), (10, Bl b)]) (fun _ => []) ?_ ?_))))))
  · by_cases h0 : s = ⟨#[]⟩
    · refine an_ (M_ r_ (o_ r_ (cs_ r_ r_ (M_ r_ (ai_ r_ u_ b_ (ai_ r_ u_ b_ (ai_ r_ u_ b_ (ai_ r_ u_ b_ (o_ r_ (bp_ r_ u_ r_ (ak_ (jq_cutS true ?_ ?_ ?_))))))))))))
      · rw [h0]; rfl
      · exact sub_end
      · (repeat (first | exact True.intro | refine ⟨rfl, ?_⟩))
    · have hpos : 0 < s.size := by
        rcases Nat.eq_zero_or_pos s.size with h | h
        · exact absurd (by cases s; rename_i d; have : d = #[] := Array.eq_empty_of_size_eq_zero h; rw [this]) h0
        · exact h
      refine an_ (M_ r_ (o_ r_ (cs_ r_ r_ (M_ r_ (ah_ r_ w_ b_ (bd_ r_ (ah_ r_ w_ b_ (ow_indexStr r_ r_ r_ g_ g_ (ah_ r_ w_ b_ (bm_ r_ (letter_c _) (ah_ r_ w_ b_ (cd_ r_ (o_ r_ (bv_ r_ w_ r_ (ak_ (jq_cutS (!isL (byteAt s 0)) (by simp [hpos]) ?_ ?_))))))))))))))))
      · exact sub_end
      · (repeat (first | exact True.intro | refine ⟨rfl, ?_⟩))
  · intro b hb
    refine jc_cond rfl (fun h => ?_) (fun h => ?_)
    · refine R_ (E_ r_ (T_ (ar_ (aw_ ?_))))
      have e : nameLen s = 0 := by
        unfold nameLen
        rw [if_neg]
        rintro ⟨h1, h2⟩
        rw [hb] at h
        simp [h1, h2] at h
      refine jq_ret1 rfl rfl [] rfl (fun K h => by rw [e] at h; exact h)
    · refine as_ (al_ (R_ (M_ r_ (o_ r_ (bm_ r_ (run_c isLD _ both_c s hs) (E_ r_ (T_ (ar_ ?_))))))))
      have e : nameLen s = runLen isLD s := by
        unfold nameLen
        rw [if_pos]
        rw [hb] at h
        simpa using h
      refine jq_ret1 rfl rfl [] rfl (fun K h => by rw [e] at h; exact h)

/-- The number that digits say; 2^31 if it is that or more. -/
def numVal (l : List Int) : Int := l.foldl (fun n c => min (10 * n + (c - 48)) 2147483648) 0
theorem numVal_snoc (l : List Int) (c : Int) : numVal (l ++ [c]) = min (10 * numVal l + (c - 48)) 2147483648 := by simp [numVal]
theorem numVal_bdF : ∀ (l : List Int) (n : Int), (∀ c ∈ l, isD c = true) → 0 ≤ n ∧ n ≤ 2147483648 →
    0 ≤ l.foldl (fun n c => min (10 * n + (c - 48)) 2147483648) n ∧ l.foldl (fun n c => min (10 * n + (c - 48)) 2147483648) n ≤ 2147483648 := by
  intro l
  induction l with
  | nil => intro n _ h; exact h
  | cons c l ih =>
    intro n hd hn
    have h2 : isD c = true := hd c (by simp)
    simp only [isD, Bool.and_eq_true, decide_eq_true_eq] at h2
    rw [List.foldl_cons]
    exact ih _ (fun x hx => hd x (by simp [hx])) g_
theorem numVal_bd (l : List Int) (h : ∀ c ∈ l, isD c = true) : 0 ≤ numVal l ∧ numVal l ≤ 2147483648 :=
  numVal_bdF l 0 h (by omega)
theorem number_c (s : ByteArray) (hs : s.size ≤ 1000000) (hd : ∀ c ∈ bytesI s, isD c = true) : Con Tryd.prog 56 [Str s] [] (fun K => K (In .i64 (numVal (bytesI s))) []) := by
  refine con_intro Tryd.func56 rfl rfl (Nat.le_of_ble_eq_true rfl) (fun c hc => R_ (E_ r_ (T_ (R_ (E_ r_ (T_ (am_ (R_ (M_ r_ (o_ r_ (ow_strBytes r_ r_ g_ r_ (o_ r_ (br_ r_ (fun hlen => M_ r_ (T_ (au_ ?_))))))))))))))))
  have eL : ((bytesI s).map Brow).length = (bytesI s).length := List.length_map _
  refine jc_loopS [] (fun k : Nat => k ≤ (bytesI s).length) (fun k => [(7, .cell (.list ((bytesI s).map Brow))), (8, In .i64 (((bytesI s).map Brow).length : Int)), (3, In .i64 (numVal ((bytesI s).take k))), (9, In .i64 (k : Int))]) (fun _ => []) (fun k => (bytesI s).length - k) 0 (Nat.zero_le _) ?_ ?_ ?_
  · exact sub_end
  · (repeat (first | exact True.intro | refine ⟨rfl, ?_⟩))
  · intro k hk
    refine R_ (o_ r_ (bw_ r_ r_ (T_ (am_ (jc_condd rfl (fun hlt => ?_) (fun hge => ?_))))))
    · have hlt' : k < (bytesI s).length := by omega
      have h1 := hd (bytesI s)[k] (List.getElem_mem hlt')
      simp only [isD, Bool.and_eq_true, decide_eq_true_eq] at h1
      have h2 := numVal_bd ((bytesI s).take k) (fun c hc => hd c (List.mem_of_mem_take hc))
      have e : numVal ((bytesI s).take (k + 1)) = min (10 * numVal ((bytesI s).take k) + ((bytesI s)[k] - 48)) 2147483648 := by rw [List.take_succ_eq_append_getElem hlt', numVal_snoc]
      refine as_ (al_ (B_ (R_ (o_ r_ (cc_ r_ r_ g_ r_ r_ b_ (o_ r_ (cb_ r_ r_ (E_ r_ (T_ (an_ (M_ r_ (o_ r_ (cz_ r_ r_ g_ (M_ r_ (o_ r_ (ow_subU8 r_ r_ g_ (o_ r_ (ow_convI64 r_ r_ r_ g_ (o_ r_ (bj_ r_ r_ g_ (o_ r_ (cl_ r_ r_ ?_))))))))))))))))))))))
      refine E_ r_ (ak_ (ay_ (al_ (an_ (o_ r_ (bj_ r_ r_ g_ (M_ r_ (ak_ (jq_againS (k + 1) g_ g_ ?_ ?_)))))))))
      · exact sub_end
      · rw [e]
        (repeat (first | exact True.intro | refine ⟨rfl, ?_⟩))
    · refine av_ (ax_ (ax_ (ba_ (al_ (R_ (M_ r_ (E_ r_ (T_ (ar_ (jq_ret1 rfl rfl [] rfl (fun K h => by rw [← List.take_of_length_le (show (bytesI s).length ≤ k by omega)] at h; exact h)))))))))))

/-- All signs. -/
def SG : List ByteArray := [⟨#[43]⟩, ⟨#[45]⟩, ⟨#[42]⟩, ⟨#[47]⟩, ⟨#[37]⟩, ⟨#[38]⟩, ⟨#[124]⟩, ⟨#[94]⟩, ⟨#[60, 60]⟩, ⟨#[62, 62]⟩, ⟨#[60]⟩, ⟨#[60, 61]⟩, ⟨#[61, 61]⟩, ⟨#[33, 61]⟩, ⟨#[61]⟩, ⟨#[40]⟩, ⟨#[41]⟩, ⟨#[91]⟩, ⟨#[93]⟩, ⟨#[123]⟩, ⟨#[125]⟩]
theorem signs_c : Con Tryd.prog 32 [] [] (fun K => K (.cell (.map (setE SG))) []) := by
  refine con_intro Tryd.func32 rfl rfl (Nat.le_of_ble_eq_true rfl) (fun c hc => R_ (E_ r_ (T_ (R_ (o_ r_ (ow_makeMap (fun bm hbm => ag_ (cq_ 0 rfl rfl rfl rfl (by decide) (ag_ (cq_ 0 rfl rfl rfl rfl (by decide) (ag_ (cq_ 0 rfl rfl rfl rfl (by decide) (ag_ (cq_ 0 rfl rfl rfl rfl (by decide) (ag_ (cq_ 0 rfl rfl rfl rfl (by decide) (ag_ (cq_ 0 rfl rfl rfl rfl (by decide) ?_))))))))))))))))))
  refine ag_ (cq_ 0 rfl rfl rfl rfl (by decide) (ag_ (cq_ 0 rfl rfl rfl rfl (by decide) (ag_ (cq_ 0 rfl rfl rfl rfl (by decide) (ag_ (cq_ 0 rfl rfl rfl rfl (by decide) (ag_ (cq_ 0 rfl rfl rfl rfl (by decide) (ag_ (cq_ 0 rfl rfl rfl rfl (by decide) (ag_ (cq_ 0 rfl rfl rfl rfl (by decide) (ag_ (cq_ 0 rfl rfl rfl rfl (by decide) (ag_ (cq_ 0 rfl rfl rfl rfl (by decide) (ag_ (cq_ 0 rfl rfl rfl rfl (by decide) ?_)))))))))))))))))))
  refine ag_ (cq_ 0 rfl rfl rfl rfl (by decide) (ag_ (cq_ 0 rfl rfl rfl rfl (by decide) (ag_ (cq_ 0 rfl rfl rfl rfl (by decide) (ag_ (cq_ 0 rfl rfl rfl rfl (by decide) (ag_ (cq_ 0 rfl rfl rfl rfl (by decide) (M_ r_ (E_ r_ (T_ (ar_ (jq_freezeM 0 0 rfl rfl hbm (jq_ret1 rfl rfl [] rfl (fun K h => h))))))))))))))))

/-- How many bytes a sign has at the beginning. -/
def signLen (s : ByteArray) : Nat := if 2 ≤ s.size ∧ hasS SG (s.extract 0 2) = true then 2 else if 1 ≤ s.size ∧ hasS SG (s.extract 0 1) = true then 1 else 0
theorem sign_c (s : ByteArray) (hs : s.size ≤ 1000000) : Con Tryd.prog 57 [Str s, .cell (.map (setE SG))] [] (fun K => K (In .i64 (signLen s : Int)) []) := by
  refine con_intro Tryd.func57 rfl rfl (Nat.le_of_ble_eq_true rfl) (fun c hc => R_ (E_ r_ (T_ (am_ (R_ (M_ r_ (o_ r_ (co_ r_ r_ (o_ r_ (cl_ r_ r_ (E_ r_ (T_ (au_ ?_)))))))))))))
  obtain ⟨n0, hn0, hn2, hns⟩ : ∃ n : Nat, min 2 (s.size : Int) = (n : Int) ∧ n ≤ 2 ∧ n = min 2 s.size := ⟨min 2 s.size, by omega, by omega, rfl⟩
  rw [hn0]
  refine jc_loopS [] (fun k : Nat => k ≤ 2 ∧ k ≤ s.size ∧ (k < 2 → ¬ (2 ≤ s.size ∧ hasS SG (s.extract 0 2) = true)) ∧ (k < 1 → ¬ (1 ≤ s.size ∧ hasS SG (s.extract 0 1) = true))) (fun k => [(0, Str s), (1, .cell (.map (setE SG))), (5, In .i64 (k : Int))]) (fun _ => []) (fun k => k) n0 ⟨hn2, by omega, fun h => by omega, fun h => by omega⟩ ?_ ?_ ?_
  · exact sub_end
  · (repeat (first | exact True.intro | refine ⟨rfl, ?_⟩))
  · rintro k ⟨h2, hle, hn2, hn1⟩
    refine am_ (R_ (M_ r_ (o_ r_ (bz_ r_ r_ (T_ (jc_condd rfl (fun hpos => ?_) (fun hz => ?_)))))))
    · refine as_ (al_ (B_ (R_ (M_ r_ (M_ r_ (M_ r_ (o_ r_ (ow_substrHi r_ r_ r_ g_ g_ (o_ r_ (ow_lookupSet r_ r_ r_ (T_ (jc_cond rfl (fun hb => ?_) (fun hb => ?_)))))))))))))
      · have e : signLen s = k := by
          have hk : k = 2 ∨ k = 1 := by omega
          rcases hk with rfl | rfl
          · unfold signLen; rw [if_pos ⟨by omega, hb⟩]
          · unfold signLen; rw [if_neg (hn2 (by omega)), if_pos ⟨by omega, hb⟩]
        refine R_ (M_ r_ (E_ r_ (T_ (ar_ (az_ (aw_ (aw_ (az_ (aw_ (jq_ret1 rfl rfl [] rfl (fun K h => by rw [e] at h; exact h)))))))))))
      · refine as_ (ay_ (al_ (an_ (M_ r_ (o_ r_ (cg_ r_ r_ g_ (E_ r_ (ak_ ?_))))))))
        obtain ⟨m, rfl⟩ : ∃ m, k = m + 1 := ⟨k - 1, by omega⟩
        refine jq_againS (i := m + 1) m ⟨by omega, by omega, fun h hh => ?_, fun h hh => ?_⟩ g_ ?_ ?_
        · have hm : m = 1 ∨ m = 0 := by omega
          rcases hm with rfl | rfl
          · have hb' : hasS SG (s.extract 0 2) = false := hb
            rw [hb'] at hh; exact absurd hh.2 (by simp)
          · exact hn2 g_ hh
        · obtain rfl : m = 0 := by omega
          have hb' : hasS SG (s.extract 0 1) = false := hb
          rw [hb'] at hh; exact absurd hh.2 (by simp)
        · exact sub_end
        · rw [show ((m : Nat) : Int) = ((m + 1 : Nat) : Int) - 1 by omega]
          (repeat (first | exact True.intro | refine ⟨rfl, ?_⟩))
    · obtain rfl : k = 0 := by omega
      have e : signLen s = 0 := by unfold signLen; rw [if_neg (hn2 (by omega)), if_neg (hn1 (by omega))]
      refine av_ (ax_ (ax_ (ba_ (al_ (R_ (E_ r_ (T_ (ar_ (jq_ret1 rfl rfl [] rfl (fun K h => by rw [e] at h; exact h))))))))))
end Go.Proofs.YtlniadfidfmckaaDoor
end

section
namespace Go.Proofs.YtlniadfidfmckaaDoor
open Go.Vc
attribute [local irreducible] JL JC JQ OpWp Con ConN

/-- A token's row. -/
def tokC (k v l : Int) (t : ByteArray) : List C := [.val (.int .i64 k), .val (.int .i64 v), .val (.int .i64 l), .val (.string t)]
/-- The token at the beginning (kind, number, text) and its length. -/
def nextT (s : ByteArray) : (Int × Int × ByteArray) × Nat :=
  if 0 < nameLen s then (if 12 < nameLen s then ((0, 0, ⟨#[]⟩), 0) else ((1, 0, s.extract 0 (nameLen s)), nameLen s))
  else if 0 < runLen isD s then (if 2147483647 < numVal (bytesI (s.extract 0 (runLen isD s))) then ((0, 0, ⟨#[]⟩), 0) else ((2, numVal (bytesI (s.extract 0 (runLen isD s))), ⟨#[]⟩), runLen isD s))
  else ((3, 0, s.extract 0 (signLen s)), signLen s)
theorem take_takeWhile {α : Type} {p : α → Bool} : ∀ l : List α, ∀ x ∈ l.take (l.takeWhile p).length, p x = true
  | [], x, h => by simp at h
  | a :: l, x, h => by
    cases hp : p a with
    | false => simp [hp] at h
    | true =>
      rw [List.takeWhile_cons, if_pos hp, List.length_cons, List.take_succ_cons] at h
      rcases List.mem_cons.1 h with rfl | h
      · exact hp
      · exact take_takeWhile l x h
theorem run_dig (s : ByteArray) : ∀ c ∈ bytesI (s.extract 0 (runLen isD s)), isD c = true := by
  rw [extract_bytes]
  exact take_takeWhile (bytesI s)
theorem nameLen_le (s : ByteArray) : nameLen s ≤ s.size := by
  unfold nameLen
  split
  · exact runLen_le _ _
  · exact Nat.zero_le _
theorem signLen_le (s : ByteArray) : signLen s ≤ s.size := by
  unfold signLen
  split
  · omega
  · split
    · omega
    · omega
theorem next_c (s : ByteArray) (hs : s.size ≤ 1000000) : Con Tryd.prog 33 [Str s, .cell (.map (setE SG))] [] (fun K => K (.tup [.row (tokC (nextT s).1.1 (nextT s).1.2.1 0 (nextT s).1.2.2), In .i64 ((nextT s).2 : Int)]) []) := by
  have h1 := nameLen_le s
  have h2 := runLen_le isD s
  have h3 := signLen_le s
  refine con_intro Tryd.func33 rfl rfl (Nat.le_of_ble_eq_true rfl) (fun c hc => R_ (o_ r_ (bl_ r_ r_ (fun bl => E_ r_ (T_ (am_ (R_ (M_ r_ (o_ r_ (bm_ r_ (name_c s hs) (E_ r_ (T_ (R_ (M_ r_ (o_ r_ (bz_ r_ r_ (T_ (jc_condd rfl (fun hn => ?_) (fun hn => ?_)))))))))))))))))))
  · refine am_ (R_ (M_ r_ (o_ r_ (bz_ r_ r_ (T_ (jc_condd rfl (fun hg => ?_) (fun hg => ?_)))))))
    · refine R_ (o_ r_ (bu_ r_ r_ r_ r_ r_ (S_ 0 r_ (E_ r_ (T_ (ar_ (aw_ (aw_ ?_))))))))
      have e : nextT s = ((0, 0, ⟨#[]⟩), 0) := by unfold nextT; rw [if_pos (by omega), if_pos (by omega)]
      exact jq_retRowT rfl rfl rfl rfl rfl 0 rfl (fun K h => by rw [e] at h; exact h) sub_end
    · refine as_ (al_ (R_ (M_ r_ (M_ r_ (o_ r_ (ow_substrHi r_ r_ r_ g_ g_ (o_ r_ (bu_ r_ r_ r_ r_ r_ (M_ r_ (S_ 0 r_ (E_ r_ (T_ (ar_ (aw_ ?_))))))))))))))
      have e : nextT s = ((1, 0, s.extract 0 (nameLen s)), nameLen s) := by unfold nextT; rw [if_pos (by omega), if_neg (by omega)]
      exact jq_retRowT rfl rfl rfl rfl rfl 0 rfl (fun K h => by rw [e] at h; exact h) sub_end
  · have e0 : nextT s = (if 0 < runLen isD s then (if 2147483647 < numVal (bytesI (s.extract 0 (runLen isD s))) then ((0, 0, ⟨#[]⟩), 0) else ((2, numVal (bytesI (s.extract 0 (runLen isD s))), ⟨#[]⟩), runLen isD s)) else ((3, 0, s.extract 0 (signLen s)), signLen s)) := by unfold nextT; rw [if_neg (by omega)]
    refine as_ (al_ (am_ (R_ (M_ r_ (o_ r_ (bm_ r_ (run_c isD _ digit_c s hs) (E_ r_ (T_ (R_ (M_ r_ (o_ r_ (bz_ r_ r_ (T_ (jc_condd rfl (fun hr => ?_) (fun hr => ?_)))))))))))))))
    · have hsz : (s.extract 0 (runLen isD s)).size ≤ 1000000 := by rw [extract_size _ _ _ h2]; omega
      refine R_ (M_ r_ (M_ r_ (o_ r_ (ow_substrHi r_ r_ r_ g_ g_ (o_ r_ (bm_ r_ (number_c _ hsz (run_dig s)) (E_ r_ (T_ (am_ (R_ (M_ r_ (o_ r_ (bz_ r_ r_ (T_ (jc_condd rfl (fun hg => ?_) (fun hg => ?_))))))))))))))))
      · refine R_ (o_ r_ (bu_ r_ r_ r_ r_ r_ (S_ 0 r_ (E_ r_ (T_ (ar_ (aw_ (aw_ ?_))))))))
        have e : nextT s = ((0, 0, ⟨#[]⟩), 0) := by rw [e0, if_pos (by omega), if_pos (show 2147483647 < numVal (bytesI (s.extract 0 (runLen isD s))) from hg)]
        exact jq_retRowT rfl rfl rfl rfl rfl 0 rfl (fun K h => by rw [e] at h; exact h) sub_end
      · refine as_ (al_ (R_ (M_ r_ (o_ r_ (bu_ r_ r_ r_ r_ r_ (M_ r_ (S_ 0 r_ (E_ r_ (T_ (ar_ (aw_ ?_)))))))))))
        have e : nextT s = ((2, numVal (bytesI (s.extract 0 (runLen isD s))), ⟨#[]⟩), runLen isD s) := by rw [e0, if_pos (by omega), if_neg (show ¬ 2147483647 < numVal (bytesI (s.extract 0 (runLen isD s))) from hg)]
        exact jq_retRowT rfl rfl rfl rfl rfl 0 rfl (fun K h => by rw [e] at h; exact h) sub_end
    · refine as_ (al_ (R_ (M_ r_ (M_ r_ (o_ r_ (bm_ r_ (sign_c s hs) (E_ r_ (T_ (R_ (M_ r_ (M_ r_ (o_ r_ (ow_substrHi r_ r_ r_ g_ g_ (o_ r_ (bu_ r_ r_ r_ r_ r_ (M_ r_ (S_ 0 r_ (E_ r_ ?_))))))))))))))))))
      refine T_ (ar_ ?_)
      have e : nextT s = ((3, 0, s.extract 0 (signLen s)), signLen s) := by rw [e0, if_neg (by omega)]
      exact jq_retRowT rfl rfl rfl rfl rfl 0 rfl (fun K h => by rw [e] at h; exact h) sub_end
end Go.Proofs.YtlniadfidfmckaaDoor
end

section
namespace Go.Proofs.YtlniadfidfmckaaDoor
open Go.Vc
attribute [local irreducible] JL JC JQ OpWp Con ConN

/-- A token: kind, number, line, text. -/
structure Tok where
  kind : Int
  num : Int
  line : Int
  text : ByteArray
def Tok.row (t : Tok) : List C := tokC t.kind t.num t.line t.text
/-- The rest of a scan. -/
def scanGo (s : ByteArray) (at_ : Nat) (line : Int) (out : List Tok) : List Tok × Int × Int :=
  if h : at_ < s.size then
    if byteAt s at_ = 10 then scanGo s (at_ + 1) (line + 1) out
    else if byteAt s at_ = 32 ∨ byteAt s at_ = 9 then scanGo s (at_ + 1) line out
    else if hn : (nextT (s.extract at_ s.size)).2 = 0 then ([], line, 1)
    else scanGo s (at_ + (nextT (s.extract at_ s.size)).2) line (out ++ [⟨(nextT (s.extract at_ s.size)).1.1, (nextT (s.extract at_ s.size)).1.2.1, line, (nextT (s.extract at_ s.size)).1.2.2⟩])
  else (out, 0, 0)
termination_by s.size - at_
decreasing_by all_goals omega
def scan (s : ByteArray) : List Tok × Int × Int := if 8192 < s.size then ([], 0, 4) else scanGo s 0 1 []
theorem nextT_le (s : ByteArray) : (nextT s).2 ≤ s.size := by
  have h1 := nameLen_le s
  have h2 := runLen_le isD s
  have h3 := signLen_le s
  unfold nextT
  split
  · split
    · exact Nat.zero_le _
    · exact h1
  · split
    · split
      · exact Nat.zero_le _
      · exact h2
    · exact h3

attribute [local irreducible] nextT scan byteAt
theorem Scan_c (s : ByteArray) : Con Tryd.prog 16 [Str s] [] (fun K => K (.tup [.cell (.list ((scan s).1.map Tok.row)), In .i64 (scan s).2.1, In .i64 (scan s).2.2]) []) := by
  refine con_intro Tryd.func16 rfl rfl (Nat.le_of_ble_eq_true rfl) (fun c hc => R_ (E_ r_ (E_ r_ (E_ r_ (T_ (am_ (R_ (M_ r_ (o_ r_ (co_ r_ r_ (o_ r_ (bz_ r_ r_ (T_ (jc_condd rfl (fun hn => ?_) (fun hn => ?_)))))))))))))))
  · refine R_ (E_ r_ (E_ r_ (E_ r_ (T_ (ar_ (aw_ ?_))))))
    have e : scan s = ([], 0, 4) := by unfold scan; rw [if_pos (by omega)]
    exact jq_ownNil 63 4 g_ (jq_freeze 2 0 rfl rfl (by rw [hc]; simp [hb]) (jq_ret3 rfl rfl rfl rfl (fun K h => by rw [e] at h; exact h) sub_end))
  · have hsz : s.size ≤ 8192 := by omega
    refine as_ (al_ (R_ (E_ r_ (T_ (R_ (o_ r_ (bm_ r_ (signs_c) (E_ r_ (T_ (R_ (E_ r_ (T_ (am_ (R_ (E_ r_ (T_ ?_))))))))))))))))
    refine au_ (jc_ownNil 63 4 g_ ?_)
    refine jc_loopS (ι := Nat × Int × Value × List Tok) [] (fun i => scanGo s i.1 i.2.1 i.2.2.2 = scan s ∧ i.1 ≤ s.size ∧ 1 ≤ i.2.1 ∧ i.2.1 ≤ 1 + i.1 ∧ i.2.2.2.length ≤ i.1) (fun i => [(0, Str s), (2, S.cell (C.val (.slice none 0 0))), (5, .cell (.val i.2.2.1)), (6, .cell (.map (setE SG))), (7, In .i64 i.2.1), (8, In .i64 (i.1 : Int))]) (fun i => [.own i.2.2.1 63 4 (i.2.2.2.map Tok.row)]) (fun i => s.size - i.1) (0, 1, .slice none 0 0, []) ⟨by unfold scan; rw [if_neg g_], by omega, by dsimp only; omega, by dsimp only; omega, by simp⟩ ?_ ?_ ?_
    · exact bc_ 0 r_ sub_end
    · (repeat (first | exact True.intro | refine ⟨rfl, ?_⟩))
    · rintro ⟨k, line, v, out⟩ ⟨hsc, hk, hl1, hl2, hlen⟩
      dsimp only at hsc hk hl1 hl2 hlen ⊢
      refine jc_reset [(0, Str s), (2, S.cell (C.val (.slice none 0 0))), (5, .cell (.val v)), (6, .cell (.map (setE SG))), (7, In .i64 line), (8, In .i64 (k : Int))] [.own v 63 4 (out.map Tok.row)] ?_ ⟨[0], [], rfl⟩ ?_
      · (repeat (first | exact True.intro | refine ⟨rfl, ?_⟩))
      refine am_ (R_ (M_ r_ (M_ r_ (o_ r_ (co_ r_ r_ (o_ r_ (bw_ r_ r_ (T_ (jc_condd rfl (fun hlt => ?_) (fun hge => ?_))))))))))
      · have hlt' : k < s.size := by omega
        rw [scanGo, dif_pos hlt'] at hsc
        have hx : (s.extract k s.size).size = s.size - k := by rw [extract_size _ _ _ (Nat.le_refl _)]
        have hnl := nextT_le (s.extract k s.size)
        refine as_ (al_ (au_ (am_ (R_ (M_ r_ (M_ r_ (o_ r_ (ow_indexStr r_ r_ r_ g_ g_ (T_ (au_ (R_ (o_ r_ (bn_ r_ r_ (E_ r_ (T_ (jc_condd rfl (fun h10 => ?_) (fun h10 => ?_)))))))))))))))))
        · rw [if_pos (show byteAt s k = 10 from h10)] at hsc
          refine R_ (M_ r_ (o_ r_ (bj_ r_ r_ g_ (E_ r_ (T_ (R_ (M_ r_ (o_ r_ (bj_ r_ r_ g_ (E_ r_ (T_ (av_ (bb_ r_ (ax_ (ba_ (jq_againS (i := (k, line, v, out)) (k + 1, line + 1, v, out) ⟨hsc, by dsimp only; omega, by dsimp only; omega, by dsimp only; omega, by dsimp only; omega⟩ (by dsimp only; omega) ?_ ?_))))))))))))))))
          · exact bc_ 0 r_ sub_end
          · (repeat (first | exact True.intro | refine ⟨rfl, ?_⟩))
        · rw [if_neg (show ¬ byteAt s k = 10 from h10)] at hsc
          refine am_ (R_ (o_ r_ (bn_ r_ r_ (E_ r_ (T_ (jc_condd rfl (fun h32 => ?_) (fun h32 => ?_)))))))
          · rw [if_pos (Or.inl (show byteAt s k = 32 from h32))] at hsc
            refine as_ (al_ (jc_condd rfl (fun _ => R_ (M_ r_ (o_ r_ (bj_ r_ r_ g_ (E_ r_ (T_ (av_ (bb_ r_ (ax_ (ba_ (jq_againS (i := (k, line, v, out)) (k + 1, line, v, out) ⟨hsc, by dsimp only; omega, by dsimp only; omega, by dsimp only; omega, by dsimp only; omega⟩ (by dsimp only; omega) ?_ ?_))))))))))) (fun hx => absurd h32 hx)))
            · exact bc_ 0 r_ sub_end
            · (repeat (first | exact True.intro | refine ⟨rfl, ?_⟩))
          · refine an_ (o_ r_ (bn_ r_ r_ (E_ r_ (T_ (jc_condd rfl (fun h9 => ?_) (fun h9 => ?_))))))
            · rw [if_pos (Or.inr (show byteAt s k = 9 from h9))] at hsc
              refine R_ (M_ r_ (o_ r_ (bj_ r_ r_ g_ (E_ r_ (T_ (av_ (bb_ r_ (ax_ (ba_ (jq_againS (i := (k, line, v, out)) (k + 1, line, v, out) ⟨hsc, by dsimp only; omega, by dsimp only; omega, by dsimp only; omega, by dsimp only; omega⟩ (by dsimp only; omega) ?_ ?_))))))))))
              · exact bc_ 0 r_ sub_end
              · (repeat (first | exact True.intro | refine ⟨rfl, ?_⟩))
            · rw [if_neg (show ¬ (byteAt s k = 32 ∨ byteAt s k = 9) from fun hh => hh.elim h32 h9)] at hsc
              have hxs : (s.extract k s.size).size ≤ 1000000 := by omega
              refine jc_reset [(0, Str s), (2, S.cell (C.val (.slice none 0 0))), (5, .cell (.val v)), (6, .cell (.map (setE SG))), (7, In .i64 line), (8, In .i64 (k : Int))] [.own v 63 4 (out.map Tok.row)] ?_ ⟨[0], [], rfl⟩ ?_
              · (repeat (first | exact True.intro | refine ⟨rfl, ?_⟩))
              refine as_ (ay_ (al_ (R_ (M_ r_ (M_ r_ (o_ r_ (ow_substrLo r_ r_ r_ g_ g_ (M_ r_ (o_ r_ (bm_ r_ (next_c _ hxs) (M_ r_ (X_ r_ (X_ r_ (o_ r_ (bl_ r_ r_ (fun bl => S_ 0 r_ (E_ r_ (T_ ?_))))))))))))))))))
              refine am_ (R_ (M_ r_ (o_ r_ (bn_ r_ r_ (T_ (jc_condd rfl (fun h0 => ?_) (fun h0 => ?_)))))))
              · refine R_ (M_ r_ (E_ r_ (E_ r_ (E_ r_ (T_ (ar_ (aw_ (az_ (aw_ (az_ (aw_ ?_)))))))))))
                have h0' : (nextT (s.extract k s.size)).2 = 0 := by simpa only [Int.toNat_natCast, Int.natCast_eq_zero] using h0
                have e : scan s = ([], line, 1) := by rw [← hsc, dif_pos h0']
                exact jq_ownNil 63 4 g_ (jq_freeze 2 0 rfl rfl (by rw [hc]; simp [hb]) (jq_ret3 rfl rfl rfl rfl (fun K h => by rw [e] at h; exact h) sub_end))
              · have h0' : ¬ (nextT (s.extract k s.size)).2 = 0 := by simpa only [Int.toNat_natCast, Int.natCast_eq_zero] using h0
                rw [dif_neg h0'] at hsc
                have e1 : (nextT (s.extract (k : Int).toNat s.size)).2 = (nextT (s.extract k s.size)).2 := by rw [Int.toNat_natCast]
                refine as_ (al_ (R_ (M_ r_ (F_ r_ (W_ 0 r_ (T_ (R_ (M_ r_ (A_ 0 r_ (o_ r_ (bq_ r_ r_ b_ r_ r_ b_ ?_)))))))))))
                refine o_ r_ (ow_append1 1 ((⟨(nextT (s.extract k s.size)).1.1, (nextT (s.extract k s.size)).1.2.1, line, (nextT (s.extract k s.size)).1.2.2⟩ : Tok)) rfl rfl rfl rfl rfl rfl rfl (fun _ => rfl) (by show (_ + _) * 40 ≤ _; first | omega | (simp only [List.length_append]; omega)) (by first | omega | (simp only [List.length_append]; omega)) (fun v1 hv1 => E_ r_ (T_ (an_ (M_ r_ (M_ r_ (o_ r_ (bj_ r_ r_ g_ (E_ r_ ?_)))))))))
                refine ak_ (ay_ (jq_againS (i := (k, line, v, out)) (k + (nextT (s.extract k s.size)).2, line, v1, out ++ [(⟨(nextT (s.extract k s.size)).1.1, (nextT (s.extract k s.size)).1.2.1, line, (nextT (s.extract k s.size)).1.2.2⟩ : Tok)]) ⟨hsc, by dsimp only; omega, hl1, by dsimp only; omega, by dsimp only; rw [List.length_append, List.length_singleton]; omega⟩ (by dsimp only; omega) ?_ ?_))
                · exact bc_ 0 r_ sub_end
                · rw [show ((k + (nextT (s.extract k s.size)).2 : Nat) : Int) = (k : Int) + ((nextT (s.extract k s.size)).2 : Int) by omega]
                  (repeat (first | exact True.intro | refine ⟨rfl, ?_⟩))
      · refine av_ (ax_ (ax_ (ba_ (al_ (R_ (M_ r_ (E_ r_ (E_ r_ (E_ r_ (T_ (ar_ ?_)))))))))))
        have e : scan s = (out, 0, 0) := by rw [← hsc, scanGo, dif_neg (by omega)]
        exact jq_freeze 2 0 rfl rfl (by rw [hc]; simp [hb]) (jq_ret3 rfl rfl rfl rfl (fun K h => by rw [e] at h; exact h) sub_end)
end Go.Proofs.YtlniadfidfmckaaDoor
end

section
namespace Go.Proofs.YtlniadfidfmckaaDoor
open Go.Vc
attribute [local irreducible] JL JC JQ OpWp Con ConN
set_option maxHeartbeats 4000000

inductive T where
  | nu (n : Int)
  | nm (s : ByteArray)
  | ix (s : ByteArray) (t : T)
  | bn (o : Int) (a b : T)
def T.kind : T → Int
  | .nu _ => 1
  | .nm _ => 2
  | .ix _ _ => 3
  | .bn _ _ _ => 4
def T.num : T → Int
  | .nu n => n
  | _ => 0
def T.name : T → ByteArray
  | .nm s => s
  | .ix s _ => s
  | _ => ⟨#[]⟩
def T.op : T → Int
  | .bn o _ _ => o
  | _ => 0
def T.args : T → List T
  | .ix _ t => [t]
  | .bn _ a b => [a, b]
  | _ => []
def T.row : T → List C
  | .nu n => [.val (.int .i64 1), .val (.int .i64 n), .val (.string ⟨#[]⟩), .val (.int .i64 0), .list []]
  | .nm s => [.val (.int .i64 2), .val (.int .i64 0), .val (.string s), .val (.int .i64 0), .list []]
  | .ix s t => [.val (.int .i64 3), .val (.int .i64 0), .val (.string s), .val (.int .i64 0), .list [t.row]]
  | .bn o a b => [.val (.int .i64 4), .val (.int .i64 0), .val (.string ⟨#[]⟩), .val (.int .i64 o), .list [a.row, b.row]]
abbrev T.row' (t : T) : List C := [.val (.int .i64 t.kind), .val (.int .i64 t.num), .val (.string t.name), .val (.int .i64 t.op), .list (t.args.map T.row)]
theorem T.row_eq (t : T) : t.row = t.row' := by cases t <;> rfl
def T.dep : T → Nat
  | .nu _ => 1
  | .nm _ => 1
  | .ix _ t => t.dep + 1
  | .bn _ a b => max a.dep b.dep + 1
theorem T.dep_args (t : T) : t.dep = (t.args.map T.dep).foldl max 0 + 1 := by cases t <;> simp [T.dep, T.args]
/-- The greatest of the first depths, each at most one more than a limit. -/
def mx (f : T → Nat) (l : List T) : Nat := l.foldl (fun m t => max m (f t)) 0
theorem mx_snoc (f : T → Nat) (l : List T) (t : T) : mx f (l ++ [t]) = max (mx f l) (f t) := by simp [mx]
def dl : Nat → T → Nat
  | 0, _ => 1
  | L + 1, t => mx (dl L) t.args + 1
theorem dl_eq : ∀ (L : Nat) (t : T), dl L t = min t.dep (L + 1)
  | 0, t => by have : 1 ≤ t.dep := by rw [T.dep_args]; omega
               simp only [dl]; omega
  | L + 1, t => by
    have h := dl_eq L
    cases t <;> simp only [dl, T.args, mx, List.foldl_nil, List.foldl_cons, T.dep, h] <;> omega
theorem dl_le (L : Nat) (t : T) : dl L t ≤ L + 1 := by rw [dl_eq]; omega
theorem mx_le {f : T → Nat} {B : Nat} (h : ∀ t, f t ≤ B) : ∀ l : List T, mx f l ≤ B := by
  intro l
  unfold mx
  have : ∀ (l : List T) (m : Nat), m ≤ B → l.foldl (fun m t => max m (f t)) m ≤ B := by
    intro l
    induction l with
    | nil => intro m hm; exact hm
    | cons t l ih => intro m hm; exact ih _ (by have := h t; show max m (f t) ≤ B; omega)
  exact this l 0 (Nat.zero_le _)
theorem Depth_c : ∀ (L : Nat) (t : T), L ≤ 1000 → Con Tryd.prog 25 [.row t.row', In .i64 (L : Int)] [] (fun K => K (In .i64 (dl L t : Int)) []) := by
  intro L
  induction L with
  | zero =>
    intro t _
    refine con_intro Tryd.func25 rfl rfl (Nat.le_of_ble_eq_true rfl) (fun c hc => R_ (o_ r_ (ci_ r_ (fun bx => E_ r_ (T_ (R_ (E_ r_ (T_ (am_ (R_ (M_ r_ (o_ r_ (bz_ r_ r_ (T_ (jc_condd rfl (fun h => by omega) (fun _ => as_ (al_ ?_)))))))))))))))))
    refine R_ (M_ r_ (o_ r_ (bj_ r_ r_ g_ (E_ r_ (T_ (ar_ (jq_ret1 rfl rfl [] rfl (fun K h => h))))))))
  | succ L ih =>
    intro t hL
    have eA : (t.args.map T.row).length = t.args.length := List.length_map _
    refine con_intro Tryd.func25 rfl rfl (Nat.le_of_ble_eq_true rfl) (fun c hc => R_ (o_ r_ (ci_ r_ (fun bx => E_ r_ (T_ (R_ (E_ r_ (T_ (am_ (R_ (M_ r_ (o_ r_ (bz_ r_ r_ (T_ (jc_condd rfl (fun _ => R_ (F_ r_ ?_)) (fun h => by omega))))))))))))))))
    refine L_ 0 r_ (o_ r_ (br_ r_ (fun hlen => M_ r_ (T_ (au_ (jc_loopS (ι := Nat) [] (fun k => k ≤ t.args.length) (fun k => [(1, In .i64 ((L + 1 : Nat) : Int)), (5, In .i64 (mx (dl L) (t.args.take k) : Int)), (11, .cell (.list (t.args.map T.row))), (12, In .i64 ((t.args.map T.row).length : Int)), (13, In .i64 (k : Int))]) (fun _ => []) (fun k => t.args.length - k) 0 (Nat.zero_le _) ?_ ?_ ?_))))))
    · exact sub_end
    · (repeat (first | exact True.intro | refine ⟨rfl, ?_⟩))
    · intro k hk
      refine jc_reset [(1, In .i64 ((L + 1 : Nat) : Int)), (5, In .i64 (mx (dl L) (t.args.take k) : Int)), (11, .cell (.list (t.args.map T.row))), (12, In .i64 ((t.args.map T.row).length : Int)), (13, In .i64 (k : Int))] [] ?_ ⟨[], [], rfl⟩ ?_
      · (repeat (first | exact True.intro | refine ⟨rfl, ?_⟩))
      refine R_ (o_ r_ (bw_ r_ r_ (T_ (am_ (jc_condd rfl (fun hlt => ?_) (fun hge => ?_))))))
      · have hlt' : k < t.args.length := by omega
        have hI : Con Tryd.prog 25 [.row (t.args[k]).row', In .i64 (((L + 1 : Nat) : Int) - 1)] [] (fun K => K (In .i64 (dl L t.args[k] : Int)) []) := by
          rw [show (((L + 1 : Nat) : Int) - 1) = (L : Int) by omega]
          exact ih _ g_
        refine as_ (al_ (B_ (R_ (o_ r_ (cc_ r_ r_ g_ (T.row_eq _) r_ b_ (o_ r_ (cr_ r_ r_ r_ (o_ r_ (bl_ r_ r_ (fun bl => S_ 0 r_ (T_ (an_ (M_ r_ (A_ 0 r_ (M_ r_ (o_ r_ (cg_ r_ r_ g_ (o_ r_ (bm_ r_ (hI) (o_ r_ (ck_ r_ r_ ?_)))))))))))))))))))))
        refine E_ r_ (ak_ (ay_ (al_ (an_ (o_ r_ (bj_ r_ r_ g_ (M_ r_ (ak_ (jq_againS (k + 1) g_ g_ ?_ ?_)))))))))
        · exact sub_end
        · rw [List.take_succ_eq_append_getElem hlt', mx_snoc, show ((max (mx (dl L) (t.args.take k)) (dl L t.args[k]) : Nat) : Int) = max (mx (dl L) (t.args.take k) : Int) (dl L t.args[k] : Int) by omega]
          (repeat (first | exact True.intro | refine ⟨rfl, ?_⟩))
      · obtain rfl : k = t.args.length := by omega
        have hm := mx_le (dl_le L) t.args
        rw [List.take_length]
        refine av_ (ax_ (ax_ (ba_ (al_ (R_ (M_ r_ (o_ r_ (bj_ r_ r_ g_ (E_ r_ (T_ (ar_ (jq_ret1 rfl rfl [] rfl (fun K h => h)))))))))))))

/-- The reference's: from a depth on, 21 where it is deeper than 20. -/
def rd : Nat → T → Nat
  | 0, _ => 21
  | F + 1, t => max (20 - F) (mx (rd F) t.args)
theorem rd_eq : ∀ (F : Nat) (t : T), F ≤ 20 → rd F t = min (t.dep + (20 - F)) 21
  | 0, t, _ => by have : 1 ≤ t.dep := by rw [T.dep_args]; omega
                  simp only [rd]; omega
  | F + 1, t, hF => by
    have h := fun t => rd_eq F t (by omega)
    cases t <;> simp only [rd, T.args, mx, List.foldl_nil, List.foldl_cons, T.dep, h] <;> omega
end Go.Proofs.YtlniadfidfmckaaDoor
end

section
namespace Go.Proofs.YtlniadfidfmckaaDoor
open Go.Vc
attribute [local irreducible] JL JC JQ OpWp Con ConN
set_option maxHeartbeats 4000000

theorem Rdepth_c : ∀ (F : Nat) (t : T), F ≤ 20 → Con Tryd.prog 84 [.row t.row', In .i64 (21 - (F : Int))] [] (fun K => K (In .i64 (rd F t : Int)) []) := by
  intro F
  induction F with
  | zero =>
    intro t _
    refine con_intro Tryd.func84 rfl rfl (Nat.le_of_ble_eq_true rfl) (fun c hc => R_ (o_ r_ (ci_ r_ (fun bx => E_ r_ (T_ (am_ (R_ (M_ r_ (o_ r_ (bz_ r_ r_ (T_ (jc_condd rfl (fun _ => R_ (E_ r_ (T_ (ar_ (aw_ ?_))))) (fun h => by omega)))))))))))))
    refine jq_ret1 rfl rfl [] rfl (fun K h => h)
  | succ F ih =>
    intro t hF
    have eA : (t.args.map T.row).length = t.args.length := List.length_map _
    refine con_intro Tryd.func84 rfl rfl (Nat.le_of_ble_eq_true rfl) (fun c hc => R_ (o_ r_ (ci_ r_ (fun bx => E_ r_ (T_ (am_ (R_ (M_ r_ (o_ r_ (bz_ r_ r_ (T_ (jc_condd rfl (fun h => by omega) (fun _ => as_ (al_ (R_ (M_ r_ (E_ r_ ?_)))))))))))))))))
    refine T_ (am_ (R_ (E_ r_ (T_ (au_ ?_)))))
    have e0 : (21 - ((F + 1 : Nat) : Int)) = ((max (20 - F) (mx (rd F) (t.args.take 0)) : Nat) : Int) := by rw [List.take_zero]; simp only [mx, List.foldl_nil]; omega
    refine jc_loopS (ι := Nat) [] (fun k => k ≤ t.args.length) (fun k => [(1, In .i64 (21 - ((F + 1 : Nat) : Int))), (2, .cell (.val (.pointer (some ⟨bx, 0, none⟩)))), (5, In .i64 ((max (20 - F) (mx (rd F) (t.args.take k)) : Nat) : Int)), (6, In .i64 (k : Int))]) (fun _ => [.blk bx 47 t.row']) (fun k => t.args.length - k) 0 (Nat.zero_le _) ?_ ?_ ?_
    · exact bc_ 0 r_ sub_end
    · rw [← e0]
      (repeat (first | exact True.intro | refine ⟨rfl, ?_⟩))
    · intro k hk
      refine jc_reset [(1, In .i64 (21 - ((F + 1 : Nat) : Int))), (2, .cell (.val (.pointer (some ⟨bx, 0, none⟩)))), (5, In .i64 ((max (20 - F) (mx (rd F) (t.args.take k)) : Nat) : Int)), (6, In .i64 (k : Int))] [.blk bx 47 t.row'] ?_ ⟨[0], [], rfl⟩ ?_
      · (repeat (first | exact True.intro | refine ⟨rfl, ?_⟩))
      refine am_ (R_ (M_ r_ (F_ r_ (L_ 0 r_ (o_ r_ (br_ r_ (fun hlen => o_ r_ (bw_ r_ r_ (T_ (jc_condd rfl (fun hlt => ?_) (fun hge => ?_)))))))))))
      · have hlt' : k < t.args.length := by omega
        have hI : Con Tryd.prog 84 [.row (t.args[k]).row', In .i64 (21 - ((F + 1 : Nat) : Int) + 1)] [] (fun K => K (In .i64 (rd F t.args[k] : Int)) []) := by
          rw [show (21 - ((F + 1 : Nat) : Int) + 1) = 21 - (F : Int) by omega]
          exact ih _ g_
        refine as_ (al_ (B_ (an_ (M_ r_ (F_ r_ (L_ 0 r_ (M_ r_ (o_ r_ (cc_ r_ r_ g_ (T.row_eq _) r_ b_ (o_ r_ (cr_ r_ r_ r_ (M_ r_ (o_ r_ (bj_ r_ r_ g_ (o_ r_ (bm_ r_ (hI) (o_ r_ (ck_ r_ r_ (E_ r_ (ak_ ?_))))))))))))))))))))
        refine ay_ (al_ (an_ (M_ r_ (o_ r_ (bj_ r_ r_ g_ (E_ r_ (ak_ (jq_againS (k + 1) g_ g_ ?_ ?_))))))))
        · exact bc_ 0 r_ sub_end
        · rw [List.take_succ_eq_append_getElem hlt', mx_snoc, show ((max (20 - F) (max (mx (rd F) (t.args.take k)) (rd F t.args[k])) : Nat) : Int) = max ((max (20 - F) (mx (rd F) (t.args.take k)) : Nat) : Int) (rd F t.args[k] : Int) by omega]
          (repeat (first | exact True.intro | refine ⟨rfl, ?_⟩))
      · obtain rfl : k = t.args.length := by omega
        rw [List.take_length]
        refine av_ (ax_ (ax_ (ba_ (al_ (R_ (M_ r_ (E_ r_ (T_ (ar_ (jq_ret1 rfl rfl [] rfl (fun K h => h)))))))))))
theorem RDepth_c (t : T) : Con Tryd.prog 71 [.row t.row'] [] (fun K => K (In .i64 (rd 20 t : Int)) []) := by
  have h := Rdepth_c 20 t (by omega)
  rw [show (21 - ((20 : Nat) : Int)) = 1 by omega] at h
  refine con_intro Tryd.func71 rfl rfl (Nat.le_of_ble_eq_true rfl) (fun c hc => R_ (o_ r_ (ci_ r_ (fun bx => E_ r_ (T_ (R_ (A_ 0 r_ (o_ r_ (bm_ r_ (h) (E_ r_ (T_ (ar_ (jq_ret1 rfl rfl [] rfl (fun K h => h))))))))))))))

def hasW (s : ByteArray) : Bool := words.any (fun w => decide (w = s))
def idxW (L : List ByteArray) (s : ByteArray) : Int := match L.findIdx? (fun w => decide (w = s)) with | some i => (i : Int) | none => -1
theorem Index_c (L : List ByteArray) (s : ByteArray) : Con Tryd.prog 82 [.cell (.list (L.map Wrow)), Str s] [] (fun K => K (In .i64 (idxW L s)) []) := by
  have eL : (L.map Wrow).length = L.length := List.length_map _
  refine con_intro Tryd.func82 rfl rfl (Nat.le_of_ble_eq_true rfl) (fun c hc => R_ (E_ r_ (T_ (am_ (R_ (M_ r_ (o_ r_ (br_ r_ (fun hlen => M_ r_ (T_ (au_ ?_)))))))))))
  refine jc_loopS [] (fun k : Nat => k ≤ L.length ∧ ∀ j (hj : j < L.length), j < k → decide (L[j] = s) = false) (fun k => [(0, .cell (.list (L.map Wrow))), (1, Str s), (7, In .i64 ((L.map Wrow).length : Int)), (8, In .i64 (k : Int))]) (fun _ => []) (fun k => L.length - k) 0 ⟨Nat.zero_le _, fun j _ h => by omega⟩ ?_ ?_ ?_
  · exact sub_end
  · (repeat (first | exact True.intro | refine ⟨rfl, ?_⟩))
  · rintro k ⟨hk, hno⟩
    refine jc_reset [(0, .cell (.list (L.map Wrow))), (1, Str s), (7, In .i64 ((L.map Wrow).length : Int)), (8, In .i64 (k : Int))] [] ?_ ⟨[], [], rfl⟩ ?_
    · (repeat (first | exact True.intro | refine ⟨rfl, ?_⟩))
    refine R_ (o_ r_ (bw_ r_ r_ (T_ (am_ (jc_condd rfl (fun hlt => ?_) (fun hge => ?_))))))
    · have hlt' : k < L.length := by omega
      refine as_ (al_ (B_ (R_ (M_ r_ (E_ r_ (T_ (R_ (M_ r_ (M_ r_ (M_ r_ (o_ r_ (cc_ r_ r_ g_ r_ r_ b_ (o_ r_ (cb_ r_ r_ (o_ r_ (cs_ r_ r_ (T_ (jc_condd rfl (fun hb => ?_) (fun hb => ?_)))))))))))))))))))
      · have e : idxW L s = (k : Int) := by
          unfold idxW
          rw [List.findIdx?_eq_some_iff_getElem.2 ⟨hlt', decide_eq_true hb.symm, fun j hj => by rw [hno j (by omega) hj]; simp⟩]
        refine R_ (M_ r_ (E_ r_ (T_ (ar_ (az_ (aw_ (aw_ (az_ (aw_ (jq_ret1 rfl rfl [] rfl (fun K h => by rw [e] at h; exact h)))))))))))
      · refine as_ (ay_ (al_ (an_ (o_ r_ (bj_ r_ r_ g_ (M_ r_ (ak_ (jq_againS (k + 1) ⟨by omega, fun j hj hjk => ?_⟩ g_ ?_ ?_))))))))
        · by_cases e : j < k
          · exact hno j hj e
          · obtain rfl : j = k := by omega
            exact decide_eq_false (fun e => hb e.symm)
        · exact sub_end
        · (repeat (first | exact True.intro | refine ⟨rfl, ?_⟩))
    · have e : idxW L s = -1 := by
        unfold idxW
        rw [List.findIdx?_eq_none_iff.2 (fun x hx => by
          obtain ⟨j, hj, rfl⟩ := List.mem_iff_getElem.1 hx
          exact hno j hj (by omega))]
      refine av_ (ax_ (ax_ (ba_ (al_ (R_ (E_ r_ (T_ (ar_ (jq_ret1 rfl rfl [] rfl (fun K h => by rw [e] at h; exact h))))))))))
theorem idxW_any (L : List ByteArray) (s : ByteArray) : decide (0 ≤ idxW L s) = L.any (fun w => decide (w = s)) := by
  unfold idxW
  cases h : L.findIdx? (fun w => decide (w = s)) with
  | none =>
    have := List.findIdx?_eq_none_iff.1 h
    rw [List.any_eq_false.2 (fun x hx => by rw [this x hx]; decide)]
    rfl
  | some i =>
    obtain ⟨hi, hp, _⟩ := List.findIdx?_eq_some_iff_getElem.1 h
    rw [List.any_eq_true.2 ⟨L[i], List.getElem_mem hi, hp⟩]
    show decide (0 ≤ (i : Int)) = true
    exact decide_eq_true g_
theorem Contains_c (L : List ByteArray) (s : ByteArray) : Con Tryd.prog 92 [.cell (.list (L.map Wrow)), Str s] [] (fun K => K (Bl (L.any (fun w => decide (w = s)))) []) := by
  refine con_intro Tryd.func92 rfl rfl (Nat.le_of_ble_eq_true rfl) (fun c hc => R_ (E_ r_ (T_ (R_ (M_ r_ (M_ r_ (o_ r_ (bm_ r_ (Index_c L s) (o_ r_ (cn_ r_ r_ (E_ r_ (T_ (ar_ (jq_ret1 rfl rfl [] rfl (fun K h => by rw [← idxW_any] at h; exact h)))))))))))))))
theorem Keyword_c (s : ByteArray) : Con Tryd.prog 78 [Str s] [] (fun K => K (Bl (hasW s)) []) := by
  refine con_intro Tryd.func78 rfl rfl (Nat.le_of_ble_eq_true rfl) (fun c hc => R_ (E_ r_ (T_ (R_ (o_ r_ (dd_ gl_words r_ r_ r_ (M_ r_ (o_ r_ (bm_ r_ (Contains_c words s) (E_ r_ (T_ (ar_ (jq_ret1 rfl rfl [] rfl (fun K h => h))))))))))))))
def signT (op : Int) : ByteArray := signL.getD (op.toNat - 1) ⟨#[]⟩
theorem op14 {op : Int} (h : 1 ≤ op ∧ op ≤ 14) : op = 1 ∨ op = 2 ∨ op = 3 ∨ op = 4 ∨ op = 5 ∨ op = 6 ∨ op = 7 ∨ op = 8 ∨ op = 9 ∨ op = 10 ∨ op = 11 ∨ op = 12 ∨ op = 13 ∨ op = 14 := by omega
theorem RSign_c (op : Int) (h : 1 ≤ op ∧ op ≤ 14) : Con Tryd.prog 72 [In .i64 op] [] (fun K => K (Str (signT op)) []) := by
  refine con_intro Tryd.func72 rfl rfl (Nat.le_of_ble_eq_true rfl) (fun c hc => ?_)
  have h0 : ¬ op < 1 := by omega
  refine R_ (E_ r_ (T_ (R_ (o_ r_ (ow_buildArr (n := 15) (e := 9) r_ r_ r_ r_ r_ (o_ r_ (bl_ r_ r_ (fun bl => S_ 0 r_ (T_ (am_ (R_ (M_ r_ (o_ r_ (bw_ r_ r_ (M_ r_ (ah_ r_ w_ b_ (bd_ r_ (ah_ r_ w_ b_ (bz_ r_ r_ (o_ r_ (bv_ r_ w_ r_ ?_)))))))))))))))))))))
  refine T_ (jc_condd rfl (fun h2 => by omega) (fun _ => as_ (al_ (R_ (M_ r_ (o_ r_ (de_ (n := 15) (e := 9) r_ r_ r_ g_ g_ (o_ r_ (bg_ 0 (e := .val (.string (signT op))) rfl rfl rfl (by rcases op14 h with rfl | rfl | rfl | rfl | rfl | rfl | rfl | rfl | rfl | rfl | rfl | rfl | rfl | rfl <;> rfl) (E_ r_ (T_ (ar_ (jq_ret1 rfl rfl [] rfl (fun K h => h))))))))))))))
end Go.Proofs.YtlniadfidfmckaaDoor
end

section
namespace Go.Proofs.YtlniadfidfmckaaDoor
open Go.Vc
set_option maxHeartbeats 1000000

abbrev Ptr (b : Nat) : S := .cell (.val (.pointer (some ⟨b, 0, none⟩)))
abbrev Irow (n : Int) : List C := [.val (.int .i64 n)]
inductive Sm where
  | mk (kind : Int) (name : ByteArray) (index value : List T) (max label : Int) (thn els : List Sm)
mutual
def Sm.row : Sm → List C
  | .mk k n i v m l t e => [.val (.int .i64 k), .val (.string n), .list (i.map T.row), .list (v.map T.row), .val (.int .i64 m), .val (.int .i64 l), .list (Sm.rows t), .list (Sm.rows e)]
def Sm.rows : List Sm → List (List C)
  | [] => []
  | s :: l => s.row :: Sm.rows l
end
theorem Sm.rows_map : ∀ l : List Sm, Sm.rows l = l.map Sm.row
  | [] => rfl
  | s :: l => by simp [Sm.rows, Sm.rows_map l]
def Sm.kind : Sm → Int | .mk k _ _ _ _ _ _ _ => k
def Sm.name : Sm → ByteArray | .mk _ n _ _ _ _ _ _ => n
def Sm.index : Sm → List T | .mk _ _ i _ _ _ _ _ => i
def Sm.value : Sm → List T | .mk _ _ _ v _ _ _ _ => v
def Sm.max : Sm → Int | .mk _ _ _ _ m _ _ _ => m
def Sm.label : Sm → Int | .mk _ _ _ _ _ l _ _ => l
def Sm.thn : Sm → List Sm | .mk _ _ _ _ _ _ t _ => t
def Sm.els : Sm → List Sm | .mk _ _ _ _ _ _ _ e => e
abbrev Sm.row' (s : Sm) : List C := [.val (.int .i64 s.kind), .val (.string s.name), .list (s.index.map T.row), .list (s.value.map T.row), .val (.int .i64 s.max), .val (.int .i64 s.label), .list (s.thn.map Sm.row), .list (s.els.map Sm.row)]
theorem Sm.row_eq (s : Sm) : s.row = s.row' := by
  cases s
  simp [Sm.row, Sm.row', Sm.rows_map, Sm.kind, Sm.name, Sm.index, Sm.value, Sm.max, Sm.label, Sm.thn, Sm.els]
abbrev Inp := ByteArray × Int × Int
abbrev Shd := ByteArray × Int × ByteArray
abbrev Arr := ByteArray × Int
abbrev Md := ByteArray × ByteArray × Int × Int
abbrev Clm := Int × Int
abbrev InRow (x : Inp) : List C := [.val (.string x.1), .val (.int .i64 x.2.1), .val (.int .i64 x.2.2)]
abbrev ShRow (x : Shd) : List C := [.val (.string x.1), .val (.int .i64 x.2.1), .val (.string x.2.2)]
abbrev ArRow (x : Arr) : List C := [.val (.string x.1), .val (.int .i64 x.2)]
abbrev MdRow (x : Md) : List C := [.val (.string x.1), .val (.string x.2.1), .val (.int .i64 x.2.2.1), .val (.int .i64 x.2.2.2)]
abbrev ClRow (x : Clm) : List C := [.val (.int .i64 x.1), .val (.int .i64 x.2)]
structure Tk where
  name : ByteArray
  period : Int
  deadline : Int
  priority : Int
  jitter : Int
  inputs : List Inp
  vars : List ByteArray
  arrays : List Arr
  modes : List Md
  claims : List Clm
  body : List Sm
abbrev Tk.row (t : Tk) : List C := [.val (.string t.name), .val (.int .i64 t.period), .val (.int .i64 t.deadline), .val (.int .i64 t.priority), .val (.int .i64 t.jitter), .list (t.inputs.map InRow), .list (t.vars.map Wrow), .list (t.arrays.map ArRow), .list (t.modes.map MdRow), .list (t.claims.map ClRow), .list (t.body.map Sm.row)]
structure Pg where
  res : List ByteArray
  shared : List Shd
  tasks : List Tk
abbrev Pg.row (p : Pg) : List C := [.list (p.res.map Wrow), .list (p.shared.map ShRow), .list (p.tasks.map Tk.row)]
end Go.Proofs.YtlniadfidfmckaaDoor
end

section
namespace Go.Proofs.YtlniadfidfmckaaDoor
open Go.Vc
attribute [local irreducible] JL JC JQ OpWp Con ConN Pan ConE OpPan hasW idxW
set_option maxHeartbeats 4000000

def isA (l : List Tok) (a : Nat) (w : ByteArray) : Bool := match l[a]? with | some t => !decide (t.kind = 2) && decide (t.text = w) | none => false
def isNum (l : List Tok) (a : Nat) : Bool := match l[a]? with | some t => decide (t.kind = 2) | none => false
def isNm (l : List Tok) (a : Nat) : Bool := match l[a]? with | some t => decide (t.kind = 1) && !hasW t.text | none => false
def numAt (l : List Tok) (a : Nat) : Int := match l[a]? with | some t => t.num | none => 0
def txtAt (l : List Tok) (a : Nat) : ByteArray := match l[a]? with | some t => t.text | none => ⟨#[]⟩
def lineAt (l : List Tok) (p : Nat) : Int := match l[min p (l.length - 1)]? with | some t => t.line | none => 1
theorem isA_get {l : List Tok} {a : Nat} (w : ByteArray) (h : a < l.length) : isA l a w = (!decide (l[a].kind = 2) && decide (l[a].text = w)) := by simp [isA, h]
theorem isA_end {l : List Tok} {a : Nat} (w : ByteArray) (h : ¬ a < l.length) : isA l a w = false := by simp [isA, List.getElem?_eq_none (show l.length ≤ a by omega)]
theorem isNum_get {l : List Tok} {a : Nat} (h : a < l.length) : isNum l a = decide (l[a].kind = 2) := by simp [isNum, h]
theorem isNum_end {l : List Tok} {a : Nat} (h : ¬ a < l.length) : isNum l a = false := by simp [isNum, List.getElem?_eq_none (show l.length ≤ a by omega)]
theorem isNm_get {l : List Tok} {a : Nat} (h : a < l.length) : isNm l a = (decide (l[a].kind = 1) && !hasW l[a].text) := by simp [isNm, h]
theorem isNm_end {l : List Tok} {a : Nat} (h : ¬ a < l.length) : isNm l a = false := by simp [isNm, List.getElem?_eq_none (show l.length ≤ a by omega)]
theorem isA_lt {l : List Tok} {a : Nat} {w : ByteArray} (h : isA l a w = true) : a < l.length := by
  rcases Nat.lt_or_ge a l.length with h' | h'
  · exact h'
  · rw [isA_end w (by omega)] at h; cases h
theorem isNum_lt {l : List Tok} {a : Nat} (h : isNum l a = true) : a < l.length := by
  rcases Nat.lt_or_ge a l.length with h' | h'
  · exact h'
  · rw [isNum_end (by omega)] at h; cases h
theorem isNm_lt {l : List Tok} {a : Nat} (h : isNm l a = true) : a < l.length := by
  rcases Nat.lt_or_ge a l.length with h' | h'
  · exact h'
  · rw [isNm_end (by omega)] at h; cases h

abbrev Pz (b : Nat) (l : List Tok) (a : Nat) : Ch := .blk b 55 [.list (l.map Tok.row), .val (.int .i64 (a : Int))]
section
variable {l : List Tok} {a b : Nat} (hl : l.length ≤ 1000000) (ha : a ≤ l.length)
include hl ha
omit hl in
theorem pis_c (w : ByteArray) : Con Tryd.prog 58 [Ptr b, Str w] [Pz b l a] (fun K => K (Bl (isA l a w)) [Pz b l a]) := by
  have eL : (l.map Tok.row).length = l.length := List.length_map _
  refine con_intro Tryd.func58 rfl rfl (Nat.le_of_ble_eq_true rfl) (fun c hc => R_ (E_ r_ (T_ (am_ (am_ (ao_ r_ r_ k_ k_ (yM_ r_ (yN_ r_ (yF_ r_ (yL_ 0 r_ (yM_ r_ (yN_ r_ (yF_ r_ (yL_ 0 r_ (aa_ (fun c => br_ r_ (fun hlen => p_)) ?_)))))))))))))))
  refine aa_ (fun c => cn_ r_ r_ p_) (ae_ (al_ (jc_condd rfl (fun hge => ?_) (fun hlt => ?_))))
  · have e := isA_end w (show ¬ a < l.length by omega)
    refine R_ (E_ r_ (T_ (ar_ (aw_ (jq_ret1 rfl rfl [0] rfl (fun K h => by rw [e] at h; exact h))))))
  · have hlt' : a < l.length := by omega
    have e := isA_get w hlt'
    refine as_ (al_ (am_ (jc_anyB 11 (some 10) rfl k_ k_ (yM_ r_ (yN_ r_ (yF_ r_ (yL_ 0 r_ (yM_ r_ (yN_ r_ (yF_ r_ (yL_ 0 r_ (aa_ (fun c => cc_ r_ r_ g_ r_ r_ b_ p_) (aa_ (fun c => cr_ r_ r_ r_ p_) (af_ (ae_ ?_)))))))))))))))
    refine afin_some rfl rfl rfl (fun bT => ?_)
    by_cases hk : l[a].kind = 2
    · have hkn : ¬ ¬ l[a].kind = 2 := fun h => h hk
      refine S_ 0 r_ (T_ (R_ (F_ r_ (L_ 0 r_ (o_ r_ (bx_ r_ r_ (M_ r_ (ai_ r_ w_ b_ (ai_ r_ w_ b_ (ai_ r_ w_ b_ (ai_ r_ w_ b_ (o_ r_ (bv_ r_ w_ r_ (E_ r_ (T_ (ar_ (jq_ret1 rfl rfl [1] rfl (fun K h => by rw [e, decide_eq_true hk] at h; exact h))))))))))))))))))
    · refine S_ 0 r_ (T_ (R_ (F_ r_ (L_ 0 r_ (o_ r_ (bx_ r_ r_ (M_ r_ (ah_ r_ u_ b_ (bf_ r_ r_ r_ b_ (ah_ r_ u_ b_ (bg_ 0 r_ r_ r_ r_ (ah_ r_ u_ b_ (bd_ r_ (ah_ r_ u_ b_ (cs_ r_ r_ (o_ r_ (bp_ r_ u_ r_ (E_ r_ (T_ (ar_ (jq_ret1 rfl rfl [1] rfl (fun K h => by rw [e, decide_eq_false hk] at h; exact h))))))))))))))))))))))
theorem phas_c (w : ByteArray) : Con Tryd.prog 35 [Ptr b, Str w] [Pz b l a] (fun K => K (Bl (isA l a w)) [Pz b l (if isA l a w then a + 1 else a)]) := by
  refine con_intro Tryd.func35 rfl rfl (Nat.le_of_ble_eq_true rfl) (fun c hc => R_ (E_ r_ (T_ (R_ (M_ r_ (M_ r_ (o_ r_ (bi_ [0] r_ r_ (pis_c ha w) (E_ r_ (T_ (am_ (R_ (M_ r_ (T_ (jc_cond rfl (fun hy => ?_) (fun hn => ?_))))))))))))))))
  · have hlt := isA_lt hy
    refine an_ (M_ r_ (N_ r_ (F_ r_ (L_ 0 r_ (o_ r_ (bj_ r_ r_ g_ (N_ r_ (F_ r_ (W_ 0 r_ (T_ (R_ (M_ r_ (E_ r_ (T_ (ar_ (jq_ret1 rfl rfl [0] rfl (fun K h => by rw [hy] at h; rw [hy]; exact h)))))))))))))))))
  · refine as_ (al_ (R_ (M_ r_ (E_ r_ (T_ (ar_ (jq_ret1 rfl rfl [0] rfl (fun K h => by rw [hn] at h; rw [hn]; exact h))))))))
omit hl in
theorem pnamed_c : Con Tryd.prog 59 [Ptr b] [Pz b l a] (fun K => K (Bl (isNm l a)) [Pz b l a]) := by
  have eL : (l.map Tok.row).length = l.length := List.length_map _
  refine con_intro Tryd.func59 rfl rfl (Nat.le_of_ble_eq_true rfl) (fun c hc => ?_)
  by_cases hlt : a < l.length
  · have e := isNm_get hlt
    by_cases hk : l[a].kind = 1
    · refine R_ (E_ r_ (T_ (am_ (ao_ r_ r_ k_ k_ (yM_ r_ (yN_ r_ (yF_ r_ (yL_ 0 r_ (yM_ r_ (yN_ r_ (yF_ r_ (yL_ 0 r_ (aa_ (fun c => br_ r_ (fun hlen => p_)) (aa_ (fun c => bw_ r_ r_ p_) (yM_ r_ ?_)))))))))))))))
      refine ab_ r_ t_ (fun c => bd_ r_ p_) (ab_ r_ t_ (fun c => bh_ r_ p_) (ab_ r_ t_ (fun c => bf_ r_ r_ r_ b_ p_) (ab_ r_ t_ (fun c => bg_ 0 r_ r_ r_ r_ p_) (ab_ r_ t_ (fun c => bd_ r_ p_) (ab_ r_ t_ (fun c => bh_ r_ p_) (ab_ r_ t_ (fun c => bf_ r_ r_ r_ b_ p_) (ab_ r_ t_ (fun c => bg_ 0 r_ r_ r_ r_ p_) (ab_ r_ t_ (fun c => cc_ r_ r_ g_ r_ r_ b_ p_) (ab_ r_ t_ (fun c => cf_ r_ r_ r_ b_ r_ b_ p_) ?_)))))))))
      refine ab_ r_ t_ (fun c => cb_ r_ r_ p_) (ab_ r_ t_ (fun c => bn_ r_ r_ p_) (aa_ (fun c => bp_ r_ t_ r_ p_) (yM_ r_ (ab_ r_ t_ (fun c => bd_ r_ p_) (ab_ r_ t_ (fun c => bh_ r_ p_) (ab_ r_ t_ (fun c => bf_ r_ r_ r_ b_ p_) (ab_ r_ t_ (fun c => bg_ 0 r_ r_ r_ r_ p_) (ab_ r_ t_ (fun c => bd_ r_ p_) (ab_ r_ t_ (fun c => bh_ r_ p_) (ab_ r_ t_ (fun c => bf_ r_ r_ r_ b_ p_) (ab_ r_ t_ (fun c => bg_ 0 r_ r_ r_ r_ p_) ?_)))))))))))
      refine ab_ r_ t_ (fun c => cc_ r_ r_ g_ r_ r_ b_ p_) (ab_ r_ t_ (fun c => cf_ r_ r_ r_ b_ r_ b_ p_) (ab_ r_ t_ (fun c => cb_ r_ r_ p_) (ab_ r_ t_ (fun c => bm_ r_ (Keyword_c _) p_) (ab_ r_ t_ (fun c => cd_ r_ p_) (aa_ (fun c => bp_ r_ u_ r_ p_) (yE_ r_ (ae_ (al_ (ar_ (jq_ret1 rfl rfl [0] rfl (fun K h => by rw [e, decide_eq_true hk, Bool.true_and] at h; exact h)))))))))))
    · refine R_ (E_ r_ (T_ (am_ (ao_ r_ r_ k_ k_ (yM_ r_ (yN_ r_ (yF_ r_ (yL_ 0 r_ (yM_ r_ (yN_ r_ (yF_ r_ (yL_ 0 r_ (aa_ (fun c => br_ r_ (fun hlen => p_)) (aa_ (fun c => bw_ r_ r_ p_) (yM_ r_ ?_)))))))))))))))
      refine ab_ r_ t_ (fun c => bd_ r_ p_) (ab_ r_ t_ (fun c => bh_ r_ p_) (ab_ r_ t_ (fun c => bf_ r_ r_ r_ b_ p_) (ab_ r_ t_ (fun c => bg_ 0 r_ r_ r_ r_ p_) (ab_ r_ t_ (fun c => bd_ r_ p_) (ab_ r_ t_ (fun c => bh_ r_ p_) (ab_ r_ t_ (fun c => bf_ r_ r_ r_ b_ p_) (ab_ r_ t_ (fun c => bg_ 0 r_ r_ r_ r_ p_) (ab_ r_ t_ (fun c => cc_ r_ r_ g_ r_ r_ b_ p_) (ab_ r_ t_ (fun c => cf_ r_ r_ r_ b_ r_ b_ p_) ?_)))))))))
      refine ab_ r_ t_ (fun c => cb_ r_ r_ p_) (ab_ r_ t_ (fun c => bn_ r_ r_ p_) (aa_ (fun c => bp_ r_ t_ r_ p_) (yM_ r_ (ac_ r_ w_ (ac_ r_ w_ (ac_ r_ w_ (ac_ r_ w_ (ac_ r_ w_ (ac_ r_ w_ (ac_ r_ w_ (ac_ r_ w_ (ac_ r_ w_ (ac_ r_ w_ (ac_ r_ w_ (ac_ r_ w_ ?_)))))))))))))))
      refine ac_ r_ w_ (aa_ (fun c => bv_ r_ w_ r_ p_) (yE_ r_ (ae_ (al_ (ar_ (jq_ret1 rfl rfl [0] rfl (fun K h => by rw [e, decide_eq_false hk] at h; exact h)))))))
  · have e := isNm_end hlt
    have hlt2 : ¬ (a : Int) < l.length := by omega
    refine R_ (E_ r_ (T_ (am_ (ao_ r_ r_ k_ k_ (yM_ r_ (yN_ r_ (yF_ r_ (yL_ 0 r_ (yM_ r_ (yN_ r_ (yF_ r_ (yL_ 0 r_ (aa_ (fun c => br_ r_ (fun hlen => p_)) (aa_ (fun c => bw_ r_ r_ p_) (yM_ r_ ?_)))))))))))))))
    refine ac_ r_ v_ (ac_ r_ v_ (ac_ r_ v_ (ac_ r_ v_ (ac_ r_ v_ (ac_ r_ v_ (ac_ r_ v_ (ac_ r_ v_ (ac_ r_ v_ (ac_ r_ v_ (ac_ r_ v_ (ac_ r_ v_ (aa_ (fun c => bv_ r_ v_ r_ p_) (yM_ r_ (ac_ r_ r_ (ac_ r_ r_ ?_)))))))))))))))
    refine ac_ r_ r_ (ac_ r_ r_ (ac_ r_ r_ (ac_ r_ r_ (ac_ r_ r_ (ac_ r_ r_ (ac_ r_ r_ (ac_ r_ r_ (ac_ r_ r_ (ac_ r_ r_ (ac_ r_ r_ (aa_ (fun c => bv_ r_ r_ r_ p_) (yE_ r_ (ae_ (al_ (ar_ ?_)))))))))))))))
    refine jq_ret1 rfl rfl [0] rfl (fun K h => by rw [e] at h; exact h)
omit hl in
theorem pnumbered_c : Con Tryd.prog 61 [Ptr b] [Pz b l a] (fun K => K (Bl (isNum l a)) [Pz b l a]) := by
  have eL : (l.map Tok.row).length = l.length := List.length_map _
  refine con_intro Tryd.func61 rfl rfl (Nat.le_of_ble_eq_true rfl) (fun c hc => ?_)
  by_cases hlt : a < l.length
  · have e := isNum_get hlt
    refine R_ (E_ r_ (T_ (am_ (ao_ r_ r_ k_ k_ (yM_ r_ (yN_ r_ (yF_ r_ (yL_ 0 r_ (yM_ r_ (yN_ r_ (yF_ r_ (yL_ 0 r_ (aa_ (fun c => br_ r_ (fun hlen => p_)) (aa_ (fun c => bw_ r_ r_ p_) (yM_ r_ ?_)))))))))))))))
    refine ab_ r_ t_ (fun c => bd_ r_ p_) (ab_ r_ t_ (fun c => bh_ r_ p_) (ab_ r_ t_ (fun c => bf_ r_ r_ r_ b_ p_) (ab_ r_ t_ (fun c => bg_ 0 r_ r_ r_ r_ p_) (ab_ r_ t_ (fun c => bd_ r_ p_) (ab_ r_ t_ (fun c => bh_ r_ p_) (ab_ r_ t_ (fun c => bf_ r_ r_ r_ b_ p_) (ab_ r_ t_ (fun c => bg_ 0 r_ r_ r_ r_ p_) (ab_ r_ t_ (fun c => cc_ r_ r_ g_ r_ r_ b_ p_) (ab_ r_ t_ (fun c => cf_ r_ r_ r_ b_ r_ b_ p_) ?_)))))))))
    refine ab_ r_ t_ (fun c => cb_ r_ r_ p_) (ab_ r_ t_ (fun c => bn_ r_ r_ p_) (aa_ (fun c => bp_ r_ t_ r_ p_) (yE_ r_ (ae_ (al_ (ar_ (jq_ret1 rfl rfl [0] rfl (fun K h => by rw [e] at h; exact h))))))))
  · have e := isNum_end hlt
    refine R_ (E_ r_ (T_ (am_ (ao_ r_ r_ k_ k_ (yM_ r_ (yN_ r_ (yF_ r_ (yL_ 0 r_ (yM_ r_ (yN_ r_ (yF_ r_ (yL_ 0 r_ (aa_ (fun c => br_ r_ (fun hlen => p_)) (aa_ (fun c => bw_ r_ r_ p_) (yM_ r_ ?_)))))))))))))))
    refine ac_ r_ v_ (ac_ r_ v_ (ac_ r_ v_ (ac_ r_ v_ (ac_ r_ v_ (ac_ r_ v_ (ac_ r_ v_ (ac_ r_ v_ (ac_ r_ v_ (ac_ r_ v_ (ac_ r_ v_ (ac_ r_ v_ (aa_ (fun c => bv_ r_ v_ r_ p_) (yE_ r_ (ae_ (al_ ?_)))))))))))))))
    refine ar_ (jq_ret1 rfl rfl [0] rfl (fun K h => by rw [e] at h; exact h))
end
end Go.Proofs.YtlniadfidfmckaaDoor
end

section
namespace Go.Proofs.YtlniadfidfmckaaDoor
open Go.Vc
attribute [local irreducible] JL JC JQ OpWp Con ConN Pan ConE OpPan hasW idxW isA isNum isNm numAt txtAt lineAt
set_option maxHeartbeats 4000000

def stopV (l : List Tok) (code : Int) (p : Nat) : Value := .iface 57 (.agg #[.int .i64 (lineAt l p), .int .i64 code])
theorem lineAt_get {l : List Tok} {p : Nat} (h : min p (l.length - 1) < l.length) : lineAt l p = l[min p (l.length - 1)].line := by simp [lineAt, h]
theorem numAt_get {l : List Tok} {a : Nat} (h : a < l.length) : numAt l a = l[a].num := by simp [numAt, h]
theorem txtAt_get {l : List Tok} {a : Nat} (h : a < l.length) : txtAt l a = l[a].text := by simp [txtAt, h]
theorem txtAt_getI {l : List Tok} {a : Nat} {m : Int} (h : m.toNat < l.length) (hm : m.toNat = a) : txtAt l a = l[m.toNat].text := by subst hm; exact txtAt_get h
theorem numAt_getI {l : List Tok} {a : Nat} {m : Int} (h : m.toNat < l.length) (hm : m.toNat = a) : numAt l a = l[m.toNat].num := by subst hm; exact numAt_get h
abbrev ngI (n : Int) : Int := IntKind.i64.wrap (-n)
section
variable {l : List Tok} {a b : Nat} (hl : l.length ≤ 1000000) (ha : a ≤ l.length)
include hl
theorem pfail_c (code : Int) (p : Nat) (hp : p ≤ 2000000) : Pan Tryd.prog 60 [Ptr b, In .i64 code, In .i64 (p : Int)] [Pz b l a] (stopV l code p) := by
  have eL : (l.map Tok.row).length = l.length := List.length_map _
  refine pan_intro Tryd.func60 rfl rfl (Nat.le_of_ble_eq_true rfl) (fun c hc => R_ (E_ r_ (T_ (am_ (R_ (M_ r_ (N_ r_ (F_ r_ (L_ 0 r_ (o_ r_ (br_ r_ (fun hlen => E_ r_ (T_ (R_ (M_ r_ (o_ r_ (bz_ r_ r_ ?_)))))))))))))))))
  refine T_ (jc_condd rfl (fun hpos => ?_) (fun hz => ?_))
  · have hm : min p (l.length - 1) < l.length := by omega
    have e : lineAt l p = l[min p (l.length - 1)].line := lineAt_get hm
    have e2 : max (0 : Int) (min (p : Int) (((l.map Tok.row).length : Int) - 1)) = ((min p (l.length - 1) : Nat) : Int) := by omega
    refine an_ (M_ r_ (N_ r_ (F_ r_ (L_ 0 r_ (M_ r_ (M_ r_ (o_ r_ (cg_ r_ r_ g_ (o_ r_ (cl_ r_ r_ (o_ r_ (ck_ r_ r_ ?_))))))))))))
    rw [e2]
    refine o_ r_ (cc_ r_ r_ g_ r_ r_ b_ (o_ r_ (cf_ r_ r_ r_ b_ r_ b_ (o_ r_ (cb_ r_ r_ (E_ r_ (T_ (an_ (M_ r_ (M_ r_ (o_ r_ (bu_ r_ r_ r_ r_ r_ (o_ r_ (ow_makeIface (vs := [.int .i64 l[min p (l.length - 1)].line, .int .i64 code]) r_ r_ ?_))))))))))))))
    exact jl_pan (op_panic rfl) (by (repeat (first | refine pq_then ?_ | refine pq_block ?_)); exact pq_fin (by rw [stopV, e]))
  · obtain rfl : l = [] := List.eq_nil_of_length_eq_zero (by omega)
    refine as_ (al_ (an_ (M_ r_ (M_ r_ (o_ r_ (bu_ r_ r_ r_ r_ r_ (o_ r_ (ow_makeIface (vs := [.int .i64 1, .int .i64 code]) r_ r_ ?_))))))))
    exact jl_pan (op_panic rfl) (by (repeat (first | refine pq_then ?_ | refine pq_block ?_)); exact pq_fin (by rw [stopV, lineAt]; rfl))
include ha
theorem pword_ok (w : ByteArray) (h : isA l a w = true) : Con Tryd.prog 38 [Ptr b, Str w] [Pz b l a] (fun K => K (.tup []) [Pz b l (a + 1)]) := by
  have hP := phas_c (b := b) hl ha w
  rw [h, if_pos rfl] at hP
  refine con_intro Tryd.func38 rfl rfl (Nat.le_of_ble_eq_true rfl) (fun c hc => R_ (M_ r_ (M_ r_ (o_ r_ (bi_ [0] r_ r_ hP (o_ r_ (cd_ r_ (T_ (jc_cond rfl (fun h => by cases h) (fun _ => as_ (jq_ret0 (.inr rfl) rfl [0] rfl (fun K h => h))))))))))))
theorem pword_er (w : ByteArray) (h : isA l a w = false) : Pan Tryd.prog 38 [Ptr b, Str w] [Pz b l a] (stopV l 1 a) := by
  have hP := phas_c (b := b) hl ha w
  rw [h, if_neg Bool.false_ne_true] at hP
  refine pan_intro Tryd.func38 rfl rfl (Nat.le_of_ble_eq_true rfl) (fun c hc => R_ (M_ r_ (M_ r_ (o_ r_ (bi_ [0] r_ r_ hP (o_ r_ (cd_ r_ (T_ (jc_cond rfl (fun _ => an_ (M_ r_ (M_ r_ (N_ r_ (F_ r_ (L_ 0 r_ ?_)))))) (fun h => by cases h))))))))))
  exact jl_pan (op_pan [0] rfl rfl (pfail_c hl 1 a g_)) (by (repeat (first | refine pq_then ?_ | refine pq_block ?_)); exact pq_fin (rfl))
theorem pname_ok (h : isNm l a = true) : Con Tryd.prog 36 [Ptr b] [Pz b l a] (fun K => K (Str (txtAt l a)) [Pz b l (a + 1)]) := by
  have eL : (l.map Tok.row).length = l.length := List.length_map _
  have hP := pnamed_c (b := b) ha
  rw [h] at hP
  have hlt := isNm_lt h
  have e := txtAt_get hlt
  refine con_intro Tryd.func36 rfl rfl (Nat.le_of_ble_eq_true rfl) (fun c hc => R_ (E_ r_ (T_ (am_ (R_ (M_ r_ (o_ r_ (bi_ [0] r_ r_ hP (o_ r_ (cd_ r_ (T_ (jc_cond rfl (fun h => by cases h) (fun _ => as_ (al_ (R_ (M_ r_ (N_ r_ ?_)))))))))))))))))
  refine F_ r_ (L_ 0 r_ (o_ r_ (bj_ r_ r_ g_ (N_ r_ (F_ r_ (W_ 0 r_ (T_ (am_ (ao_ r_ r_ k_ k_ (yM_ r_ (yN_ r_ (yF_ r_ (yL_ 0 r_ (yM_ r_ (yN_ r_ (yF_ r_ ?_))))))))))))))))
  refine yL_ 0 r_ (aa_ (fun c => cg_ r_ r_ g_ p_) (aa_ (fun c => cv_ r_ r_ g_ g_ r_ r_ b_ p_) (aa_ (fun c => cf_ r_ r_ r_ b_ r_ b_ p_) (aa_ (fun c => cb_ r_ r_ p_) (yE_ r_ (ae_ (al_ (ar_ (jq_ret1 rfl rfl [0] rfl (fun K h => by rw [txtAt_getI (m := (a : Int) + 1 - 1) g_ g_] at h; exact h))))))))))
theorem pname_er (h : isNm l a = false) : Pan Tryd.prog 36 [Ptr b] [Pz b l a] (stopV l 1 a) := by
  have hP := pnamed_c (b := b) ha
  rw [h] at hP
  refine pan_intro Tryd.func36 rfl rfl (Nat.le_of_ble_eq_true rfl) (fun c hc => R_ (E_ r_ (T_ (am_ (R_ (M_ r_ (o_ r_ (bi_ [0] r_ r_ hP (o_ r_ (cd_ r_ (T_ (jc_cond rfl (fun _ => an_ (M_ r_ (M_ r_ (N_ r_ (F_ r_ ?_))))) (fun h => by cases h)))))))))))))
  refine L_ 0 r_ ?_
  exact jl_pan (op_pan [0] rfl rfl (pfail_c hl 1 a g_)) (by (repeat (first | refine pq_then ?_ | refine pq_block ?_)); exact pq_fin (rfl))
theorem pnum_ok (h : isNum l a = true) : Con Tryd.prog 37 [Ptr b] [Pz b l a] (fun K => K (In .i64 (numAt l a)) [Pz b l (a + 1)]) := by
  have eL : (l.map Tok.row).length = l.length := List.length_map _
  have hP := pnumbered_c (b := b) ha
  rw [h] at hP
  have hlt := isNum_lt h
  refine con_intro Tryd.func37 rfl rfl (Nat.le_of_ble_eq_true rfl) (fun c hc => R_ (E_ r_ (T_ (am_ (R_ (M_ r_ (o_ r_ (bi_ [0] r_ r_ hP (o_ r_ (cd_ r_ (T_ (jc_cond rfl (fun h => by cases h) (fun _ => as_ (al_ (R_ (M_ r_ (N_ r_ ?_)))))))))))))))))
  refine F_ r_ (L_ 0 r_ (o_ r_ (bj_ r_ r_ g_ (N_ r_ (F_ r_ (W_ 0 r_ (T_ (am_ (ao_ r_ r_ k_ k_ (yM_ r_ (yN_ r_ (yF_ r_ (yL_ 0 r_ (yM_ r_ (yN_ r_ (yF_ r_ ?_))))))))))))))))
  refine yL_ 0 r_ (aa_ (fun c => cg_ r_ r_ g_ p_) (aa_ (fun c => cv_ r_ r_ g_ g_ r_ r_ b_ p_) (aa_ (fun c => cf_ r_ r_ r_ b_ r_ b_ p_) (aa_ (fun c => cb_ r_ r_ p_) (yE_ r_ (ae_ (al_ (ar_ (jq_ret1 rfl rfl [0] rfl (fun K h => by rw [numAt_getI (m := (a : Int) + 1 - 1) g_ g_] at h; exact h))))))))))
theorem pnum_er (h : isNum l a = false) : Pan Tryd.prog 37 [Ptr b] [Pz b l a] (stopV l 1 a) := by
  have hP := pnumbered_c (b := b) ha
  rw [h] at hP
  refine pan_intro Tryd.func37 rfl rfl (Nat.le_of_ble_eq_true rfl) (fun c hc => R_ (E_ r_ (T_ (am_ (R_ (M_ r_ (o_ r_ (bi_ [0] r_ r_ hP (o_ r_ (cd_ r_ (T_ (jc_cond rfl (fun _ => an_ (M_ r_ (M_ r_ (N_ r_ (F_ r_ ?_))))) (fun h => by cases h)))))))))))))
  refine L_ 0 r_ ?_
  exact jl_pan (op_pan [0] rfl rfl (pfail_c hl 1 a g_)) (by (repeat (first | refine pq_then ?_ | refine pq_block ?_)); exact pq_fin (rfl))
end

theorem idxW_bd (L : List ByteArray) (s : ByteArray) : -1 ≤ idxW L s ∧ idxW L s ≤ L.length := by
  unfold idxW
  cases h : L.findIdx? (fun w => decide (w = s)) with
  | none => simp only; omega
  | some i =>
    obtain ⟨hi, _⟩ := List.findIdx?_eq_some_iff_getElem.1 h
    simp only; omega
theorem Operator_c (s : ByteArray) : Con Tryd.prog 66 [Str s] [] (fun K => K (In .i64 (idxW signL s + 1)) []) := by
  have hb := idxW_bd signL s
  have e14 : signL.length = 14 := rfl
  refine con_intro Tryd.func66 rfl rfl (Nat.le_of_ble_eq_true rfl) (fun c hc => R_ (E_ r_ (T_ (R_ (o_ r_ (ow_sliceG (rows := signL.map Wrow) (e := 9) (n := 14) gl_signs rfl rfl rfl b_ (by unfold maxLen; omega) rfl (M_ r_ (o_ r_ (bm_ r_ (Index_c signL s) (o_ r_ (bj_ r_ r_ g_ (E_ r_ (T_ (ar_ (jq_ret1 rfl rfl [] rfl (fun K h => h))))))))))))))))
/-- The operator, of some, that stands at a place. -/
def opAt (l : List Tok) (L : List ByteArray) (a : Nat) : Option Int := match l[a]? with | some t => if t.kind = 3 ∧ (L.any fun w => decide (w = t.text)) = true then some (idxW signL t.text + 1) else none | none => none
theorem one_c (b : Nat) (L : List ByteArray) : Con Tryd.prog 42 [Ptr b, .cell (.list (L.map Wrow))] [] (fun K => ∀ p : Nat × Nat, True → K (.cell (.val (.func (.func 65) #[] #[.pointer (some ⟨p.1, 0, none⟩), .pointer (some ⟨p.2, 0, none⟩)]))) [.blk p.1 29 [.list (L.map Wrow)], .blk p.2 53 [.val (.pointer (some ⟨b, 0, none⟩))]]) := by
  refine con_intro Tryd.func42 rfl rfl (Nat.le_of_ble_eq_true rfl) (fun c hc => R_ (o_ r_ (cj_ r_ (fun bx => o_ r_ (cj_ r_ (fun bx => E_ r_ (T_ (R_ ?_))))))))
  rename_i b1
  refine o_ r_ (ow_makeFunc r_ (E_ r_ (T_ (ar_ (jq_ret1 rfl rfl [0, 0] rfl (fun K h => h (bx, b1) trivial))))))
end Go.Proofs.YtlniadfidfmckaaDoor
end

section
namespace Go.Proofs.YtlniadfidfmckaaDoor
open Go.Vc
attribute [local irreducible] JL JC JQ OpWp Con ConN Pan ConE OpPan hasW idxW isA isNum isNm numAt txtAt lineAt
set_option maxHeartbeats 4000000

theorem opAt_end {l : List Tok} {L : List ByteArray} {a : Nat} (h : ¬ a < l.length) : opAt l L a = none := by simp [opAt, List.getElem?_eq_none (show l.length ≤ a by omega)]
theorem opAt_get {l : List Tok} (L : List ByteArray) {a : Nat} (h : a < l.length) : opAt l L a = if l[a].kind = 3 ∧ (L.any fun w => decide (w = l[a].text)) = true then some (idxW signL l[a].text + 1) else none := by simp [opAt, h]
def opV (l : List Tok) (L : List ByteArray) (a : Nat) : Int := (opAt l L a).getD 0
def opN (l : List Tok) (L : List ByteArray) (a : Nat) : Nat := if (opAt l L a).isSome then a + 1 else a
abbrev Cap1 (p : Nat) (L : List ByteArray) : Ch := .blk p 29 [.list (L.map Wrow)]
abbrev Cap2 (p b : Nat) : Ch := .blk p 53 [.val (.pointer (some ⟨b, 0, none⟩))]
theorem op1_c {l : List Tok} {a b p q : Nat} (hl : l.length ≤ 1000000) (ha : a ≤ l.length) (L : List ByteArray) : Con Tryd.prog 65 [Ptr p, Ptr q] [Cap1 p L, Cap2 q b, Pz b l a] (fun K => K (In .i64 (opV l L a)) [Cap1 p L, Cap2 q b, Pz b l (opN l L a)]) := by
  have eL : (L.map Wrow).length = L.length := List.length_map _
  have el : (l.map Tok.row).length = l.length := List.length_map _
  refine con_intro Tryd.func65 rfl rfl (Nat.le_of_ble_eq_true rfl) (fun c hc => R_ (E_ r_ (T_ (am_ (R_ (L_ 0 r_ (o_ r_ (br_ r_ (fun hlen => M_ r_ (T_ (au_ ?_)))))))))))
  refine jc_loopS [] (fun k : Nat => k ≤ L.length ∧ ∀ j (hj : j < L.length), j < k → ∀ (h : a < l.length), l[a].kind = 3 → ¬ l[a].text = L[j]) (fun k => [(0, Ptr p), (1, Ptr q), (5, .cell (.list (L.map Wrow))), (6, In .i64 ((L.map Wrow).length : Int)), (7, In .i64 (k : Int))]) (fun _ => [Cap1 p L, Cap2 q b, Pz b l a]) (fun k => L.length - k) 0 ⟨Nat.zero_le _, fun j _ h => by omega⟩ ?_ ?_ ?_
  · exact bc_ 0 r_ (bc_ 0 r_ (bc_ 0 r_ sub_end))
  · (repeat (first | exact True.intro | refine ⟨rfl, ?_⟩))
  · rintro k ⟨hk, hno⟩
    refine jc_reset [(0, Ptr p), (1, Ptr q), (5, .cell (.list (L.map Wrow))), (6, In .i64 ((L.map Wrow).length : Int)), (7, In .i64 (k : Int))] [Cap1 p L, Cap2 q b, Pz b l a] ?_ ⟨[0, 0, 0], [], rfl⟩ ?_
    · (repeat (first | exact True.intro | refine ⟨rfl, ?_⟩))
    refine R_ (o_ r_ (bw_ r_ r_ (T_ (am_ (jc_condd rfl (fun hlt => ?_) (fun hge => ?_))))))
    · have hlt' : k < L.length := by omega
      by_cases h1 : a < l.length
      · by_cases h2 : l[a].kind = 3
        · refine as_ (al_ (B_ (R_ (o_ r_ (cc_ r_ r_ g_ r_ r_ b_ (o_ r_ (cb_ r_ r_ (E_ r_ (T_ (am_ (ao_ r_ r_ k_ k_ (yL_ 1 r_ (yN_ r_ (yF_ r_ (yL_ 2 r_ (yL_ 1 r_ (yN_ r_ ?_)))))))))))))))))
          refine yF_ r_ (yL_ 2 r_ (aa_ (fun c => br_ r_ (fun hlen => p_)) (aa_ (fun c => bw_ r_ r_ p_) (yM_ r_ (ab_ r_ t_ (fun c => bg_ 1 r_ r_ r_ r_ p_) (ab_ r_ t_ (fun c => bh_ r_ p_) (ab_ r_ t_ (fun c => bf_ r_ r_ r_ b_ p_) (ab_ r_ t_ (fun c => bg_ 2 r_ r_ r_ r_ p_) (ab_ r_ t_ (fun c => bg_ 1 r_ r_ r_ r_ p_) (ab_ r_ t_ (fun c => bh_ r_ p_) (ab_ r_ t_ (fun c => bf_ r_ r_ r_ b_ p_) ?_)))))))))))
          refine ab_ r_ t_ (fun c => bg_ 2 r_ r_ r_ r_ p_) (ab_ r_ t_ (fun c => cc_ r_ r_ g_ r_ r_ b_ p_) (ab_ r_ t_ (fun c => cf_ r_ r_ r_ b_ r_ b_ p_) (ab_ r_ t_ (fun c => cb_ r_ r_ p_) (ab_ r_ t_ (fun c => bn_ r_ r_ p_) (aa_ (fun c => bp_ r_ t_ r_ p_) (yM_ r_ (ab_ r_ t_ (fun c => bg_ 1 r_ r_ r_ r_ p_) (ab_ r_ t_ (fun c => bh_ r_ p_) (ab_ r_ t_ (fun c => bf_ r_ r_ r_ b_ p_) (ab_ r_ t_ (fun c => bg_ 2 r_ r_ r_ r_ p_) ?_))))))))))
          refine ab_ r_ t_ (fun c => bg_ 1 r_ r_ r_ r_ p_) (ab_ r_ t_ (fun c => bh_ r_ p_) (ab_ r_ t_ (fun c => bf_ r_ r_ r_ b_ p_) (ab_ r_ t_ (fun c => bg_ 2 r_ r_ r_ r_ p_) (ab_ r_ t_ (fun c => cc_ r_ r_ g_ r_ r_ b_ p_) (ab_ r_ t_ (fun c => cf_ r_ r_ r_ b_ r_ b_ p_) (ab_ r_ t_ (fun c => cb_ r_ r_ p_) (ab_ r_ t_ (fun c => bd_ r_ p_) (ab_ r_ t_ (fun c => cs_ r_ r_ p_) (aa_ (fun c => bp_ r_ u_ r_ p_) (ae_ (al_ ?_)))))))))))
          refine jc_condd rfl (fun h3 => ?_) (fun h3 => ?_)
          · have e : opAt l L a = some (idxW signL L[k] + 1) := by
              rw [opAt_get L h1, if_pos ⟨h2, List.any_eq_true.2 ⟨L[k], List.getElem_mem hlt', decide_eq_true h3.symm⟩⟩, h3]
            refine R_ (L_ 1 r_ (N_ r_ (F_ r_ (L_ 2 r_ (o_ r_ (bj_ r_ r_ g_ (N_ r_ (F_ r_ (W_ 2 r_ (T_ (R_ (M_ r_ (o_ r_ (bm_ r_ (Operator_c _) (E_ r_ (T_ (ar_ ?_)))))))))))))))))
            refine az_ (aw_ (aw_ (az_ (aw_ (jq_ret1 rfl rfl [1, 1, 0] rfl (fun K h => by rw [opV, opN, e] at h; exact h))))))
          · refine as_ (ay_ (al_ (an_ (o_ r_ (bj_ r_ r_ g_ (M_ r_ (ak_ (jq_againS (k + 1) ⟨by omega, fun j hj hjk h1' h2' => ?_⟩ g_ ?_ ?_))))))))
            · by_cases hjk' : j < k
              · exact hno j hj hjk' h1' h2'
              · obtain rfl : j = k := by omega
                exact h3
            · exact bc_ 0 r_ (bc_ 0 r_ (bc_ 0 r_ sub_end))
            · (repeat (first | exact True.intro | refine ⟨rfl, ?_⟩))
        · refine as_ (al_ (B_ (R_ (o_ r_ (cc_ r_ r_ g_ r_ r_ b_ (o_ r_ (cb_ r_ r_ (E_ r_ (T_ (am_ (ao_ r_ r_ k_ k_ (yL_ 1 r_ (yN_ r_ (yF_ r_ (yL_ 2 r_ (yL_ 1 r_ (yN_ r_ ?_)))))))))))))))))
          refine yF_ r_ (yL_ 2 r_ (aa_ (fun c => br_ r_ (fun hlen => p_)) (aa_ (fun c => bw_ r_ r_ p_) (yM_ r_ (ab_ r_ t_ (fun c => bg_ 1 r_ r_ r_ r_ p_) (ab_ r_ t_ (fun c => bh_ r_ p_) (ab_ r_ t_ (fun c => bf_ r_ r_ r_ b_ p_) (ab_ r_ t_ (fun c => bg_ 2 r_ r_ r_ r_ p_) (ab_ r_ t_ (fun c => bg_ 1 r_ r_ r_ r_ p_) (ab_ r_ t_ (fun c => bh_ r_ p_) (ab_ r_ t_ (fun c => bf_ r_ r_ r_ b_ p_) ?_)))))))))))
          refine ab_ r_ t_ (fun c => bg_ 2 r_ r_ r_ r_ p_) (ab_ r_ t_ (fun c => cc_ r_ r_ g_ r_ r_ b_ p_) (ab_ r_ t_ (fun c => cf_ r_ r_ r_ b_ r_ b_ p_) (ab_ r_ t_ (fun c => cb_ r_ r_ p_) (ab_ r_ t_ (fun c => bn_ r_ r_ p_) (aa_ (fun c => bp_ r_ t_ r_ p_) (yM_ r_ (ac_ r_ w_ (ac_ r_ w_ (ac_ r_ w_ (ac_ r_ w_ (ac_ r_ w_ (ac_ r_ w_ (ac_ r_ w_ (ac_ r_ w_ (ac_ r_ w_ ?_)))))))))))))))
          refine ac_ r_ w_ (ac_ r_ w_ (ac_ r_ w_ (ac_ r_ w_ (aa_ (fun c => bv_ r_ w_ r_ p_) (ae_ (al_ (jc_cond rfl (fun h => by cases h) (fun _ => as_ (ay_ (al_ (an_ (o_ r_ (bj_ r_ r_ g_ (M_ r_ (ak_ (jq_againS (k + 1) ⟨by omega, fun j hj hjk h1' h2' => absurd h2' h2⟩ g_ ?_ ?_))))))))))))))))
          · exact bc_ 0 r_ (bc_ 0 r_ (bc_ 0 r_ sub_end))
          · (repeat (first | exact True.intro | refine ⟨rfl, ?_⟩))
      · refine as_ (al_ (B_ (R_ (o_ r_ (cc_ r_ r_ g_ r_ r_ b_ (o_ r_ (cb_ r_ r_ (E_ r_ (T_ (am_ (ao_ r_ r_ k_ k_ (yL_ 1 r_ (yN_ r_ (yF_ r_ (yL_ 2 r_ (yL_ 1 r_ (yN_ r_ ?_)))))))))))))))))
        refine yF_ r_ (yL_ 2 r_ (aa_ (fun c => br_ r_ (fun hlen => p_)) (aa_ (fun c => bw_ r_ r_ p_) (yM_ r_ (ac_ r_ v_ (ac_ r_ v_ (ac_ r_ v_ (ac_ r_ v_ (ac_ r_ v_ (ac_ r_ v_ (ac_ r_ v_ (ac_ r_ v_ (ac_ r_ v_ (ac_ r_ v_ (ac_ r_ v_ ?_)))))))))))))))
        refine ac_ r_ v_ (aa_ (fun c => bv_ r_ v_ r_ p_) (yM_ r_ (ac_ r_ r_ (ac_ r_ r_ (ac_ r_ r_ (ac_ r_ r_ (ac_ r_ r_ (ac_ r_ r_ (ac_ r_ r_ (ac_ r_ r_ (ac_ r_ r_ (ac_ r_ r_ (ac_ r_ r_ (ac_ r_ r_ (ac_ r_ r_ ?_)))))))))))))))
        refine aa_ (fun c => bv_ r_ r_ r_ p_) (ae_ (al_ (jc_cond rfl (fun h => by cases h) (fun _ => as_ (ay_ (al_ (an_ (o_ r_ (bj_ r_ r_ g_ (M_ r_ (ak_ (jq_againS (k + 1) ⟨by omega, fun j hj hjk h1' h2' => absurd h1' h1⟩ g_ ?_ ?_))))))))))))
        · exact bc_ 0 r_ (bc_ 0 r_ (bc_ 0 r_ sub_end))
        · (repeat (first | exact True.intro | refine ⟨rfl, ?_⟩))
    · have e : opAt l L a = none := by
        by_cases h1 : a < l.length
        · rw [opAt_get L h1, if_neg]
          rintro ⟨h2, h3⟩
          obtain ⟨w, hw, h4⟩ := List.any_eq_true.1 h3
          obtain ⟨j, hj, rfl⟩ := List.mem_iff_getElem.1 hw
          exact hno j hj g_ h1 h2 (of_decide_eq_true h4).symm
        · exact opAt_end h1
      refine av_ (ax_ (ax_ (ba_ (al_ (R_ (E_ r_ (T_ (ar_ (jq_ret1 rfl rfl [0, 0, 0] rfl (fun K h => by rw [opV, opN, e] at h; exact h))))))))))
end Go.Proofs.YtlniadfidfmckaaDoor
end

section
namespace Go.Proofs.YtlniadfidfmckaaDoor
open Go.Vc
attribute [local irreducible] JL JC JQ OpWp Con ConN Pan ConE OpPan hasW idxW isA isNum isNm numAt txtAt lineAt opAt
set_option maxHeartbeats 4000000

section
variable {l : List Tok} {a b : Nat}
theorem numbered_y (ha : a ≤ l.length) (h : isNum l a = true) : Con Tryd.prog 61 [Ptr b] [Pz b l a] (fun K => K (Bl true) [Pz b l a]) := by have := pnumbered_c (b := b) ha; rwa [h] at this
theorem numbered_n (ha : a ≤ l.length) (h : isNum l a = false) : Con Tryd.prog 61 [Ptr b] [Pz b l a] (fun K => K (Bl false) [Pz b l a]) := by have := pnumbered_c (b := b) ha; rwa [h] at this
theorem named_y (ha : a ≤ l.length) (h : isNm l a = true) : Con Tryd.prog 59 [Ptr b] [Pz b l a] (fun K => K (Bl true) [Pz b l a]) := by have := pnamed_c (b := b) ha; rwa [h] at this
theorem named_n (ha : a ≤ l.length) (h : isNm l a = false) : Con Tryd.prog 59 [Ptr b] [Pz b l a] (fun K => K (Bl false) [Pz b l a]) := by have := pnamed_c (b := b) ha; rwa [h] at this
theorem is_y {w : ByteArray} (ha : a ≤ l.length) (h : isA l a w = true) : Con Tryd.prog 58 [Ptr b, Str w] [Pz b l a] (fun K => K (Bl true) [Pz b l a]) := by have := pis_c (b := b) ha w; rwa [h] at this
theorem is_n {w : ByteArray} (ha : a ≤ l.length) (h : isA l a w = false) : Con Tryd.prog 58 [Ptr b, Str w] [Pz b l a] (fun K => K (Bl false) [Pz b l a]) := by have := pis_c (b := b) ha w; rwa [h] at this
theorem has_y {w : ByteArray} (hl : l.length ≤ 1000000) (ha : a ≤ l.length) (h : isA l a w = true) : Con Tryd.prog 35 [Ptr b, Str w] [Pz b l a] (fun K => K (Bl true) [Pz b l (a + 1)]) := by have := phas_c (b := b) hl ha w; rwa [h, if_pos rfl] at this
theorem has_n {w : ByteArray} (hl : l.length ≤ 1000000) (ha : a ≤ l.length) (h : isA l a w = false) : Con Tryd.prog 35 [Ptr b, Str w] [Pz b l a] (fun K => K (Bl false) [Pz b l a]) := by have := phas_c (b := b) hl ha w; rwa [h, if_neg Bool.false_ne_true] at this
end

theorem op1_none {l : List Tok} {a b : Nat} (hl : l.length ≤ 1000000) (ha : a ≤ l.length) {L : List ByteArray} (h : opAt l L a = none) (p q : Nat) : Con Tryd.prog 65 [Ptr p, Ptr q] [Cap1 p L, Cap2 q b, Pz b l a] (fun K => K (In .i64 0) [Cap1 p L, Cap2 q b, Pz b l a]) := by
  have := op1_c (b := b) (p := p) (q := q) hl ha L
  rw [opV, opN, h] at this
  exact this
theorem op1_some {l : List Tok} {a b : Nat} (hl : l.length ≤ 1000000) (ha : a ≤ l.length) {L : List ByteArray} {o : Int} (h : opAt l L a = some o) (p q : Nat) : Con Tryd.prog 65 [Ptr p, Ptr q] [Cap1 p L, Cap2 q b, Pz b l a] (fun K => K (In .i64 o) [Cap1 p L, Cap2 q b, Pz b l (a + 1)]) := by
  have := op1_c (b := b) (p := p) (q := q) hl ha L
  rw [opV, opN, h] at this
  exact this

def lpx (l : List Tok) (L : List ByteArray) (sub : Nat → Option (T × Nat)) : Nat → T → Nat → T × Nat
  | 0, x, a => (x, a)
  | n + 1, x, a => match opAt l L a with
    | none => (x, a)
    | some o => match sub (a + 1) with
      | none => (x, a)
      | some (y, b) => lpx l L sub n (.bn o x y) b
/-- The operators of a line of the grammar: 0 comparisons, 1 sums, 2 terms. -/
def opsL : Nat → List ByteArray
  | 0 => cmpL
  | 1 => addL
  | _ => mulL
abbrev W40 : ByteArray := ⟨#[40]⟩
abbrev W41 : ByteArray := ⟨#[41]⟩
abbrev W45 : ByteArray := ⟨#[45]⟩
abbrev W91 : ByteArray := ⟨#[91]⟩
abbrev W93 : ByteArray := ⟨#[93]⟩
def inx (l : List Tok) (w : ByteArray) : Option (T × Nat) → Option (T × Nat)
  | some (x, b) => if isA l b w = true then some (x, b + 1) else none
  | none => none
def lx (l : List Tok) : Nat → Nat → Nat → Option (T × Nat)
  | 0, _, _ => none
  | F + 1, k, a =>
    if 3 ≤ k then
      if isNum l a = true then some (.nu (numAt l a), a + 1)
      else if isA l a W45 = true then
        if isNum l (a + 1) = true then some (.nu (ngI (numAt l (a + 1))), a + 2)
        else match lx l F 3 (a + 1) with
          | some (x, b) => some (.bn 2 (.nu 0) x, b)
          | none => none
      else if isNm l a = true then
        if isA l (a + 1) W91 = true then
          match inx l W93 (lx l F 0 (a + 2)) with
          | some (x, b) => some (.ix (txtAt l a) x, b)
          | none => some (.nm (txtAt l a), a + 1)
        else some (.nm (txtAt l a), a + 1)
      else if isA l a W40 = true then inx l W41 (lx l F 0 (a + 1))
      else none
    else match lx l F (k + 1) a with
      | none => none
      | some (x, b) => some (lpx l (opsL k) (lx l F (k + 1)) (if k = 0 then 1 else F) x b)
theorem opAt_lt {l : List Tok} {L : List ByteArray} {a : Nat} {o : Int} (h : opAt l L a = some o) : a < l.length := by
  rcases Nat.lt_or_ge a l.length with h' | h'
  · exact h'
  · rw [opAt_end (by omega)] at h; cases h
theorem lpx_none {l : List Tok} {L : List ByteArray} {sub : Nat → Option (T × Nat)} {a : Nat} (h : opAt l L a = none) (n : Nat) (x : T) : lpx l L sub n x a = (x, a) := by cases n <;> simp [lpx, h]
theorem lpx_stop {l : List Tok} {L : List ByteArray} {sub : Nat → Option (T × Nat)} {a : Nat} (h : sub (a + 1) = none) (n : Nat) (x : T) : lpx l L sub n x a = (x, a) := by
  cases n with
  | zero => rfl
  | succ n =>
    rw [lpx]
    split
    · rfl
    · rw [h]
theorem lpx_go {l : List Tok} {L : List ByteArray} {sub : Nat → Option (T × Nat)} {a b : Nat} {o : Int} {y : T} (h : opAt l L a = some o) (hs : sub (a + 1) = some (y, b)) (n : Nat) (x : T) : lpx l L sub (n + 1) x a = lpx l L sub n (.bn o x y) b := by rw [lpx, h]; dsimp only; rw [hs]
theorem ops_signs : ∀ k, ((opsL k).all fun w => signL.any fun u => decide (u = w)) = true
  | 0 => by decide +kernel
  | 1 => by decide +kernel
  | _ + 2 => by show (mulL.all fun w => signL.any fun u => decide (u = w)) = true; decide +kernel
theorem opAt_pos {l : List Tok} {k a : Nat} {o : Int} (h : opAt l (opsL k) a = some o) : ¬ o = 0 := by
  have hlt := opAt_lt h
  rw [opAt_get _ hlt] at h
  split at h
  · rename_i h1
    obtain ⟨w, hw, h2⟩ := List.any_eq_true.1 h1.2
    have h3 := List.all_eq_true.1 (ops_signs k) w hw
    rw [of_decide_eq_true h2, ← idxW_any] at h3
    have h4 := of_decide_eq_true h3
    simp only [Option.some.injEq] at h
    omega
  · cases h
theorem lpx_bd {l : List Tok} {L : List ByteArray} {sub : Nat → Option (T × Nat)} (hs : ∀ a t b, sub a = some (t, b) → a < b ∧ b ≤ l.length) : ∀ (n : Nat) (x : T) (a : Nat), a ≤ l.length → a ≤ (lpx l L sub n x a).2 ∧ (lpx l L sub n x a).2 ≤ l.length
  | 0, x, a, h => ⟨Nat.le_refl _, h⟩
  | n + 1, x, a, h => by
    unfold lpx
    split
    · exact ⟨Nat.le_refl _, h⟩
    · rename_i o _
      split
      · exact ⟨Nat.le_refl _, h⟩
      · rename_i y b hy
        have h1 := hs _ _ _ hy
        have h2 := lpx_bd (L := L) hs n (.bn o x y) b h1.2
        exact ⟨by omega, h2.2⟩
theorem inx_some {l : List Tok} {w : ByteArray} {r : Option (T × Nat)} {x : T} {b : Nat} (h : inx l w r = some (x, b)) : ∃ c, r = some (x, c) ∧ isA l c w = true ∧ b = c + 1 := by
  unfold inx at h
  split at h
  · split at h
    · rename_i h2
      simp only [Option.some.injEq, Prod.mk.injEq] at h
      obtain ⟨rfl, rfl⟩ := h
      exact ⟨_, rfl, h2, rfl⟩
    · cases h
  · cases h
theorem lx_bd {l : List Tok} : ∀ (F k a : Nat) (t : T) (b : Nat), lx l F k a = some (t, b) → a < b ∧ b ≤ l.length
  | 0, _, _, _, _, h => by simp [lx] at h
  | F + 1, k, a, t, b, h => by
    have ih := lx_bd (l := l) F
    rw [lx] at h
    split at h
    · split at h
      · rename_i h1
        have := isNum_lt h1
        simp only [Option.some.injEq, Prod.mk.injEq] at h
        omega
      · split at h
        · split at h
          · rename_i h1
            have := isNum_lt h1
            simp only [Option.some.injEq, Prod.mk.injEq] at h
            omega
          · split at h
            · rename_i x b' h1
              have := ih _ _ _ _ h1
              simp only [Option.some.injEq, Prod.mk.injEq] at h
              omega
            · cases h
        · split at h
          · rename_i h1
            have := isNm_lt h1
            split at h
            · split at h
              · rename_i x b' h2
                obtain ⟨c, h3, h4, rfl⟩ := inx_some h2
                have := ih _ _ _ _ h3
                have := isA_lt h4
                simp only [Option.some.injEq, Prod.mk.injEq] at h
                omega
              · simp only [Option.some.injEq, Prod.mk.injEq] at h
                omega
            · simp only [Option.some.injEq, Prod.mk.injEq] at h
              omega
          · split at h
            · obtain ⟨c, h3, h4, rfl⟩ := inx_some h
              have := ih _ _ _ _ h3
              have := isA_lt h4
              omega
            · cases h
    · split at h
      · cases h
      · rename_i x b' h1
        have h2 := ih _ _ _ _ h1
        have h3 := lpx_bd (L := opsL k) (fun a t b => ih (k + 1) a t b) (if k = 0 then 1 else F) x b' h2.2
        simp only [Option.some.injEq] at h
        rw [h] at h3
        exact ⟨by omega, h3.2⟩
/-- A beginning, as the program has it. -/
def PFX : Option (T × Nat) → List C
  | some (t, a) => [.val (.int .i64 t.kind), .val (.int .i64 t.num), .val (.string t.name), .val (.int .i64 t.op), .list (t.args.map T.row), .val (.int .i64 (a : Int)), .val (.bool true)]
  | none => [.val (.int .i64 0), .val (.int .i64 0), .val (.string ⟨#[]⟩), .val (.int .i64 0), .val (.slice none 0 0), .val (.int .i64 0), .val (.bool false)]
theorem binary_c (o : Int) (x y : T) : Con Tryd.prog 43 [In .i64 o, .row x.row', .row y.row'] [] (fun K => K (.row (T.bn o x y).row') []) := by
  refine con_intro Tryd.func43 rfl rfl (Nat.le_of_ble_eq_true rfl) (fun c hc => R_ (o_ r_ (ci_ r_ (fun bx => o_ r_ (ci_ r_ (fun bx => o_ r_ (bl_ r_ r_ (fun bl => T_ (R_ (M_ r_ (A_ 2 r_ (A_ 1 r_ (o_ r_ (bq_ r_ r_ b_ r_ r_ b_ (o_ r_ (bu_ r_ r_ r_ r_ r_ (S_ 0 r_ (T_ (ar_ (jq_row 0 (T.bn o x y).row' rfl ?_ ?_))))))))))))))))))))
  · (repeat (first | exact RowLe.nil | refine RowLe.cons (CLe.refl _) ?_ | refine RowLe.cons CLe.nil ?_))
    exact RowLe.cons (CLe.eq (by simp [T.row_eq, T.args])) .nil
  · refine jq_retRow rfl rfl rfl rfl 0 rfl [] rfl (fun K h => h)
/-- A number, as it is built, on the left. -/
theorem binaryN_c (o n : Int) (y : T) : Con Tryd.prog 43 [In .i64 o, .row [.val (.int .i64 1), .val (.int .i64 n), .val (.string ⟨#[]⟩), .val (.int .i64 0), .val (.slice none 0 0)], .row y.row'] [] (fun K => K (.row (T.bn o (.nu n) y).row') []) := by
  refine con_intro Tryd.func43 rfl rfl (Nat.le_of_ble_eq_true rfl) (fun c hc => R_ (o_ r_ (ci_ r_ (fun bx => o_ r_ (ci_ r_ (fun bx => o_ r_ (bl_ r_ r_ (fun bl => T_ (R_ (M_ r_ (A_ 2 r_ (A_ 1 r_ (o_ r_ (bq_ r_ r_ b_ r_ r_ b_ (o_ r_ (bu_ r_ r_ r_ r_ r_ (S_ 0 r_ (T_ (ar_ (jq_row 0 (T.bn o (.nu n) y).row' rfl ?_ ?_))))))))))))))))))))
  · (repeat (first | exact RowLe.nil | refine RowLe.cons (CLe.refl _) ?_ | refine RowLe.cons CLe.nil ?_))
    refine RowLe.cons (CLe.list (.cons ?_ (.cons ?_ .nil))) .nil
    · (repeat (first | exact RowLe.nil | refine RowLe.cons (CLe.refl _) ?_ | refine RowLe.cons CLe.nil ?_))
    · rw [T.row_eq]
      (repeat (first | exact RowLe.nil | refine RowLe.cons (CLe.refl _) ?_ | refine RowLe.cons CLe.nil ?_))
  · refine jq_retRow rfl rfl rfl rfl 0 rfl [] rfl (fun K h => h)
end Go.Proofs.YtlniadfidfmckaaDoor
end
