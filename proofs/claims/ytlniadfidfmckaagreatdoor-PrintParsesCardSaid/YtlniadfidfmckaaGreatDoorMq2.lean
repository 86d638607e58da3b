import Derived.Test.YtlniadfidfmckaaGreatDoorMq1
import Derived.Lib.SliceRun
import Derived.Laws.OwnMore
import Derived.Laws.StructEq
import Derived.OrdersHeld
import Derived.Test.YtlniadfidfmckaaGreatDoorProg
import Derived.Lib.LaidTab
import Derived.Lib.ItoaNum
import Derived.KernelRfl
import Derived.Recover
section
namespace Go.Vc

section
variable {α : Type} (key : α → Int)
end
end Go.Vc
end

section
namespace Go.Vc
open Go.RowKit

theorem rdRows_zeros {w : World} {A : Nat → Prop} {z : Array Value} {k : Nat} (hk : z.size = k) (h1 : ∀ v ∈ z.toList, v.oneCell' = true) : ∀ n : Nat, RdRows w A k (List.replicate n (z.toList.map C.val)) ((List.range (n * k)).map fun i => z[i % z.size]!)
  | 0 => by simp [RdRows]
  | n + 1 => by
    have ih := rdRows_zeros (w := w) (A := A) hk h1 n
    rw [show (n + 1) * k = k + n * k by rw [Nat.add_mul]; omega, List.range_add, List.map_append]
    refine ⟨_, _, rfl, by simp, ?_, ?_⟩
    · have e : (List.range k).map (fun i => z[i % z.size]!) = z.toList := by
        apply List.ext_getElem?
        intro j
        by_cases hj : j < k
        · have hj' : j < z.size := by omega
          rw [List.getElem?_map, List.getElem?_range hj]
          simp [Nat.mod_eq_of_lt hj', hj']
        · rw [List.getElem?_eq_none (by simp; omega), List.getElem?_eq_none (by simp; omega)]
      rw [e]
      exact rdRow_zero _ h1
    · rw [List.map_map]
      have e : ((fun i => z[i % z.size]!) ∘ fun x => k + x) = fun i => z[i % z.size]! := by
        funext i
        simp only [Function.comp]
        rw [← hk, Nat.add_mod_left]
      rw [e]
      exact ih

section
variable {P : Program} [Gl P] {nt : Nat} {c : Cx P nt} {env : Env} {H : List Ch} {K : S → List Ch → Prop}
variable {d : Option Tmp} {ty t t' : TypeId} {pos : String} {af : Array Edge} {g : Option (Nat × Bool)} {x y : Operand}

end
end Go.Vc
end

section
namespace Go.Vc
open Go.RowKit

section
variable {P : Program} [Gl P] {nt : Nat} {c : Cx P nt} {env : Env} {H : List Ch} {K : S → List Ch → Prop}
variable {d : Option Tmp} {ty t t' : TypeId} {pos : String} {af : Array Edge} {g : Option (Nat × Bool)} {x y : Operand}

/-- What is asked of a type of two integers, to compare its values. -/
structure Two (P : Program) (t : TypeId) (u : TypeId) (k : IntKind) : Prop where
  ht : P.underlying t = some (.struct (P.fieldsOf t))
  hp : P.stoodInHeld t = false
  hm : P.eqGuardType P.depth t = false
  hf : ∃ f0 f1, (P.fieldsOf t).toList = [f0, f1] ∧ f0.name ≠ "_" ∧ f1.name ≠ "_" ∧ f0.offset = 0 ∧ f1.offset = 1 ∧ f0.type = u ∧ f1.type = u
  hu : P.underlying u = some (.int k)
end
end Go.Vc
end

section
namespace Go.Vc
open Go.RowKit

def Keep (L : List (Nat × List Value × TypeId)) (w : World) : Prop := ∀ p ∈ L, w.heap[p.1]? = some (.cells p.2.1.toArray p.2.2 (0, 0))
theorem rdRow_vals {w : World} {A : Nat → Prop} : ∀ {vs cs : List Value}, RdRow w A (vs.map C.val) cs → cs = vs
  | [], _, h => h
  | v :: vs, _, h => by
    obtain ⟨x, r, rfl, g1, g2⟩ := h
    rw [g1.1, rdRow_vals g2]
theorem rdRow_exact {w w' : World} {A A' : Nat → Prop} {row : List C} {cs : List Value} (h : RdRow w A row cs) : RdRow w' A' (cs.map C.val) cs := by
  have h1 := rdRow_one h
  clear h
  induction cs with
  | nil => rfl
  | cons v vs ih => exact ⟨v, vs, rfl, ⟨rfl, h1 v (by simp)⟩, ih (fun u hu => h1 u (by simp [hu]))⟩

section
variable {P : Program} [Gl P] {nt : Nat} {c : Cx P nt} {env : Env} {H Hr : List Ch} {ops : Array Oper} {Q : Exit → Act → World → Prop} {Sw : World → Prop} {L : List (Nat × List Value × TypeId)}
variable {fuel : Nat} {listed : Array Bool} {d ty t t' : TypeId} {pos : String} {af : Array Edge} {x y : Operand}

def HOk (c : Cx P nt) (Sw : World → Prop) (env : Env) (H : List Ch) (o : Oper) (s : S) : Prop :=
  ∀ a w, St c env H a w → Sw w → ∃ v, (∀ w', Sw w' → (execOp a.eval o).run P w' = .ok (.value v) w') ∧ SOk w (c.av H) s v

/-- What stands in H still stands. -/
theorem keep_of (h : ∀ p ∈ L, Ch.blk p.1 p.2.2 (p.2.1.map C.val) ∈ H) : ∀ w, StW c H w → Keep L w := by
  intro w hw p hp
  obtain ⟨cs, g1, g2⟩ := hw.ok _ (h p hp)
  rw [rdRow_vals g2] at g1
  exact g1
theorem hok_move {d : Option Tmp} {s : S} (hx : env.ev x = some s) : HOk c Sw env H ⟨d, .move x, ty, pos, af, none⟩ s :=
  fun a _ hst _ => ⟨a.eval x, fun _ _ => rfl, ev_ok hst hx⟩
theorem hok_add {d : Option Tmp} {m n : Int} (hx : env.ev x = some (In .i64 m)) (hy : env.ev y = some (In .i64 n)) (hb : -9223372036854775808 ≤ m + n ∧ m + n ≤ 9223372036854775807) : HOk c Sw env H ⟨d, .binOp .add t x y t', ty, pos, af, none⟩ (In .i64 (m + n)) :=
  fun _ _ hst _ => ⟨.int .i64 (m + n), fun _ _ => by simp [execOp, ev_val hst hx, ev_val hst hy, eqGuard, binOp, Op.intArith, IntWalk.i64_in _ hb], rfl, rfl⟩
theorem hok_fieldAddr {d : Option Tmp} {b o f off size : Nat} [TI P t] [TS P t] (hs : structB (TI.u P t) = true) (hx : env.ev x = some (.cell (.val (.pointer (some ⟨b, o, none⟩))))) (hf : (TS.pl P t)[f]? = some (off, size)) (hz : 0 < size) :
    HOk c Sw env H ⟨d, .fieldAddr t x f, ty, pos, af, none⟩ (.cell (.val (.pointer (some ⟨b, o + off, none⟩)))) :=
  fun _ _ hst _ => ⟨.pointer (some ⟨b, o + off, none⟩), fun _ _ => by simp only [execOp, ev_val hst hx, Sem.run_bind, run_fieldAt t hs hf hz, Result.andThen_ok, Sem.run_pure], rfl, rfl⟩
theorem blk_keep {a : Act} {w : World} {b : Nat} {bt : TypeId} {row : List C} {cs : List Value} {is : List Nat} (hst : St c env H a w) (hp : pick is H = some ([.blk b bt row], Hr)) (hS : Keep L w) (hm : (b, cs, bt) ∈ L) : RdRow w (c.av H) row cs := by
  obtain ⟨cs', g1, g2⟩ := blk_ok hst hp
  have g3 := hS _ hm
  dsimp only at g3
  rw [g1] at g3
  obtain rfl : cs' = cs := by simpa using g3
  exact g2
theorem hok_load {d : Option Tmp} {b o : Nat} {row : List C} {e : C} {bt : TypeId} {cs : List Value} [TI P t] (j : Nat) (ha : aggB (TI.u P t) = false) (hx : env.ev x = some (.cell (.val (.pointer (some ⟨b, o, none⟩))))) (hp : pick [j] H = some ([.blk b bt row], Hr))
    (hm : (b, cs, bt) ∈ L) (he : row[o]? = some e) : HOk c (Keep L) env H ⟨d, .load t x, ty, pos, af, none⟩ (.cell e) :=
  fun _ _ hst hS => by
    obtain ⟨v, hv, hrd⟩ := rdRow_get (blk_keep hst hp hS hm) he
    refine ⟨v, fun w' hS' => ?_, hrd⟩
    have hh := hS' _ hm
    simp only [execOp, ev_val hst hx, Instr.loadAt, Instr.sureAddr, Sem.run_bind, Sem.run_pure, Result.andThen_ok, run_loadVar1 t ha (show w'.cell? ⟨b, o, none⟩ = some v by simp [World.cell?, hh, hv])]
theorem hok_loadAll {d : Option Tmp} {b : Nat} {row : List C} {bt : TypeId} {cs : List Value} [TI P t] (j : Nat) (ha : aggB (TI.u P t) = true) (hx : env.ev x = some (.cell (.val (.pointer (some ⟨b, 0, none⟩))))) (hp : pick [j] H = some ([.blk b bt row], Hr))
    (hm : (b, cs, bt) ∈ L) (hz : (TI.i P t).size = row.length) : HOk c (Keep L) env H ⟨d, .load t x, ty, pos, af, none⟩ (.row row) :=
  fun _ _ hst hS => by
    have hrd := blk_keep hst hp hS hm
    refine ⟨.agg cs.toArray, fun w' hS' => ?_, cs.toArray, rfl, by simpa using hrd⟩
    have hh := hS' _ hm
    simp only [execOp, ev_val hst hx, Instr.loadAt, Instr.sureAddr, Sem.run_bind, Sem.run_pure, Result.andThen_ok, run_loadVarN t ha (hz.trans (rdRow_length hrd).symm) (cells_of_blk hh 0)]
end
end Go.Vc
end

section
namespace Go.Vc
open Go.RowKit

section
variable {P : Program} [Gl P] {nt : Nat} {c : Cx P nt} {env : Env} {H : List Ch}
end
end Go.Vc
end

section
namespace Go.Vc
open Go.RowKit

section
variable {P : Program} [Gl P] {nt : Nat} {c : Cx P nt} {env : Env} {H : List Ch} {K : S → List Ch → Prop}
variable {d : Option Tmp} {ty t t' : TypeId} {pos : String} {af : Array Edge} {g : Option (Nat × Bool)} {x y : Operand}
/-- An element of an array, by its address. -/
theorem ow_indexArr {b o n : Nat} {e : TypeId} {m : Int} [TI P t] [TI P e] (hu : TI.u P t = .array n e) (hx : env.ev x = some (.cell (.val (.pointer (some ⟨b, o, none⟩))))) (hy : env.ev y = some (In .i64 m)) (h0 : 0 ≤ m) (hlt : m < (n : Int))
    (hK : K (.cell (.val (.pointer (some ⟨b, o + m.toNat * (TI.i P e).size, none⟩)))) H) : OpWp c ⟨d, .indexAddr t x y, ty, pos, af, g⟩ env H K :=
  ow_valx rfl (fun a w h => by
    have hu' : (underlying t).run P w = .ok (.array n e) w := by rw [run_underlying (TI.hu (P := P) (t := t)), hu]
    simp [execOp, ev_val h hx, ev_val h hy, Instr.indexAt, asIntOf, hu', Instr.sureAddr, h0, hlt, run_sizeOf, add_at]) hK
/-- A package variable that reads so. -/
def GV (w : World) (A : Nat → Prop) (b : Nat) (row : List C) : Prop := ¬ A b ∧ ∃ cs t f, w.heap[b]? = some (.cells cs t f) ∧ RdRow w A row cs.toList
theorem GV.up {w w' : World} {A A' : Nat → Prop} {b : Nat} {row : List C} (hu : Up A w w') (hA : ∀ b, A' b → A b ∨ w.heap.size ≤ b) (h : GV w A b row) : GV w' A' b row := by
  obtain ⟨h1, cs, t, f, h2, h3⟩ := h
  have hlt : b < w.heap.size := (Array.getElem?_eq_some_iff.1 h2).1
  exact ⟨fun h => (hA b h).elim h1 (by omega), cs, t, f, by rw [hu.block b hlt h1]; exact h2, rdRow_up hu hA _ _ h3⟩
theorem ow_loadG [TI P t] {b o : Nat} {row : List C} {e : C} (hg : ∀ w A, Gl.ok P w A → GV w A b row) (ha : aggB (TI.u P t) = false) (hx : env.ev x = some (.cell (.val (.pointer (some ⟨b, o, none⟩))))) (he : row[o]? = some e) (hK : K (.cell e) H) : OpWp c ⟨d, .load t x, ty, pos, af, g⟩ env H K :=
  ow_val (fun a w h => by
    obtain ⟨_, cs, bt, f, hh, hr⟩ := hg _ _ h.heap.gl
    obtain ⟨v, hv, hrd⟩ := rdRow_get hr he
    refine ⟨v, ?_, hrd⟩
    simp only [execOp, ev_val h hx, Instr.loadAt, Instr.sureAddr, Sem.run_bind, Sem.run_pure, Result.andThen_ok, run_loadVar1 t ha (show w.cell? ⟨b, o, none⟩ = some v by simp [World.cell?, hh]; simpa using hv)]) hK
end
end Go.Vc
end

section
namespace Go.Proofs.YtlniadfidfmckaaGreatDoor
open Go.Vc

def words : List ByteArray := [⟨#[114, 101, 115, 111, 117, 114, 99, 101]⟩, ⟨#[115, 104, 97, 114, 101, 100]⟩, ⟨#[116, 97, 115, 107]⟩, ⟨#[112, 101, 114, 105, 111, 100]⟩, ⟨#[100, 101, 97, 100, 108, 105, 110, 101]⟩, ⟨#[112, 114, 105, 111, 114, 105, 116, 121]⟩, ⟨#[106, 105, 116, 116, 101, 114]⟩, ⟨#[105, 110, 112, 117, 116]⟩, ⟨#[118, 97, 114]⟩, ⟨#[97, 114, 114, 97, 121]⟩, ⟨#[109, 111, 100, 101]⟩, ⟨#[110, 101, 118, 101, 114]⟩, ⟨#[98, 111, 100, 121]⟩, ⟨#[101, 110, 100]⟩, ⟨#[105, 102]⟩, ⟨#[108, 97, 98, 101, 108]⟩, ⟨#[101, 108, 115, 101]⟩, ⟨#[119, 104, 105, 108, 101]⟩, ⟨#[109, 97, 120]⟩, ⟨#[108, 111, 99, 107]⟩]
def signL : List ByteArray := [⟨#[43]⟩, ⟨#[45]⟩, ⟨#[42]⟩, ⟨#[47]⟩, ⟨#[37]⟩, ⟨#[38]⟩, ⟨#[124]⟩, ⟨#[94]⟩, ⟨#[60, 60]⟩, ⟨#[62, 62]⟩, ⟨#[60]⟩, ⟨#[60, 61]⟩, ⟨#[61, 61]⟩, ⟨#[33, 61]⟩]
def addL : List ByteArray := [⟨#[43]⟩, ⟨#[45]⟩, ⟨#[124]⟩, ⟨#[94]⟩]
def mulL : List ByteArray := [⟨#[42]⟩, ⟨#[47]⟩, ⟨#[37]⟩, ⟨#[38]⟩, ⟨#[60, 60]⟩, ⟨#[62, 62]⟩]
def cmpL : List ByteArray := [⟨#[60]⟩, ⟨#[60, 61]⟩, ⟨#[61, 61]⟩, ⟨#[33, 61]⟩]
abbrev Wrow (s : ByteArray) : List C := [.val (.string s)]
def pow10Ok (w : World) (A : Nat → Prop) : Prop := ∃ g, Tryz.prog.globalNamed "internal/strconv.uint64pow10" = some g ∧ ¬ A g ∧ Lib.TabIs Tryz.prog w "internal/strconv.uint64pow10" .u64 Lib.pow10Tab
theorem pow10_up {w w' : World} {A A' : Nat → Prop} (hu : Up A w w') (hA : ∀ b, A' b → A b ∨ w.heap.size ≤ b) (h : pow10Ok w A) : pow10Ok w' A' := by
  obtain ⟨g, h1, h2, h3⟩ := h
  have hlt : g < w.heap.size := by
    rcases Nat.lt_or_ge g w.heap.size with h | h
    · exact h
    · unfold Lib.TabIs World.var? at h3
      rw [h1] at h3
      simp only [Option.bind_some, Array.getElem?_eq_none h] at h3
      cases h3
  refine ⟨g, h1, fun h => (hA g h).elim h2 (by omega), ?_⟩
  unfold Lib.TabIs World.var? at h3 ⊢
  rw [h1] at h3 ⊢
  simp only [Option.bind_some] at h3 ⊢
  rw [hu.block g hlt h2]
  exact h3
instance gl : Gl Tryz.prog where
  ok w A := pow10Ok w A ∧ GV w A 1 [.list (words.map Wrow)] ∧ GV w A 0 (signL.map (fun s => .val (.string s))) ∧ GV w A 5 [.list (addL.map Wrow), .list (mulL.map Wrow)] ∧ GV w A 2 [.list (cmpL.map Wrow)]
  up := fun hu hA ⟨h1, h2, h3, h4, h5⟩ => ⟨pow10_up hu hA h1, h2.up hu hA, h3.up hu hA, h4.up hu hA, h5.up hu hA⟩
theorem gl_words (w : World) (A : Nat → Prop) (h : Gl.ok Tryz.prog w A) : GV w A 1 [.list (words.map Wrow)] := h.2.1
theorem gl_signs (w : World) (A : Nat → Prop) (h : Gl.ok Tryz.prog w A) : GV w A 0 (signL.map (fun s => .val (.string s))) := h.2.2.1
theorem gl_lines (w : World) (A : Nat → Prop) (h : Gl.ok Tryz.prog w A) : GV w A 5 [.list (addL.map Wrow), .list (mulL.map Wrow)] := h.2.2.2.1
theorem gl_cmps (w : World) (A : Nat → Prop) (h : Gl.ok Tryz.prog w A) : GV w A 2 [.list (cmpL.map Wrow)] := h.2.2.2.2
end Go.Proofs.YtlniadfidfmckaaGreatDoor
end

section
namespace Go.Proofs.YtlniadfidfmckaaGreatDoor
open Go.Vc

noncomputable instance ti3 : TI Tryz.prog 3 := ⟨_, Tryz.underlying3, Tryz.t3, by kernel_rfl⟩
noncomputable instance ti4 : TI Tryz.prog 4 := ⟨_, Tryz.underlying4, Tryz.t4, by kernel_rfl⟩
noncomputable instance ti5 : TI Tryz.prog 5 := ⟨_, Tryz.underlying5, Tryz.t5, by kernel_rfl⟩
noncomputable instance ti9 : TI Tryz.prog 9 := ⟨_, Tryz.underlying9, Tryz.t9, by kernel_rfl⟩
noncomputable instance ti20 : TI Tryz.prog 20 := ⟨_, Tryz.underlying20, Tryz.t20, by kernel_rfl⟩
noncomputable instance ti22 : TI Tryz.prog 22 := ⟨_, Tryz.underlying22, Tryz.t22, by kernel_rfl⟩
noncomputable instance ti25 : TI Tryz.prog 25 := ⟨_, Tryz.underlying25, Tryz.t25, by kernel_rfl⟩
noncomputable instance ti27 : TI Tryz.prog 27 := ⟨_, Tryz.underlying27, Tryz.t27, by kernel_rfl⟩
noncomputable instance ti28 : TI Tryz.prog 28 := ⟨_, Tryz.underlying28, Tryz.t28, by kernel_rfl⟩
noncomputable instance ti29 : TI Tryz.prog 29 := ⟨_, Tryz.underlying29, Tryz.t29, by kernel_rfl⟩
noncomputable instance ti31 : TI Tryz.prog 31 := ⟨_, Tryz.underlying31, Tryz.t31, by kernel_rfl⟩
noncomputable instance ti35 : TI Tryz.prog 35 := ⟨_, Tryz.underlying35, Tryz.t35, by kernel_rfl⟩
noncomputable instance ti36 : TI Tryz.prog 36 := ⟨_, Tryz.underlying36, Tryz.t36, by kernel_rfl⟩
noncomputable instance ti37 : TI Tryz.prog 37 := ⟨_, Tryz.underlying37, Tryz.t37, by kernel_rfl⟩
noncomputable instance ti38 : TI Tryz.prog 38 := ⟨_, Tryz.underlying38, Tryz.t38, by kernel_rfl⟩
noncomputable instance ti39 : TI Tryz.prog 39 := ⟨_, Tryz.underlying39, Tryz.t39, by kernel_rfl⟩
noncomputable instance ti41 : TI Tryz.prog 41 := ⟨_, Tryz.underlying41, Tryz.t41, by kernel_rfl⟩
noncomputable instance ti43 : TI Tryz.prog 43 := ⟨_, Tryz.underlying43, Tryz.t43, by kernel_rfl⟩
noncomputable instance ti45 : TI Tryz.prog 45 := ⟨_, Tryz.underlying45, Tryz.t45, by kernel_rfl⟩
noncomputable instance ti47 : TI Tryz.prog 47 := ⟨_, Tryz.underlying47, Tryz.t47, by kernel_rfl⟩
noncomputable instance ti49 : TI Tryz.prog 49 := ⟨_, Tryz.underlying49, Tryz.t49, by kernel_rfl⟩
noncomputable instance ti51 : TI Tryz.prog 51 := ⟨_, Tryz.underlying51, Tryz.t51, by kernel_rfl⟩
noncomputable instance ti53 : TI Tryz.prog 53 := ⟨_, Tryz.underlying53, Tryz.t53, by kernel_rfl⟩
noncomputable instance ti57 : TI Tryz.prog 57 := ⟨_, Tryz.underlying57, Tryz.t57, by kernel_rfl⟩
noncomputable instance ti67 : TI Tryz.prog 67 := ⟨_, Tryz.underlying67, Tryz.t67, by kernel_rfl⟩
noncomputable instance ti72 : TI Tryz.prog 72 := ⟨_, Tryz.underlying72, Tryz.t72, by kernel_rfl⟩
noncomputable instance ti73 : TI Tryz.prog 73 := ⟨_, Tryz.underlying73, Tryz.t73, by kernel_rfl⟩
noncomputable instance ti75 : TI Tryz.prog 75 := ⟨_, Tryz.underlying75, Tryz.t75, by kernel_rfl⟩
noncomputable instance ti77 : TI Tryz.prog 77 := ⟨_, Tryz.underlying77, Tryz.t77, by kernel_rfl⟩
noncomputable instance ti80 : TI Tryz.prog 80 := ⟨_, Tryz.underlying80, Tryz.t80, by kernel_rfl⟩
noncomputable instance ti86 : TI Tryz.prog 86 := ⟨_, Tryz.underlying86, Tryz.t86, by kernel_rfl⟩
noncomputable instance ti88 : TI Tryz.prog 88 := ⟨_, Tryz.underlying88, Tryz.t88, by kernel_rfl⟩
noncomputable instance ti91 : TI Tryz.prog 91 := ⟨_, Tryz.underlying91, Tryz.t91, by kernel_rfl⟩
noncomputable instance ti93 : TI Tryz.prog 93 := ⟨_, Tryz.underlying93, Tryz.t93, by kernel_rfl⟩
noncomputable instance ti95 : TI Tryz.prog 95 := ⟨_, Tryz.underlying95, Tryz.t95, by kernel_rfl⟩
noncomputable instance ti104 : TI Tryz.prog 104 := ⟨_, Tryz.underlying104, Tryz.t104, by kernel_rfl⟩
noncomputable instance ti121 : TI Tryz.prog 121 := ⟨_, Tryz.underlying121, Tryz.t121, by kernel_rfl⟩
noncomputable instance ti126 : TI Tryz.prog 126 := ⟨_, Tryz.underlying126, Tryz.t126, by kernel_rfl⟩
noncomputable instance ti134 : TI Tryz.prog 134 := ⟨_, Tryz.underlying134, Tryz.t134, by kernel_rfl⟩
noncomputable instance ti149 : TI Tryz.prog 149 := ⟨_, Tryz.underlying149, Tryz.t149, by kernel_rfl⟩
noncomputable instance ti150 : TI Tryz.prog 150 := ⟨_, Tryz.underlying150, Tryz.t150, by kernel_rfl⟩
noncomputable instance ti154 : TI Tryz.prog 154 := ⟨_, Tryz.underlying154, Tryz.t154, by kernel_rfl⟩
noncomputable instance ti160 : TI Tryz.prog 160 := ⟨_, Tryz.underlying160, Tryz.t160, by kernel_rfl⟩
noncomputable instance ti189 : TI Tryz.prog 189 := ⟨_, Tryz.underlying189, Tryz.t189, by kernel_rfl⟩
noncomputable instance sl22 : SL Tryz.prog 22 := ⟨3, inferInstance, Tryz.underlying22⟩
noncomputable instance sl27 : SL Tryz.prog 27 := ⟨9, inferInstance, Tryz.underlying27⟩
noncomputable instance sl28 : SL Tryz.prog 28 := ⟨80, inferInstance, Tryz.underlying28⟩
noncomputable instance sl29 : SL Tryz.prog 29 := ⟨41, inferInstance, Tryz.underlying29⟩
noncomputable instance sl35 : SL Tryz.prog 35 := ⟨43, inferInstance, Tryz.underlying35⟩
noncomputable instance sl36 : SL Tryz.prog 36 := ⟨45, inferInstance, Tryz.underlying36⟩
noncomputable instance sl37 : SL Tryz.prog 37 := ⟨86, inferInstance, Tryz.underlying37⟩
noncomputable instance sl38 : SL Tryz.prog 38 := ⟨47, inferInstance, Tryz.underlying38⟩
noncomputable instance sl39 : SL Tryz.prog 39 := ⟨51, inferInstance, Tryz.underlying39⟩
noncomputable instance sl49 : SL Tryz.prog 49 := ⟨53, inferInstance, Tryz.underlying49⟩
noncomputable instance sl73 : SL Tryz.prog 73 := ⟨5, inferInstance, Tryz.underlying73⟩
noncomputable instance sl88 : SL Tryz.prog 88 := ⟨126, inferInstance, Tryz.underlying88⟩
noncomputable instance sl151 : SL Tryz.prog 151 := ⟨150, inferInstance, Tryz.underlying151⟩
noncomputable instance sl158 : SL Tryz.prog 158 := ⟨49, inferInstance, Tryz.underlying158⟩
noncomputable instance mp123 : MP Tryz.prog 123 := ⟨9, 4, Tryz.underlying123, Tryz.underlying9⟩
noncomputable instance mpe123 : TI Tryz.prog (MP.e Tryz.prog 123) := inferInstanceAs (TI Tryz.prog 4)
instance fi5 : FI Tryz.prog 5 := ⟨fun args w => by kernel_rfl⟩
instance fi6 : FI Tryz.prog 6 := ⟨fun args w => by kernel_rfl⟩
instance fi7 : FI Tryz.prog 7 := ⟨fun args w => by kernel_rfl⟩
instance fi8 : FI Tryz.prog 8 := ⟨fun args w => by kernel_rfl⟩
instance fi9 : FI Tryz.prog 9 := ⟨fun args w => by kernel_rfl⟩
instance fi10 : FI Tryz.prog 10 := ⟨fun args w => by kernel_rfl⟩
instance fi11 : FI Tryz.prog 11 := ⟨fun args w => by kernel_rfl⟩
instance fi12 : FI Tryz.prog 12 := ⟨fun args w => by kernel_rfl⟩
instance fi13 : FI Tryz.prog 13 := ⟨fun args w => by kernel_rfl⟩
instance fi15 : FI Tryz.prog 15 := ⟨fun args w => by kernel_rfl⟩
instance fi16 : FI Tryz.prog 16 := ⟨fun args w => by kernel_rfl⟩
instance fi17 : FI Tryz.prog 17 := ⟨fun args w => by kernel_rfl⟩
instance fi18 : FI Tryz.prog 18 := ⟨fun args w => by kernel_rfl⟩
instance fi19 : FI Tryz.prog 19 := ⟨fun args w => by kernel_rfl⟩
instance fi20 : FI Tryz.prog 20 := ⟨fun args w => by kernel_rfl⟩
instance fi21 : FI Tryz.prog 21 := ⟨fun args w => by kernel_rfl⟩
instance fi22 : FI Tryz.prog 22 := ⟨fun args w => by kernel_rfl⟩
instance fi23 : FI Tryz.prog 23 := ⟨fun args w => by kernel_rfl⟩
instance fi24 : FI Tryz.prog 24 := ⟨fun args w => by kernel_rfl⟩
instance fi25 : FI Tryz.prog 25 := ⟨fun args w => by kernel_rfl⟩
instance fi30 : FI Tryz.prog 30 := ⟨fun args w => by kernel_rfl⟩
instance fi31 : FI Tryz.prog 31 := ⟨fun args w => by kernel_rfl⟩
instance fi32 : FI Tryz.prog 32 := ⟨fun args w => by kernel_rfl⟩
instance fi33 : FI Tryz.prog 33 := ⟨fun args w => by kernel_rfl⟩
instance fi34 : FI Tryz.prog 34 := ⟨fun args w => by kernel_rfl⟩
instance fi35 : FI Tryz.prog 35 := ⟨fun args w => by kernel_rfl⟩
instance fi36 : FI Tryz.prog 36 := ⟨fun args w => by kernel_rfl⟩
instance fi37 : FI Tryz.prog 37 := ⟨fun args w => by kernel_rfl⟩
instance fi38 : FI Tryz.prog 38 := ⟨fun args w => by kernel_rfl⟩
instance fi39 : FI Tryz.prog 39 := ⟨fun args w => by kernel_rfl⟩
instance fi40 : FI Tryz.prog 40 := ⟨fun args w => by kernel_rfl⟩
instance fi41 : FI Tryz.prog 41 := ⟨fun args w => by kernel_rfl⟩
instance fi42 : FI Tryz.prog 42 := ⟨fun args w => by kernel_rfl⟩
instance fi43 : FI Tryz.prog 43 := ⟨fun args w => by kernel_rfl⟩
instance fi44 : FI Tryz.prog 44 := ⟨fun args w => by kernel_rfl⟩
instance fi45 : FI Tryz.prog 45 := ⟨fun args w => by kernel_rfl⟩
instance fi46 : FI Tryz.prog 46 := ⟨fun args w => by kernel_rfl⟩
instance fi47 : FI Tryz.prog 47 := ⟨fun args w => by kernel_rfl⟩
instance fi48 : FI Tryz.prog 48 := ⟨fun args w => by kernel_rfl⟩
instance fi49 : FI Tryz.prog 49 := ⟨fun args w => by kernel_rfl⟩
instance fi50 : FI Tryz.prog 50 := ⟨fun args w => by kernel_rfl⟩
instance fi51 : FI Tryz.prog 51 := ⟨fun args w => by kernel_rfl⟩
instance fi52 : FI Tryz.prog 52 := ⟨fun args w => by kernel_rfl⟩
instance fi59 : FI Tryz.prog 59 := ⟨fun args w => by kernel_rfl⟩
instance fi60 : FI Tryz.prog 60 := ⟨fun args w => by kernel_rfl⟩
instance fi61 : FI Tryz.prog 61 := ⟨fun args w => by kernel_rfl⟩
instance fi62 : FI Tryz.prog 62 := ⟨fun args w => by kernel_rfl⟩
instance fi63 : FI Tryz.prog 63 := ⟨fun args w => by kernel_rfl⟩
instance fi64 : FI Tryz.prog 64 := ⟨fun args w => by kernel_rfl⟩
instance fi65 : FI Tryz.prog 65 := ⟨fun args w => by kernel_rfl⟩
instance fi66 : FI Tryz.prog 66 := ⟨fun args w => by kernel_rfl⟩
instance fi67 : FI Tryz.prog 67 := ⟨fun args w => by kernel_rfl⟩
instance fi68 : FI Tryz.prog 68 := ⟨fun args w => by kernel_rfl⟩
instance fi69 : FI Tryz.prog 69 := ⟨fun args w => by kernel_rfl⟩
instance fi70 : FI Tryz.prog 70 := ⟨fun args w => by kernel_rfl⟩
instance fi71 : FI Tryz.prog 71 := ⟨fun args w => by kernel_rfl⟩
instance fi72 : FI Tryz.prog 72 := ⟨fun args w => by kernel_rfl⟩
instance fi73 : FI Tryz.prog 73 := ⟨fun args w => by kernel_rfl⟩
instance fi74 : FI Tryz.prog 74 := ⟨fun args w => by kernel_rfl⟩
instance fi75 : FI Tryz.prog 75 := ⟨fun args w => by kernel_rfl⟩
instance fi76 : FI Tryz.prog 76 := ⟨fun args w => by kernel_rfl⟩
instance fi77 : FI Tryz.prog 77 := ⟨fun args w => by kernel_rfl⟩
instance fi88 : FI Tryz.prog 88 := ⟨fun args w => by kernel_rfl⟩
instance fi89 : FI Tryz.prog 89 := ⟨fun args w => by kernel_rfl⟩
instance fi90 : FI Tryz.prog 90 := ⟨fun args w => by kernel_rfl⟩
instance fi91 : FI Tryz.prog 91 := ⟨fun args w => by kernel_rfl⟩
instance fi92 : FI Tryz.prog 92 := ⟨fun args w => by kernel_rfl⟩
instance fi93 : FI Tryz.prog 93 := ⟨fun args w => by kernel_rfl⟩
instance fi94 : FI Tryz.prog 94 := ⟨fun args w => by kernel_rfl⟩
instance fi95 : FI Tryz.prog 95 := ⟨fun args w => by kernel_rfl⟩
instance fi96 : FI Tryz.prog 96 := ⟨fun args w => by kernel_rfl⟩
instance fi97 : FI Tryz.prog 97 := ⟨fun args w => by kernel_rfl⟩
instance fi98 : FI Tryz.prog 98 := ⟨fun args w => by kernel_rfl⟩
instance fi99 : FI Tryz.prog 99 := ⟨fun args w => by kernel_rfl⟩
instance fi100 : FI Tryz.prog 100 := ⟨fun args w => by kernel_rfl⟩
instance fi101 : FI Tryz.prog 101 := ⟨fun args w => by kernel_rfl⟩
instance fi102 : FI Tryz.prog 102 := ⟨fun args w => by kernel_rfl⟩
instance fi103 : FI Tryz.prog 103 := ⟨fun args w => by kernel_rfl⟩
instance fi104 : FI Tryz.prog 104 := ⟨fun args w => by kernel_rfl⟩
instance fi115 : FI Tryz.prog 115 := ⟨fun args w => by kernel_rfl⟩
instance fi116 : FI Tryz.prog 116 := ⟨fun args w => by kernel_rfl⟩
instance fi117 : FI Tryz.prog 117 := ⟨fun args w => by kernel_rfl⟩
instance fi118 : FI Tryz.prog 118 := ⟨fun args w => by kernel_rfl⟩
instance fi119 : FI Tryz.prog 119 := ⟨fun args w => by kernel_rfl⟩
instance fi120 : FI Tryz.prog 120 := ⟨fun args w => by kernel_rfl⟩
instance fi121 : FI Tryz.prog 121 := ⟨fun args w => by kernel_rfl⟩
instance fi122 : FI Tryz.prog 122 := ⟨fun args w => by kernel_rfl⟩
instance fi123 : FI Tryz.prog 123 := ⟨fun args w => by kernel_rfl⟩
instance fi124 : FI Tryz.prog 124 := ⟨fun args w => by kernel_rfl⟩
instance fi125 : FI Tryz.prog 125 := ⟨fun args w => by kernel_rfl⟩
instance fi126 : FI Tryz.prog 126 := ⟨fun args w => by kernel_rfl⟩
instance fi127 : FI Tryz.prog 127 := ⟨fun args w => by kernel_rfl⟩
instance fi134 : FI Tryz.prog 134 := ⟨fun args w => by kernel_rfl⟩
instance fi135 : FI Tryz.prog 135 := ⟨fun args w => by kernel_rfl⟩
instance fi136 : FI Tryz.prog 136 := ⟨fun args w => by kernel_rfl⟩
instance fi137 : FI Tryz.prog 137 := ⟨fun args w => by kernel_rfl⟩
instance fi138 : FI Tryz.prog 138 := ⟨fun args w => by kernel_rfl⟩
instance fi139 : FI Tryz.prog 139 := ⟨fun args w => by kernel_rfl⟩
instance fi140 : FI Tryz.prog 140 := ⟨fun args w => by kernel_rfl⟩
instance fi146 : FI Tryz.prog 146 := ⟨fun args w => by kernel_rfl⟩
instance fi147 : FI Tryz.prog 147 := ⟨fun args w => by kernel_rfl⟩
instance fi148 : FI Tryz.prog 148 := ⟨fun args w => by kernel_rfl⟩
noncomputable instance ts31 : TS Tryz.prog 31 := ⟨#[(0, 1), (1, 1), (2, 1)], fun w => by kernel_rfl⟩
noncomputable instance ts41 : TS Tryz.prog 41 := ⟨#[(0, 1), (1, 1), (2, 1), (3, 1), (4, 1), (5, 1), (6, 1), (7, 1), (8, 1), (9, 1), (10, 1)], fun w => by kernel_rfl⟩
noncomputable instance ts43 : TS Tryz.prog 43 := ⟨#[(0, 1), (1, 1), (2, 1)], fun w => by kernel_rfl⟩
noncomputable instance ts45 : TS Tryz.prog 45 := ⟨#[(0, 1), (1, 1)], fun w => by kernel_rfl⟩
noncomputable instance ts47 : TS Tryz.prog 47 := ⟨#[(0, 1), (1, 1)], fun w => by kernel_rfl⟩
noncomputable instance ts51 : TS Tryz.prog 51 := ⟨#[(0, 1), (1, 1), (2, 1), (3, 1), (4, 1), (5, 1), (6, 1), (7, 1)], fun w => by kernel_rfl⟩
noncomputable instance ts53 : TS Tryz.prog 53 := ⟨#[(0, 1), (1, 1), (2, 1), (3, 1), (4, 1)], fun w => by kernel_rfl⟩
noncomputable instance ts67 : TS Tryz.prog 67 := ⟨#[(0, 1), (1, 1)], fun w => by kernel_rfl⟩
noncomputable instance ts75 : TS Tryz.prog 75 := ⟨#[(0, 1), (1, 1)], fun w => by kernel_rfl⟩
noncomputable instance ts77 : TS Tryz.prog 77 := ⟨#[(0, 2)], fun w => by kernel_rfl⟩
noncomputable instance ts80 : TS Tryz.prog 80 := ⟨#[(0, 2), (2, 1)], fun w => by kernel_rfl⟩
noncomputable instance ts86 : TS Tryz.prog 86 := ⟨#[(0, 1), (1, 1), (2, 1), (3, 1)], fun w => by kernel_rfl⟩
noncomputable instance ts93 : TS Tryz.prog 93 := ⟨#[(0, 1), (1, 1)], fun w => by kernel_rfl⟩
noncomputable instance ts95 : TS Tryz.prog 95 := ⟨#[(0, 1), (1, 1)], fun w => by kernel_rfl⟩
noncomputable instance ts126 : TS Tryz.prog 126 := ⟨#[(0, 1), (1, 1), (2, 1), (3, 1)], fun w => by kernel_rfl⟩
noncomputable instance ts134 : TS Tryz.prog 134 := ⟨#[(0, 1), (1, 1), (2, 1), (3, 1), (4, 1), (5, 1), (6, 1), (7, 1), (8, 1)], fun w => by kernel_rfl⟩
noncomputable instance ts150 : TS Tryz.prog 150 := ⟨#[(0, 1), (1, 1)], fun w => by kernel_rfl⟩
end Go.Proofs.YtlniadfidfmckaaGreatDoor
end

section
namespace Go.Vc
open Go.RowKit

/-- How a call ends: it returns (and what is known then), or it panics with a value. -/
inductive Fin : Type 1
  | ret (post : (S → List Ch → Prop) → Prop)
  | pan (v : Value)

def Pan (P : Program) [Gl P] (f : FuncId) (args : List S) (Hin : List Ch) (v : Value) : Prop :=
  ∀ (vs : List Value) (w : World) (A : Nat → Prop), (∀ b, A b → b < w.heap.size) → (∀ b ∈ hb Hin, A b) → (hb Hin).Nodup → SOks w A args vs → (∀ ch ∈ Hin, ch.ok w A) → Gl.ok P w A →
    Calls P f vs.toArray w (fun e w' => e = .panicked [{ v := v, recovered := false }] ∧ Grow (hb Hin) w w')
def ConE (P : Program) [Gl P] (f : FuncId) (args : List S) (Hin : List Ch) : Fin → Prop
  | .ret post => Con P f args Hin post
  | .pan v => Pan P f args Hin v

section
variable {P : Program} [Gl P] {nt : Nat} {c : Cx P nt} {env : Env} {H : List Ch} {K : S → List Ch → Prop}
variable {d : Option Tmp} {ty t t' : TypeId} {pos : String} {af : Array Edge} {g : Option (Nat × Bool)} {x y : Operand}
def RE (c : Cx P nt) : Fin → Ending → World → Prop
  | .ret post => RR c post
  | .pan v => fun e w' => e = .panicked [{ v := v, recovered := false }] ∧ Grow c.X c.B w'

theorem con_introE {f : FuncId} {fn : Func} {code : Code} {args : List S} {Hin : List Ch} {fin : Fin} (hf : P.funcs[f]? = some fn) (hbd : fn.body = some code) (hnt : fn.ntmps = nt) (hle : args.length ≤ nt)
    (h : ∀ c : Cx P nt, c.X = hb Hin → JC c code (bodyPost P fn (RE c fin)) (enum 0 args) Hin) : ConE P f args Hin fin := by
  cases fin with
  | ret post => exact con_intro hf hbd hnt hle h
  | pan u =>
    intro vs w A hA hHA hnd hvs hok hgl
    have hlen := soks_length hvs
    let c : Cx P nt := ⟨w, A, hb Hin, hA⟩
    have hav : ∀ b, c.av Hin b → A b := fun b hb => hb.elim id (hHA b)
    refine calls_of_wp hf hbd ?_
    refine h c rfl _ _ ⟨?_, rfl, ?_, ⟨rfl, rfl, rfl, Nat.le_refl _, fun _ _ _ => rfl, fun ch hch => Ch.up (Up.refl _ _) (fun b hb => .inl (hav b hb)) (fun _ _ => rfl) (hok ch hch), hnd, fun b hb => .inl hb, Gl.up (Up.refl _ _) (fun b hb => .inl (hav b hb)) hgl⟩⟩
    · simp only [Array.size_append, Array.size_replicate, List.size_toArray, hnt]
      omega
    · intro i s hi
      obtain ⟨v, _, h2, h3⟩ := enum_lookup hvs hi
      have hlt : i < vs.length := (List.getElem?_eq_some_iff.1 (by simpa using h2)).1
      rw [Array.getD_eq_getD_getElem?, Array.getElem?_append_left (by simpa using hlt)]
      simp only [List.getElem?_toArray]
      simp only [Nat.sub_zero] at h2
      rw [h2]
      exact sok_up (Up.refl _ _) (fun b hb => .inl (hav b hb)) s v h3

theorem pan_intro {f : FuncId} {fn : Func} {code : Code} {args : List S} {Hin : List Ch} {v : Value} (hf : P.funcs[f]? = some fn) (hbd : fn.body = some code) (hnt : fn.ntmps = nt) (hle : args.length ≤ nt)
    (h : ∀ c : Cx P nt, c.X = hb Hin → JC c code (bodyPost P fn (RE c (.pan v))) (enum 0 args) Hin) : Pan P f args Hin v :=
  con_introE (fin := .pan v) hf hbd hnt hle h
/-- At an exit: it has turned out how it ends. -/
theorem jq_fin {fn : Func} {fin : Fin} {post : (S → List Ch → Prop) → Prop} {ex : Exit} (he : fin = .ret post) (h : JQ c (bodyPost P fn (RR c post)) ex env H) : JQ c (bodyPost P fn (RE c fin)) ex env H := by
  subst he
  exact h

/-- A struct and two more results. -/
theorem jq_retRow2 {fn : Func} {post : (S → List Ch → Prop) → Prop} {a u u2 : Tmp} {b : Nat} {bt t : TypeId} [TI P t] {row : List C} {s' s'' : S} {Hx Hout : List Ch} (hres : fn.results = #[.cell a t, .tmp u, .tmp u2]) (ha : aggB (TI.u P t) = true) (hz : (TI.i P t).size = row.length) (hl : env.lookup a = some (.cell (.val (.pointer (some ⟨b, 0, none⟩))))) (hl' : env.lookup u = some s') (hl'' : env.lookup u2 = some s'') (j : Nat) (hj : pick [j] H = some ([.blk b bt row], Hx)) (hpost : ∀ K, post K → K (.tup [.row row, s', s'']) Hout) (hp : Sub H Hout) :
    JQ c (bodyPost P fn (RR c post)) .ret env H :=
  let ⟨_, _, hp⟩ := hp
  jq_retG (ss := [.row row, s', s'']) (.inl rfl) (by rw [hres]; exact ⟨.row row, _, b, j, bt, row, Hx, rfl, hl, hj, res_row ha hz, s', _, rfl, hl', s'', _, rfl, hl'', rfl⟩) hp hpost
/-- A test that is decided. -/
theorem jc_condT {Q : Exit → Act → World → Prop} {thn els : Code} {b : Bool} (hx : env.ev x = some (Bl b)) (hb : b = true) (h : JC c thn Q env H) : JC c (.cond x thn els) Q env H := jc_cond hx (fun _ => h) (fun h => by rw [hb] at h; cases h)
theorem jc_condF {Q : Exit → Act → World → Prop} {thn els : Code} {b : Bool} (hx : env.ev x = some (Bl b)) (hb : b = false) (h : JC c els Q env H) : JC c (.cond x thn els) Q env H := jc_cond hx (fun h => by rw [hb] at h; cases h) (fun _ => h)
/-- No result. -/
theorem jq_ret0 {fn : Func} {post : (S → List Ch → Prop) → Prop} {ex : Exit} (hex : ex = .ret ∨ ex = .normal) (hres : fn.results = #[]) (is : List Nat) {Hout Hr : List Ch} (hp : pick is H = some (Hout, Hr)) (hpost : ∀ K, post K → K (.tup []) Hout) : JQ c (bodyPost P fn (RR c post)) ex env H :=
  jq_retG (ss := []) hex (by rw [hres]; rfl) hp hpost
/-- What is asked at a panic. -/
def PanQ (c : Cx P nt) (Q : Exit → Act → World → Prop) (v : Value) : Prop := ∀ a w, a.defers = [] → Grow c.X c.B w → Q (.panic [{ v := v, recovered := false }]) a w
omit [Gl P] in
theorem pq_then {Q : Exit → Act → World → Prop} {K : Act → World → Prop} {v : Value} (h : PanQ c Q v) : PanQ c (Exit.then K Q) v := h
omit [Gl P] in
theorem pq_block {Q : Exit → Act → World → Prop} {id : Nat} {v : Value} (h : PanQ c Q v) : PanQ c (Exit.inBlock id Q) v := h
omit [Gl P] in
theorem pq_fin {fn : Func} {fin : Fin} {v : Value} (he : fin = .pan v) : PanQ c (bodyPost P fn (RE c fin)) v := by
  subst he
  exact fun a w hd hg => ⟨hd, rfl, hg⟩

theorem grow_st {w w' : World} {is : List Nat} {Hin Hr : List Ch} (h : StW c H w) (hp : pick is H = some (Hin, Hr)) (hg : Grow (hb Hin) w w') : Grow c.X c.B w' := by
  have h0 := stw_grow h
  refine ⟨hg.os.trans h0.os, hg.tape.trans h0.tape, hg.output.trans h0.output, Nat.le_trans h0.size hg.size, fun k hk hX => ?_⟩
  rw [hg.block k (Nat.lt_of_lt_of_le hk h0.size) ?_]
  · exact h0.block k hk hX
  · intro hk1
    have hm : k ∈ hb H := (hb_perm (pick_perm hp)).mem_iff.2 (by rw [hb_app]; exact List.mem_append.2 (.inl hk1))
    rcases h.mine k hm with h' | h'
    · exact hX h'
    · omega

/-- An operation that panics. -/
def OpPan (c : Cx P nt) (o : Oper) (env : Env) (H : List Ch) (v : Value) : Prop :=
  ∀ a w, St c env H a w → ∀ (next : Act → World → Prop) Q, PanQ c Q v → o.wp P a w next Q

theorem op_pan {Hin Hr : List Ch} {f : FuncId} [FI P f] {xs : Array Operand} {at_ : Array TypeId} {ss : List S} {v : Value} (is : List Nat) (hx : env.evs xs.toList = some ss) (hp : pick is H = some (Hin, Hr)) (con : Pan P f ss Hin v) :
    OpPan c ⟨d, .call { callee := .value (.func f), args := xs, argTypes := at_ }, ty, pos, af, g⟩ env H v := by
  intro a w h next Q hq
  have hperm := pick_perm hp
  have h' : StW c (Hin ++ Hr) w := h.heap.perm hperm
  have hav : c.av (Hin ++ Hr) = c.av H := av_perm c hperm
  have hnd := h'.nodup
  rw [hb_app, List.nodup_append] at hnd
  have hrun : (execOp a.eval ⟨d, .call { callee := .value (.func f), args := xs, argTypes := at_ }, ty, pos, af, g⟩).run P w = .ok (.enter f (xs.toList.map a.eval).toArray) w := by
    have e1 : (xs.map a.eval) = (xs.toList.map a.eval).toArray := by apply Array.ext'; simp
    simp only [execOp, resolve, invoke, Act.eval, Deferred.ofValue, Sem.run_bind, Sem.run_pure, Result.andThen_ok]
    rw [e1]
    simp [FI.hrun]
  unfold Oper.wp
  rw [hrun, Oper.upon_enter]
  refine (con (xs.toList.map a.eval) w (c.av H) (fun b hb => h.heap.avlt b hb) (fun b hb => by rw [← hav]; exact .inr (by rw [hb_app]; exact List.mem_append.2 (.inl hb))) hnd.1 (evs_ok h hx)
    (fun ch hch => by rw [← hav]; exact h'.ok ch (List.mem_append.2 (.inl hch))) h.heap.gl).mono ?_
  rintro e w' ⟨rfl, hg⟩
  exact hq a w' h.defers (grow_st h.heap hp hg)
theorem op_panic {u : TypeId} {v : Value} (hx : env.ev x = some (.cell (.val (.iface u v)))) : OpPan c ⟨d, .panic x, ty, pos, af, g⟩ env H (.iface u v) := by
  intro a w h next Q hq
  have hrun : (execOp a.eval ⟨d, .panic x, ty, pos, af, g⟩).run P w = .halt (.panic (.iface u v)) w := by
    simp [execOp, ev_val h hx, Instr.panic]
  unfold Oper.wp
  rw [hrun, Oper.upon_panic]
  exact hq a w h.defers (stw_grow h.heap)

theorem jl_pan {ops : Array Oper} {Q : Exit → Act → World → Prop} {l : List Oper} {op : Op} {v : Value} (h : OpPan c ⟨d, op, ty, pos, af, none⟩ env H v) (hq : PanQ c Q v) : JL c ops Q (⟨d, op, ty, pos, af, none⟩ :: l) env H := by
  intro a w hs
  exact wpList_plain rfl fun K _ => h a w hs _ _ hq
theorem ow_makeIface {vs : List Value} [TI P t] (hi : structB (TI.u P t) = true) (hx : env.ev x = some (.row (vs.map C.val))) (hK : K (.cell (.val (.iface t (.agg vs.toArray)))) H) : OpWp c ⟨d, .makeInterface t x, ty, pos, af, g⟩ env H K :=
  ow_valx rfl (fun a w h => by
    obtain ⟨cs, he, hr⟩ := ev_ok h hx
    have e1 : cs.toList = vs := rdRow_vals hr
    have e2 : cs = vs.toArray := by apply Array.ext'; simpa using e1
    subst e2
    have hu := u_of_struct hi
    have hu' : (underlying t).run P w = .ok (.struct (fieldsB (TI.u P t))) w := by rw [run_underlying (TI.hu (P := P) (t := t))]; exact congrArg (fun u => Result.ok u w) hu
    simp only [execOp, he, Instr.makeInterface, Sem.run_bind, hu', Result.andThen_ok, Sem.run_pure]) hK

def Env.vals (env : Env) : List Operand → Option (List Value)
  | [] => some []
  | x :: r => match env.ev x, Env.vals env r with
    | some (.cell (.val v)), some vs => some (v :: vs)
    | _, _ => none
theorem vals_ok {a : Act} {w : World} (h : St c env H a w) : ∀ {xs : List Operand} {vs : List Value}, env.vals xs = some vs → xs.map a.eval = vs
  | [], vs, hp => by simp only [Env.vals, Option.some.injEq] at hp; subst hp; rfl
  | x :: xs, vs, hp => by
    simp only [Env.vals] at hp
    split at hp
    · rename_i v vs' h1 h2
      simp only [Option.some.injEq] at hp
      subst hp
      rw [List.map_cons, ev_val h h1, vals_ok h h2]
    · cases hp
theorem ow_makeFunc {f : FuncId} {xs : Array Operand} {vs : List Value} (hx : env.vals xs.toList = some vs) (hK : K (.cell (.val (.func (.func f) #[] vs.toArray))) H) : OpWp c ⟨d, .makeFunc (.func f) #[] xs, ty, pos, af, g⟩ env H K :=
  ow_valx rfl (fun a w h => by
    have e1 : xs.map a.eval = vs.toArray := by apply Array.ext'; simpa using vals_ok h hx
    simp only [execOp, Instr.makeFunc, e1, Array.map_empty, Sem.run_bind, Sem.run_pure, Result.andThen_ok]) hK
theorem ow_negW {k : IntKind} {m : Int} (hx : env.ev x = some (In k m)) (hK : K (In k (k.wrap (-m))) H) : OpWp c ⟨d, .unOp .neg t x, ty, pos, af, g⟩ env H K :=
  ow_valx rfl (fun a w h => by simp [execOp, ev_val h hx, Op.unary, Op.intArith]) hK
/-- All of a package array, as a slice. -/
theorem ow_sliceG {b n : Nat} {e : TypeId} [TI P t] [TI P e] {rows : List (List C)} (hg : ∀ w A, Gl.ok P w A → GV w A b rows.flatten) (hu : TI.u P t = .array n e) (hn : rows.length = n) (hr : rows.all (fun r => decide (r.length = (TI.i P e).size)) = true) (hpos : 0 < (TI.i P e).size) (hmax : n ≤ maxLen)
    (hx : env.ev x = some (.cell (.val (.pointer (some ⟨b, 0, none⟩))))) (hK : K (.cell (.list rows)) H) : OpWp c ⟨d, .slice t x none none none, ty, pos, af, g⟩ env H K :=
  ow_val (fun a w h => by
    obtain ⟨hA, cs, bt, f, hh, hrow⟩ := hg _ _ h.heap.gl
    have hu1 : (underlying t).run P w = .ok (.array n e) w := by rw [run_underlying (TI.hu (P := P) (t := t)), hu]
    have hflat : ∀ (rows : List (List C)) (vs : List Value), rows.all (fun r => decide (r.length = (TI.i P e).size)) = true → RdRow w (c.av H) rows.flatten vs → RdRows w (c.av H) (TI.i P e).size rows vs := by
      intro rows
      induction rows with
      | nil => intro vs _ h; exact h
      | cons r rows ih =>
        intro vs hall h
        simp only [List.all_cons, Bool.and_eq_true, decide_eq_true_eq] at hall
        have h1 := rdRow_take r.length h
        have h2 := rdRow_drop r.length h
        simp only [List.flatten_cons, List.take_left', List.drop_left'] at h1 h2
        refine ⟨vs.take r.length, vs.drop r.length, (List.take_append_drop _ _).symm, ?_, h1, ih _ hall.2 h2⟩
        rw [rdRow_length h1, hall.1]
    refine ⟨.slice (some ⟨b, 0, none⟩) n n, ?_, some ⟨b, 0, none⟩, n, by rw [hn], by omega, hmax, .inr ⟨b, 0, cs.toList, (TI.i P e).size, rfl, hA, ?_, hpos, hflat _ _ hr hrow⟩⟩
    · simp [execOp, ev_val h hx, Instr.sliceAt, Instr.slice, Instr.sliceBounds, hu1, run_sizeOf, add_at, Instr.sureAddr]
    · intro j v hj
      simp only [World.cell?, hh, Nat.zero_add]
      simpa using hj) hK
end
end Go.Vc
end

section
namespace Go.Vc
open Go.RowKit

def PanI (Q : Exit → Act → World → Prop) : Prop := ∀ ch a d v w, Q (.panic ch) (Act.put a d v) w → Q (.panic ch) a w
theorem pani_then {K : Act → World → Prop} {Q : Exit → Act → World → Prop} (h : PanI Q) : PanI (Exit.then K Q) := h
theorem pani_block {id : Nat} {Q : Exit → Act → World → Prop} (h : PanI Q) : PanI (Exit.inBlock id Q) := h
theorem pani_body {P : Program} {fn : Func} {R : Ending → World → Prop} : PanI (bodyPost P fn R) := by
  intro ch a d v w h
  cases d <;> exact h

theorem len2 {α : Type} {l : List α} (h : l.length = 2) : ∃ v0 v1, l = [v0, v1] := by
  match l, h with
  | [v0, v1], _ => exact ⟨v0, v1, rfl⟩
theorem len5 {α : Type} {l : List α} (h : l.length = 5) : ∃ v0 v1 v2 v3 v4, l = [v0, v1, v2, v3, v4] := by
  match l, h with
  | [v0, v1, v2, v3, v4], _ => exact ⟨v0, v1, v2, v3, v4, rfl⟩
theorem len8 {α : Type} {l : List α} (h : l.length = 8) : ∃ v0 v1 v2 v3 v4 v5 v6 v7, l = [v0, v1, v2, v3, v4, v5, v6, v7] := by
  match l, h with
  | [v0, v1, v2, v3, v4, v5, v6, v7], _ => exact ⟨v0, v1, v2, v3, v4, v5, v6, v7, rfl⟩
section
variable {P : Program} {ops : Array Oper} {Q : Exit → Act → World → Prop} {md : Region.Mode} {S : World → Prop} {m : Nat}
def anyX (P : Program) (md : Region.Mode) (ops : Array Oper) (Q : Exit → Act → World → Prop) (S : World → Prop) (m : Nat) : Nat → Array Bool → Act → World → Prop
  | 0, listed, a, w => Region.ready md ops listed = [] ∧ Q .normal a w
  | fuel + 1, listed, a, w => (Region.ready md ops listed = [] → Q .normal a w) ∧ ∀ i ∈ Region.ready md ops listed, wpOp P ops Q i (fun a' w' => (i < m → S w') ∧ anyX P md ops Q S m fuel (listed.setIfInBounds i true) a' w') a w
theorem any_of_x : ∀ (fuel : Nat) (listed : Array Bool) (a : Act) (w : World), anyX P md ops Q S m fuel listed a w → wpAny P md ops Q fuel listed a w
  | 0, _, _, _, h => h
  | fuel + 1, _, _, _, h => ⟨h.1, fun i hi => wpOp_mono (fun a' w' h' => any_of_x fuel _ a' w' h'.2) (h.2 i hi)⟩
/-- One that only looks is taken first; the later ones wait for it. -/
theorem anyX_first {i : Nat} {oi : Oper} {v : Value} (hi : ops[i]? = some oi) (hsel : ∀ (j : Nat) (o : Oper) cs b, ops[j]? = some o → o.op ≠ .select cs b) (hQ : ∀ c a w, Q (.panic c) (a.put oi.dst v) w → Q (.panic c) a w)
    (hlate : ∀ (j : Nat) (o : Oper), m ≤ j → ops[j]? = some o → j ≠ i → ∃ e ∈ o.after, Region.binds md e = true ∧ e.on = i) :
    ∀ (fuel : Nat) (listed : Array Bool) (a : Act) (w : World),
      (∀ j oj, ops[j]? = some oj → j ≠ i → listed.getD j true = false → (∀ e ∈ oj.after, Region.binds md e = true → e.on ≠ i) → oi.apart ops oj = true) →
      i ∈ Region.ready md ops listed → YieldsIf P ops S oi v a → S w →
      anyX P md ops Q S m fuel (listed.setIfInBounds i true) (a.put oi.dst v) w → anyX P md ops Q S m (fuel + 1) listed a w := by
  intro fuel
  induction fuel with
  | zero =>
    intro listed a w _ hr hy hS hX
    refine ⟨fun h => (by rw [h] at hr; cases hr), fun j hj => ?_⟩
    by_cases hji : j = i
    · subst hji; exact hy.wpOp hi hS ⟨fun _ => hS, hX⟩
    · have := ready_mono hj hji
      rw [hX.1] at this
      cases this
  | succ fuel ih =>
    intro listed a w hfree hr hy hS hX
    refine ⟨fun h => (by rw [h] at hr; cases hr), fun j hj => ?_⟩
    by_cases hji : j = i
    · subst hji; exact hy.wpOp hi hS ⟨fun _ => hS, hX⟩
    · obtain ⟨hjun, oj, hoj, hall⟩ := mem_ready.1 hj
      have hnot : ∀ e ∈ oj.after, Region.binds md e = true → e.on ≠ i := fun e he hbd heq => by
        have h1 := hall e he hbd
        have h0 := (mem_ready.1 hr).1
        rw [heq] at h1
        rw [Array.getD_eq_getD_getElem?] at h0 h1
        cases hl : listed[i]? with
        | none => rw [hl] at h1; cases h1
        | some bb => rw [hl] at h0 h1; simp only [Option.getD_some] at h0 h1; rw [h0] at h1; cases h1
      have hjm : j < m := by
        rcases Nat.lt_or_ge j m with h | h
        · exact h
        · obtain ⟨e, he, hbd, hon⟩ := hlate j oj h hoj hji
          exact absurd hon (hnot e he hbd)
      have h2 := wpOp_putIf hoj (hfree j oj hoj hji hjun hnot) (fun cs b => hsel i oi cs b hi) (fun cs b => hsel j oj cs b hoj) hQ hy (hX.2 j (ready_mono hj hji))
      refine wpOp_mono (fun a' w' h3 => ⟨fun _ => h3.2.1 hjm, ih (listed.setIfInBounds j true) a' w' ?_ (ready_mono hr (Ne.symm hji)) h3.1 (h3.2.1 hjm) ?_⟩) h2
      · intro k ok hk hki hun hno
        refine hfree k ok hk hki ?_ hno
        by_cases hjk : j = k
        · subst hjk; exact hjun
        · rw [getD_set_ne true hjk] at hun; exact hun
      · rw [Array.setIfInBounds_comm _ _ hji]
        exact h3.2.2
end

section
variable {P : Program} [Gl P] {nt : Nat} {c : Cx P nt} {env : Env} {H Hr : List Ch} {ops : Array Oper} {Q : Exit → Act → World → Prop} {Sw : World → Prop} {L : List (Nat × List Value × TypeId)}
variable {m fuel : Nat} {listed : Array Bool} {d ty t t' : TypeId} {pos : String} {af : Array Edge} {x y : Operand}

def HP (c : Cx P nt) (ops : Array Oper) (Q : Exit → Act → World → Prop) (Sw : World → Prop) (m fuel : Nat) (listed : Array Bool) (env : Env) (H : List Ch) : Prop :=
  ∀ a w, St c env H a w → Sw w → anyX P .any ops Q Sw m fuel listed a w
/-- From number m on each waits for this one. -/
def lateWait (ops : Array Oper) (m i : Nat) : Bool := ops.toList.zipIdx.all fun (o, j) => decide (j < m) || j == i || hasEdge o i
omit [Gl P] in
theorem late_spec {i : Nat} (h : lateWait ops m i = true) : ∀ (j : Nat) (o : Oper), m ≤ j → ops[j]? = some o → j ≠ i → ∃ e ∈ o.after, Region.binds .any e = true ∧ e.on = i := by
  intro j o hj ho hne
  have h1 := List.all_eq_true.1 h (o, j) (by rw [List.mem_zipIdx_iff_getElem?]; simpa using ho)
  have h2 : decide (j < m) = false := by simpa using hj
  have h3 : (j == i) = false := by simpa using hne
  simp only [h2, h3, Bool.false_or] at h1
  exact edge_spec h1
theorem hp_take {i : Nat} {op : Op} {s : S} (hi : ops[i]? = some ⟨some d, op, ty, pos, af, none⟩) (hs : (Region.noSelect ops && lateWait ops m i) = true) (hf : Region.free .any ops listed i = true) (hr : (Region.ready .any ops listed).contains i = true) (hd : d < nt) (hQ : PanI Q)
    (hop : HOk c Sw env H ⟨some d, op, ty, pos, af, none⟩ s) (h : HP c ops Q Sw m fuel (listed.setIfInBounds i true) ((d, s) :: env) H) : HP c ops Q Sw m (fuel + 1) listed env H := by
  intro a w hst hS
  obtain ⟨v, h1, h2⟩ := hop a w hst hS
  rw [Bool.and_eq_true] at hs
  exact anyX_first hi (Region.noSelect_spec hs.1) (fun ch a w h => hQ ch a _ _ w h) (late_spec hs.2) fuel listed a w (Region.free_spec hi hf) (by simpa using hr) (.inl ⟨rfl, h1⟩) hS (h _ _ (hst.next hd hst.heap h2 (fun _ _ h => h)) hS)
omit [Gl P] in
theorem anyX_all {rs : List Nat} {a : Act} {w : World} (hr : Region.ready .any ops listed = rs) (hne : rs ≠ []) (h : ∀ i ∈ rs, wpOp P ops Q i (fun a' w' => (i < m → Sw w') ∧ anyX P .any ops Q Sw m fuel (listed.setIfInBounds i true) a' w') a w) : anyX P .any ops Q Sw m (fuel + 1) listed a w :=
  ⟨fun h0 => absurd (hr ▸ h0) hne, hr ▸ h⟩
/-- The only one that may come up now. -/
theorem hp_op {i : Nat} {op : Op} (hi : ops[i]? = some ⟨some d, op, ty, pos, af, none⟩) (hr : Region.ready .any ops listed = [i]) (hd : d < nt)
    (h : OpWp c ⟨some d, op, ty, pos, af, none⟩ env H (fun s H' => (∀ w, StW c H' w → Sw w) ∧ HP c ops Q Sw m fuel (listed.setIfInBounds i true) ((d, s) :: env) H')) : HP c ops Q Sw m (fuel + 1) listed env H := by
  intro a w hst hS
  refine anyX_all hr (by simp) (fun j hj => ?_)
  obtain rfl : j = i := by simpa using hj
  unfold wpOp
  rw [hi]
  dsimp only
  rw [if_pos (show Region.wanted _ _ = true from rfl)]
  refine .inl (h a w hst _ _ ?_)
  intro s H' v w' hK hw' hv hk
  exact ⟨fun _ => hK.1 _ hw', hK.2 _ _ (hst.next hd hw' hv hk) (hK.1 _ hw')⟩
theorem hp_op0 {i : Nat} {op : Op} (hi : ops[i]? = some ⟨none, op, ty, pos, af, none⟩) (hr : Region.ready .any ops listed = [i])
    (h : OpWp c ⟨none, op, ty, pos, af, none⟩ env H (fun _ H' => (∀ w, StW c H' w → Sw w) ∧ HP c ops Q Sw m fuel (listed.setIfInBounds i true) env H')) : HP c ops Q Sw m (fuel + 1) listed env H := by
  intro a w hst hS
  refine anyX_all hr (by simp) (fun j hj => ?_)
  obtain rfl : j = i := by simpa using hj
  unfold wpOp
  rw [hi]
  dsimp only
  rw [if_pos (show Region.wanted _ _ = true from rfl)]
  refine .inl (h a w hst _ _ ?_)
  intro s H' v w' hK hw' hv hk
  exact ⟨fun _ => hK.1 _ hw', hK.2 _ _ (hst.next0 hw' hk) (hK.1 _ hw')⟩
theorem hp_pan {i : Nat} {dd : Option Nat} {op : Op} {v : Value} (hi : ops[i]? = some ⟨dd, op, ty, pos, af, none⟩) (hr : Region.ready .any ops listed = [i])
    (h : OpPan c ⟨dd, op, ty, pos, af, none⟩ env H v) (hq : PanQ c Q v) : HP c ops Q Sw m (fuel + 1) listed env H := by
  intro a w hst hS
  refine anyX_all hr (by simp) (fun j hj => ?_)
  obtain rfl : j = i := by simpa using hj
  unfold wpOp
  rw [hi]
  dsimp only
  rw [if_pos (show Region.wanted _ _ = true from rfl)]
  exact .inl (h a w hst _ _ hq)
theorem hp_done (hr : Region.ready .any ops listed = []) (h : JQ c Q .normal env H) : HP c ops Q Sw m fuel listed env H := by
  intro a w hst _
  cases fuel with
  | zero => exact ⟨hr, h a w hst⟩
  | succ fuel => exact ⟨fun _ => h a w hst, by rw [hr]; simp⟩
/-- What comes behind the first m, one after the other: nothing need hold any more. -/
def HT (c : Cx P nt) (ops : Array Oper) (Q : Exit → Act → World → Prop) (Sw : World → Prop) (m fuel : Nat) (listed : Array Bool) (env : Env) (H : List Ch) : Prop :=
  ∀ a w, St c env H a w → anyX P .any ops Q Sw m fuel listed a w
theorem hp_tail (h : HT c ops Q Sw m fuel listed env H) : HP c ops Q Sw m fuel listed env H := fun a w hst _ => h a w hst
theorem ht_op {i : Nat} {op : Op} (hi : ops[i]? = some ⟨some d, op, ty, pos, af, none⟩) (hr : Region.ready .any ops listed = [i]) (hd : d < nt) (hm : m ≤ i)
    (h : OpWp c ⟨some d, op, ty, pos, af, none⟩ env H (fun s H' => HT c ops Q Sw m fuel (listed.setIfInBounds i true) ((d, s) :: env) H')) : HT c ops Q Sw m (fuel + 1) listed env H := by
  intro a w hst
  refine anyX_all hr (by simp) (fun j hj => ?_)
  obtain rfl : j = i := by simpa using hj
  unfold wpOp
  rw [hi]
  dsimp only
  rw [if_pos (show Region.wanted _ _ = true from rfl)]
  refine .inl (h a w hst _ _ ?_)
  intro s H' v w' hK hw' hv hk
  exact ⟨fun hlt => absurd hlt (by omega), hK _ _ (hst.next hd hw' hv hk)⟩
theorem ht_op0 {i : Nat} {op : Op} (hi : ops[i]? = some ⟨none, op, ty, pos, af, none⟩) (hr : Region.ready .any ops listed = [i]) (hm : m ≤ i)
    (h : OpWp c ⟨none, op, ty, pos, af, none⟩ env H (fun _ H' => HT c ops Q Sw m fuel (listed.setIfInBounds i true) env H')) : HT c ops Q Sw m (fuel + 1) listed env H := by
  intro a w hst
  refine anyX_all hr (by simp) (fun j hj => ?_)
  obtain rfl : j = i := by simpa using hj
  unfold wpOp
  rw [hi]
  dsimp only
  rw [if_pos (show Region.wanted _ _ = true from rfl)]
  refine .inl (h a w hst _ _ ?_)
  intro s H' v w' hK hw' hv hk
  exact ⟨fun hlt => absurd hlt (by omega), hK _ _ (hst.next0 hw' hk)⟩
theorem ht_done (hr : Region.ready .any ops listed = []) (h : JQ c Q .normal env H) : HT c ops Q Sw m fuel listed env H := by
  intro a w hst
  cases fuel with
  | zero => exact ⟨hr, h a w hst⟩
  | succ fuel => exact ⟨fun _ => h a w hst, by rw [hr]; simp⟩
theorem hp_exact {b : Nat} {bt : TypeId} {row : List C} {cs : List Value} (j : Nat) (hp : pick [j] H = some ([.blk b bt row], Hr)) (hm : (b, cs, bt) ∈ L) (h : HP c ops Q (Keep L) m fuel listed env (.blk b bt (cs.map C.val) :: Hr)) : HP c ops Q (Keep L) m fuel listed env H := by
  intro a w hst hS
  obtain ⟨cs', g1, g2⟩ := blk_ok hst hp
  have g3 := hS _ hm
  dsimp only at g3
  rw [g1] at g3
  obtain rfl : cs' = cs := by simpa using g3
  exact h a w (st_row hst hp ⟨cs', g1, rdRow_exact g2⟩) hS
theorem hp_begin {id n : Nat} (m : Nat) (hn : ops.size = n) (hm : P.follows .mixedOrders = true) {a : Act} {w : World} (hs : St c env H a w) (hS : Sw { w with drawn := w.drawn + 1 }) (h : HP c ops Q Sw m n (Array.replicate n false) env H) : (Code.region id ops true).wp P Q a w := by
  subst hn
  refine wp_region_any hm (any_of_x (S := Sw) (m := m) _ _ _ _ ?_)
  obtain ⟨d1, d2⟩ := stw_drew hs.heap
  exact h a _ ⟨hs.size, hs.defers, fun t s hl => d2 _ _ (hs.slots t s hl), d1⟩ hS
theorem jc_hp1 {id n : Nat} (m : Nat) (hn : ops.size = n) {b1 : Nat} {t1 : TypeId} {r1 : List C} (j1 : Nat) (hm : P.follows .mixedOrders = true) (hp : pick [j1] H = some ([.blk b1 t1 r1], Hr))
    (h : ∀ cs1 : List Value, cs1.length = r1.length → HP c ops Q (Keep [(b1, cs1, t1)]) m n (Array.replicate n false) env H) : JC c (.region id ops true) Q env H := by
  intro a w hs
  obtain ⟨cs1, g1, k1⟩ := blk_ok hs hp
  refine hp_begin m hn hm hs ?_ (h cs1 (rdRow_length k1))
  intro p hp
  obtain rfl := List.mem_singleton.1 hp
  exact g1
/-- A block each of whose cells is known. -/
theorem jc_hpV {id n : Nat} (m : Nat) (hn : ops.size = n) {b1 : Nat} {t1 : TypeId} {r1 : List C} (j1 : Nat) (vs : List Value) (hm : P.follows .mixedOrders = true) (hp : pick [j1] H = some ([.blk b1 t1 r1], Hr)) (hv : r1 = vs.map C.val)
    (h : HP c ops Q (Keep [(b1, vs, t1)]) m n (Array.replicate n false) env H) : JC c (.region id ops true) Q env H := by
  intro a w hs
  obtain ⟨cs1, g1, g2⟩ := blk_ok hs hp
  subst hv
  obtain rfl := rdRow_vals g2
  refine hp_begin m hn hm hs ?_ h
  intro p hp
  obtain rfl := List.mem_singleton.1 hp
  exact g1
theorem keep1 {b1 : Nat} {t1 : TypeId} {cs1 : List Value} (j : Nat) (hp : H[j]? = some (.blk b1 t1 (cs1.map C.val))) : ∀ w, StW c H w → Keep [(b1, cs1, t1)] w :=
  keep_of (fun p hp2 => by
    obtain rfl := List.mem_singleton.1 hp2
    exact List.mem_of_getElem? hp)
theorem mem0 {α : Type} {x : α} {l : List α} : x ∈ x :: l := List.mem_cons_self ..
theorem hok_nilCheck {d : Option Tmp} {b o : Nat} {sp : Option Nat} (hx : env.ev x = some (.cell (.val (.pointer (some ⟨b, o, sp⟩))))) : HOk c Sw env H ⟨d, .nilCheck x, ty, pos, af, none⟩ (.cell (.val (.pointer (some ⟨b, o, sp⟩)))) :=
  fun _ _ hst _ => ⟨.pointer (some ⟨b, o, sp⟩), fun _ _ => by simp [execOp, ev_val hst hx], rfl, rfl⟩
end
end Go.Vc
end

section
namespace Go.Vc
open Go.RowKit

section
variable {P : Program} [Gl P] {nt : Nat} {c : Cx P nt} {env : Env} {H : List Ch} {K : S → List Ch → Prop}
variable {d : Option Tmp} {ty t t' : TypeId} {pos : String} {af : Array Edge} {g : Option (Nat × Bool)} {x y : Operand}
/-- A slice of one constant struct. -/
theorem ow_buildSliceC [SL P t] {z : Value} {arr : Array Value} {row : List C} (cs : List Value) (hc : arr.toList = cs) (h1 : cs.all Value.oneCell' = true) (hz : (TI.i P (SL.e P t)).zero = some z) (hrow : row = cs.map C.val)
    (hpos : 0 < (TI.i P (SL.e P t)).size) (hs : sliceRows (TI.i P (SL.e P t)).size 0 [(0, S.row row)] = some [row]) (hlim : (TI.i P (SL.e P t)).size ≤ 16777216) (hK : K (.cell (.list [row])) H) : OpWp c ⟨d, .buildSlice t 1 #[(0, .const (.agg arr))], ty, pos, af, g⟩ env H K := by
  intro a w h next Q hn
  have hparts : Parts w (c.av H) [(0, S.row row)] [(0, .agg arr)] := by
    refine ⟨.agg arr, [], rfl, ⟨arr, rfl, ?_⟩, rfl⟩
    rw [hc, hrow]
    exact rdRow_zero cs (List.all_eq_true.1 h1)
  obtain ⟨cs', g1, g2⟩ := run_buildSlice (P := P) (t := t) (len := 1) hz rfl hparts hs rfl (by omega)
  have hg : Grow (hb []) w (w.alloc (.cells cs'.toArray (SL.e P t))) := ⟨rfl, rfl, rfl, by simp, fun k hk _ => Below.heap_alloc _ _ _ hk⟩
  have h' : StW c ([] ++ H) w := h.heap
  obtain ⟨s1, s2⟩ := StW.step (H1' := []) h' hg (by simp [hb]) (by simp [hb]) (by simp)
  have hav : ¬ c.av H w.heap.size := fun hx => by have := h.heap.avlt _ hx; omega
  have hr := rdRows_up (hg.up (A := c.av H) (by simp [hb])) (fun b hb => Or.inl hb) _ _ _ g2
  unfold Oper.wp
  have hrun : (execOp a.eval ⟨d, .buildSlice t 1 #[(0, .const (.agg arr))], ty, pos, af, g⟩).run P w = .ok (.value (.slice (some ⟨w.heap.size, 0, none⟩) 1 1)) (w.alloc (.cells cs'.toArray (SL.e P t))) := by
    simp only [execOp, List.map_toArray, List.map_cons, List.map_nil, Act.eval, Sem.run_bind, g1, Result.andThen_ok, Sem.run_pure]
  rw [hrun]
  refine hn _ H _ _ hK s1 ?_ s2
  exact rdRows_cells (e := SL.e P t) hr hpos (by show (w.heap.push _)[w.heap.size]? = _; simp) hav _ (Nat.le_refl _) (by unfold maxLen; omega)
/-- Append of one element, to lists that are not long. -/
theorem ow_apR {α : Type} {f : α → List C} {v : Value} {e : TypeId} {k : Nat} {l1 : List α} {Hr : List Ch} [SL P t] {z : Value} (j : Nat) (a : α) (hx : env.ev x = some (.cell (.val v))) (hp : pick [j] H = some ([.own v e k (l1.map f)], Hr)) (hy : env.ev y = some (.cell (.list [f a])))
    (he : SL.e P t = e) (hz : (TI.i P (SL.e P t)).zero = some z) (hzs : z.cells.size = k) (hsz : (TI.i P (SL.e P t)).size = k)
    (hrow : ∀ a, (f a).length = k) (hlen : l1.length ≤ 2000000) (hb : (TI.i P (SL.e P t)).bytes ≤ 1000)
    (hK : ∀ v', v'.oneCell' = true → K (.cell (.val v')) (.own v' e k ((l1 ++ [a]).map f) :: Hr)) :
    OpWp c ⟨d, .call { callee := .builtin .append, args := #[x, y], argTypes := #[t, t] }, ty, pos, af, g⟩ env H K :=
  ow_append1 j a hx hp hy he hz hzs hsz hrow (by have := Nat.mul_le_mul (show l1.length + 1 ≤ 2000001 by omega) hb; omega) (by omega) hK
/-- Append of one row. -/
theorem ow_apRow {v : Value} {e : TypeId} {k : Nat} {rows : List (List C)} {row : List C} {Hr : List Ch} [SL P t] {z : Value} (j : Nat) (hx : env.ev x = some (.cell (.val v))) (hp : pick [j] H = some ([.own v e k rows], Hr)) (hy : env.ev y = some (.cell (.list [row])))
    (he : SL.e P t = e) (hz : (TI.i P (SL.e P t)).zero = some z) (hzs : z.cells.size = k) (hsz : (TI.i P (SL.e P t)).size = k)
    (hrow : row.length = k) (hlen : rows.length ≤ 2000000) (hb : (TI.i P (SL.e P t)).bytes ≤ 1000)
    (hK : ∀ v', v'.oneCell' = true → K (.cell (.val v')) (.own v' e k (rows ++ [row]) :: Hr)) :
    OpWp c ⟨d, .call { callee := .builtin .append, args := #[x, y], argTypes := #[t, t] }, ty, pos, af, g⟩ env H K :=
  ow_append j hx hp hy he hz hzs hsz (by intro r hr; obtain rfl := List.mem_singleton.1 hr; exact hrow) (by have := Nat.mul_le_mul (show rows.length + 1 ≤ 2000001 by omega) hb; simp only [List.length_singleton]; omega) (by simp only [List.length_singleton]; omega) hK
/-- What is owned becomes what is only read: where cell i of a block holds it. -/
theorem st_freezeBi {a : Act} {w : World} {v : Value} {e t : TypeId} {b k j j2 : Nat} {rows : List (List C)} {row : List C} {Hr Hr2 : List Ch} (i : Nat) (h : St c env H a w) (hp : pick [j] H = some ([.own v e k rows], Hr)) (hp2 : pick [j2] Hr = some ([.blk b t row], Hr2)) (hi : row[i]? = some (.val v)) (hX : ∀ b ∈ c.X, b ∈ hb Hr) :
    St c env (.blk b t (row.set i (.list rows)) :: Hr2) a w := by
  have h' : StW c (.own v e k rows :: Hr) w := h.heap.perm (pick_perm hp)
  have hav : c.av (.own v e k rows :: Hr) = c.av H := av_perm c (pick_perm hp)
  obtain ⟨f1, f2, f3⟩ := stw_freeze h' hX
  have hs : St c env Hr a w := ⟨h.size, h.defers, fun t s hl => f3 _ _ (by rw [hav]; exact h.slots t s hl), f1⟩
  obtain ⟨cs, g1, g2⟩ := blk_ok hs hp2
  refine st_row hs hp2 ⟨cs, g1, ?_⟩
  obtain ⟨u, hu, hr⟩ := rdRow_get g2 hi
  have := rdRow_set (i := i) g2 (c := .list rows) (v := u) (by rw [hr.1]; exact f2)
  obtain ⟨hlt, rfl⟩ := List.getElem?_eq_some_iff.1 hu
  rwa [List.set_getElem_self] at this
theorem jq_freezeBi {Q : Exit → Act → World → Prop} {ex : Exit} (j j2 i : Nat) {v : Value} {e t : TypeId} {b k : Nat} {rows : List (List C)} {row : List C} {Hr Hr2 : List Ch} (hp : pick [j] H = some ([.own v e k rows], Hr)) (hp2 : pick [j2] Hr = some ([.blk b t row], Hr2)) (hi : row[i]? = some (.val v)) (hX : ∀ b ∈ c.X, b ∈ hb Hr)
    (h : JQ c Q ex env (.blk b t (row.set i (.list rows)) :: Hr2)) : JQ c Q ex env H := fun a w hs => h a w (st_freezeBi i hs hp hp2 hi hX)
end
end Go.Vc
end

section
namespace Go.Vc
open Go.RowKit

section
variable {P : Program} [Gl P] {nt : Nat} {c : Cx P nt} {env : Env} {H : List Ch} {K : S → List Ch → Prop}
variable {d : Option Tmp} {ty t t' : TypeId} {pos : String} {af : Array Edge} {g : Option (Nat × Bool)} {x y : Operand}
def EqSelf (P : Program) (n : Nat) (t : TypeId) (v : Value) : Prop := ∀ w, (Op.equalIn n t v v).run P w = .ok true w
omit [Gl P] in
theorem eqself_int [TI P t] {k : IntKind} (h : TI.u P t = .int k) (n : Nat) (a : Int) : EqSelf P (n + 1) t (.int k a) := fun w => by
  rw [run_equalIn_int w n t k k a a (by rw [TI.hu (P := P) (t := t), h])]
  simp
omit [Gl P] in
theorem eqself_str [TI P t] (h : TI.u P t = .string) (n : Nat) (a : ByteArray) : EqSelf P (n + 1) t (.string a) := fun w => by
  rw [run_equalIn_string w n t a a (by rw [TI.hu (P := P) (t := t), h])]
  simp
omit [Gl P] in
theorem part_leaf [TI P t] {cs : Array Value} {i : Nat} {v : Value} (ha : aggB (TI.u P t) = false) (hv : cs[i]? = some v) (w : World) : (part t cs i).run P w = .ok v w := by
  simp only [part, Sem.run_bind, run_isAgg, ha, Result.andThen_ok, Bool.false_eq_true, if_false, hv, Sem.run_pure]
omit [Gl P] in
theorem part_agg [TI P t] {cs : Array Value} {i : Nat} {vs : List Value} (ha : aggB (TI.u P t) = true) (hv : cs.extract i (i + (TI.i P t).size) = vs.toArray) (w : World) : (part t cs i).run P w = .ok (.agg vs.toArray) w := by
  simp only [part, Sem.run_bind, run_isAgg, ha, Result.andThen_ok, if_true, run_sizeOf, hv, Sem.run_pure]
/-- Each field is equal to itself. -/
def FsOk (P : Program) (n : Nat) (cs : Array Value) : List Field → Prop
  | [] => True
  | f :: fs => (∃ v, (∀ w, (part f.type cs f.offset).run P w = .ok v w) ∧ EqSelf P n f.type v) ∧ FsOk P n cs fs
omit [Gl P] in
theorem run_eqFields_self {n : Nat} {cs : Array Value} : ∀ (fs : List Field) (w : World), FsOk P n cs fs → (Op.eqFields n cs cs fs).run P w = .ok true w
  | [], w, _ => rfl
  | f :: fs, w, ⟨⟨v, h1, h2⟩, h3⟩ => by
    have ih := run_eqFields_self fs w h3
    rw [Op.eqFields]
    split
    · simp only [Sem.run_bind, h1, Result.andThen_ok, h2 w, Bool.not_true, Bool.false_eq_true, if_false, ih]
    · exact ih
omit [Gl P] in
theorem eqself_agg {n : Nat} {vs : List Value} {fs : List Field} (ht : P.underlying t = some (.struct (P.fieldsOf t))) (hp : P.stoodInHeld t = false) (hf : (P.fieldsOf t).toList = fs) (h : FsOk P n vs.toArray fs) : EqSelf P (n + 1) t (.agg vs.toArray) := fun w => by
  rw [run_equalIn_agg w n t _ _ ht hp, hf]
  exact run_eqFields_self fs w h
theorem ow_neqSelf {vs : List Value} (hm : P.eqGuardType P.depth t = false) (he : EqSelf P 10000 t (.agg vs.toArray)) (hx : env.ev x = some (.row (vs.map C.val))) (hy : env.ev y = some (.row (vs.map C.val))) (hK : K (Bl false) H) : OpWp c ⟨d, .binOp .neq t x y t', ty, pos, af, g⟩ env H K :=
  ow_valx rfl (fun ac w h => by
    have two : ∀ {z : Operand}, env.ev z = some (.row (vs.map C.val)) → ac.eval z = .agg vs.toArray := by
      intro z hz
      obtain ⟨cs, he, hr⟩ := ev_ok h hz
      have e1 : cs.toList = vs := rdRow_vals hr
      have e2 : cs = vs.toArray := by apply Array.ext'; simpa using e1
      rw [he, e2]
    simp only [execOp, two hx, two hy, Sem.run_bind, run_eqGuard_agg w _ _ _ _ _ _ hm, Result.andThen_ok, run_neq_struct, he w, Sem.run_pure]
    rfl) hK
end
end Go.Vc
end

section
namespace Go.Vc
open Go.RowKit

/-- A deferred call: what its frame's caller was doing (u), what it does then (u'). -/
def ConD (P : Program) [Gl P] (f : FuncId) (args : List S) (Hin : List Ch) (u u' : FrameMode) (Hout : List Ch) : Prop :=
  ∀ (vs : List Value) (w : World) (A : Nat → Prop), (∀ b, A b → b < w.heap.size) → (∀ b ∈ hb Hin, A b) → (hb Hin).Nodup → SOks w A args vs → (∀ ch ∈ Hin, ch.ok w A) → Gl.ok P w A →
    CallsD P f vs.toArray u w (fun e uu w' => (∃ v, e = .returned v) ∧ uu = u' ∧ (∀ ch ∈ Hout, ch.ok w' (fun b => A b ∨ b ∈ hb Hout)) ∧ (hb Hout).Nodup ∧ (∀ b ∈ hb Hout, b ∈ hb Hin ∨ w.heap.size ≤ b) ∧ Grow (hb Hin) w w')
section
variable {P : Program} [Gl P] {nt : Nat} {c : Cx P nt} {env : Env} {H : List Ch} {K : S → List Ch → Prop}
variable {d : Option Tmp} {ty t t' : TypeId} {pos : String} {af : Array Edge} {g : Option (Nat × Bool)} {x y : Operand}
def RD (c : Cx P nt) (u' : FrameMode) (Hout : List Ch) (e : Ending) (uu : FrameMode) (w' : World) : Prop :=
  (∃ v, e = .returned v) ∧ uu = u' ∧ (∀ ch ∈ Hout, ch.ok w' (fun b => c.A b ∨ b ∈ hb Hout)) ∧ (hb Hout).Nodup ∧ (∀ b ∈ hb Hout, b ∈ c.X ∨ c.B.heap.size ≤ b) ∧ Grow c.X c.B w'
theorem cond_intro {f : FuncId} {fn : Func} {code : Code} {args : List S} {Hin Hout : List Ch} {u u' : FrameMode} (hf : P.funcs[f]? = some fn) (hbd : fn.body = some code) (hnt : fn.ntmps = nt) (hle : args.length ≤ nt)
    (h : ∀ c : Cx P nt, c.X = hb Hin → ∀ (c₀ : Frame) (cs : List Frame), c₀.mode = u → ∀ a w, St c (enum 0 args) Hin a w → code.wpS P (bodyPostS P fn c₀ cs (RD c u' Hout)) a (c₀ :: cs) w) : ConD P f args Hin u u' Hout := by
  intro vs w A hA hHA hnd hvs hok hgl
  have hlen := soks_length hvs
  let c : Cx P nt := ⟨w, A, hb Hin, hA⟩
  have hav : ∀ b, c.av Hin b → A b := fun b hb => hb.elim id (hHA b)
  refine callsD_of_wpS hf hbd fun c₀ cs hu => ?_
  refine h c rfl c₀ cs hu _ _ ⟨?_, rfl, ?_, ⟨rfl, rfl, rfl, Nat.le_refl _, fun _ _ _ => rfl, fun ch hch => Ch.up (Up.refl _ _) (fun b hb => .inl (hav b hb)) (fun _ _ => rfl) (hok ch hch), hnd, fun b hb => .inl hb, Gl.up (Up.refl _ _) (fun b hb => .inl (hav b hb)) hgl⟩⟩
  · simp only [Array.size_append, Array.size_replicate, List.size_toArray, hnt]
    omega
  · intro i s hi
    obtain ⟨v, _, h2, h3⟩ := enum_lookup hvs hi
    have hlt : i < vs.length := (List.getElem?_eq_some_iff.1 (by simpa using h2)).1
    rw [Array.getD_eq_getD_getElem?, Array.getElem?_append_left (by simpa using hlt)]
    simp only [List.getElem?_toArray]
    simp only [Nat.sub_zero] at h2
    rw [h2]
    exact sok_up (Up.refl _ _) (fun b hb => .inl (hav b hb)) s v h3
/-- How such a call ends. -/
theorem jq_retD {fn : Func} {c₀ : Frame} {cs cs' : List Frame} {u' : FrameMode} {Hout : List Ch} (hres : fn.results = #[]) (hc' : cs' = { c₀ with mode := u' } :: cs) (hp : Sub H Hout) :
    JQ c (fun e a w => bodyPostS P fn c₀ cs (RD c u' Hout) e a cs' w) .normal env H := by
  obtain ⟨is, Hr, hp⟩ := hp
  intro a w h
  have hperm := pick_perm hp
  have h' : StW c (Hr ++ Hout) w := (h.heap.perm hperm).perm List.perm_append_comm
  obtain ⟨d1, d2⟩ := h'.drop
  refine ⟨h.defers, u', hc', .tuple #[], ?_, ⟨_, rfl⟩, rfl, d1.ok, d1.nodup, d1.mine, stw_grow d1⟩
  rw [results_eq, hres]
  simp
/-- What recover finds. -/
theorem wps_recover {Q : Exit → Act → List Frame → World → Prop} {a : Act} {w : World} {cs cs' : List Frame} {id d1 d2 : Nat} {ty1 ty2 : TypeId} {p1 p2 : String} {af1 af2 : Array Edge} {v : Value} {rest : Code} (h : St c env H a w) (hd1 : d1 < nt) (hd2 : d2 < nt) (hv : v.oneCell' = true)
    (hrec : recoverD cs = some (v, cs') ∨ recoverD cs = none ∧ v = .nilIface ∧ cs' = cs)
    (hr : JC c rest (fun e a w => Q e a cs' w) ((d2, .cell (.val v)) :: (d1, .cell (.val v)) :: env) H) :
    (Code.seq (.region id #[⟨some d1, .call { callee := .builtin .recover, args := #[], argTypes := #[] }, ty1, p1, af1, none⟩, ⟨some d2, .assign (.tmp d1), ty2, p2, af2, none⟩] false) rest).wpS P Q a cs w := by
  have hs1 : St c ((d1, .cell (.val v)) :: env) H (a.put (some d1) v) w := h.next hd1 h.heap ⟨rfl, hv⟩ (fun _ _ h => h)
  have hs2 : St c ((d2, .cell (.val v)) :: (d1, .cell (.val v)) :: env) H ((a.put (some d1) v).put (some d2) v) w := hs1.next hd2 hs1.heap ⟨rfl, hv⟩ (fun _ _ h => h)
  have hev : (a.put (some d1) v).eval (.tmp d1) = v := ev_val hs1 (by simp [Env.ev])
  refine wpS_seq (wpS_region ?_)
  have hex1 : (execOp a.eval ⟨some d1, .call { callee := .builtin .recover, args := #[], argTypes := #[] }, ty1, p1, af1, none⟩).run P w = .ok .recover w := by
    simp [execOp, resolve, invoke, builtin]
  have hex2 : (execOp (a.put (some d1) v).eval ⟨some d2, .assign (.tmp d1), ty2, p2, af2, none⟩).run P w = .ok (.value v) w := by
    simp [execOp, hev]
  have fin : Code.wpS P rest Q ((a.put (some d1) v).put (some d2) v) cs' w := wpS_of_wp (hr _ _ hs2)
  rcases hrec with hrec | ⟨hrec, rfl, rfl⟩
  · simp only [List.size_toArray, List.length_cons, List.length_nil, show List.range 2 = [0, 1] from rfl, wpOpsS, List.getElem?_toArray, List.getElem?_cons_zero, List.getElem?_cons_succ, Region.wanted, if_true, hex1, hrec, hex2, Oper.upon, Exit.thenS]
    exact fin
  · simp only [List.size_toArray, List.length_cons, List.length_nil, show List.range 2 = [0, 1] from rfl, wpOpsS, List.getElem?_toArray, List.getElem?_cons_zero, List.getElem?_cons_succ, Region.wanted, if_true, hex1, hrec, hex2, Oper.upon, Exit.thenS]
    exact fin
/-- What recover gave, looked at. -/
def ifaceB : TypeDesc → Bool
  | .interface _ => true
  | _ => false
omit [Gl P] in
theorem u_of_iface {u : TypeDesc} (h : ifaceB u = true) : ∃ m, u = .interface m := by cases u <;> simp_all [ifaceB]
theorem ow_neqNilIface [TI P t] (hu : ifaceB (TI.u P t) = true) (h : env.ev x = some (.cell (.val .nilIface))) (hK : K (Bl false) H) : OpWp c ⟨d, .binOp .neq t x (.const .nilIface) t', ty, pos, af, g⟩ env H K :=
  ow_valx rfl (fun a w hs => by
    have e1 : a.eval x = .nilIface := ev_val hs h
    have e2 : a.eval (.const .nilIface) = .nilIface := rfl
    obtain ⟨m, hm⟩ := u_of_iface hu
    have hu' : (underlying t).run P w = .ok (.interface m) w := by rw [run_underlying (TI.hu (P := P) (t := t)), hm]
    have h1 : ∀ n, (Op.equalIn (n + 1) t .nilIface .nilIface).run P w = .ok true w := fun n => by simp [Op.equalIn, hu']
    have h2 : (Op.equalIn Op.maxDepth t .nilIface .nilIface).run P w = .ok true w := h1 9999
    simp [execOp, e1, e2, eqGuard, binOp, Op.equal, h2]) hK
theorem ow_neqIface [TI P t] (hu : ifaceB (TI.u P t) = true) {u : TypeId} {v : Value} (h : env.ev x = some (.cell (.val (.iface u v)))) (hK : K (Bl true) H) : OpWp c ⟨d, .binOp .neq t x (.const .nilIface) t', ty, pos, af, g⟩ env H K :=
  ow_valx rfl (fun a w hs => by
    have e1 : a.eval x = .iface u v := ev_val hs h
    have e2 : a.eval (.const .nilIface) = .nilIface := rfl
    obtain ⟨m, hm⟩ := u_of_iface hu
    have hu' : (underlying t).run P w = .ok (.interface m) w := by rw [run_underlying (TI.hu (P := P) (t := t)), hm]
    have h1 : ∀ n, (Op.equalIn (n + 1) t (.iface u v) .nilIface).run P w = .ok false w := fun n => by simp [Op.equalIn, hu']
    have h2 : (Op.equalIn Op.maxDepth t (.iface u v) .nilIface).run P w = .ok false w := h1 9999
    simp [execOp, e1, e2, eqGuard, binOp, Op.equal, h2]) hK
theorem ow_typeAssert {u : TypeId} [TI P u] {vs : List Value} (hu : structB (TI.u P u) = true) (h : env.ev x = some (.cell (.val (.iface u (.agg vs.toArray))))) (h1 : vs.all Value.oneCell' = true) (hK : K (.row (vs.map C.val)) H) : OpWp c ⟨d, .typeAssert x t u false, ty, pos, af, g⟩ env H K :=
  ow_val (fun a w hs => by
    have hu' : (underlying u).run P w = .ok (.struct (fieldsB (TI.u P u))) w := by rw [run_underlying (TI.hu (P := P) (t := u))]; exact congrArg (fun u => Result.ok u w) (u_of_struct hu)
    refine ⟨.agg vs.toArray, ?_, vs.toArray, rfl, ?_⟩
    · simp [execOp, ev_val hs h, Instr.typeAssert, hu']
    · simpa using rdRow_zero vs (List.all_eq_true.1 h1)) hK

def bare (a : Act) : Act := { a with defers := [] }
def JLD (c : Cx P nt) (ds : List Deferred) (ops : Array Oper) (Q : Exit → Act → World → Prop) (l : List Oper) (env : Env) (H : List Ch) : Prop := ∀ a w, St c env H (bare a) w → a.defers = ds → wpList P ops Q l a w
def JCD (c : Cx P nt) (ds : List Deferred) (code : Code) (Q : Exit → Act → World → Prop) (env : Env) (H : List Ch) : Prop := ∀ a w, St c env H (bare a) w → a.defers = ds → code.wp P Q a w
def JQD (c : Cx P nt) (ds : List Deferred) (Q : Exit → Act → World → Prop) (e : Exit) (env : Env) (H : List Ch) : Prop := ∀ a w, St c env H (bare a) w → a.defers = ds → Q e a w
variable {ds : List Deferred} {ops : Array Oper} {Q : Exit → Act → World → Prop} {l : List Oper}
theorem jl_defer {fv : Fn} {cap : Array Value} (hx : env.ev x = some (.cell (.val (.func fv #[] cap)))) (h : JLD c [⟨.fn fv cap, #[]⟩] ops Q l env H) : JL c ops Q (⟨none, .defer { callee := .value x, args := #[], argTypes := #[] }, ty, pos, af, none⟩ :: l) env H := by
  intro a w hs
  refine wpList_plain rfl fun K hK => ?_
  have hrun : (execOp a.eval ⟨none, .defer { callee := .value x, args := #[], argTypes := #[] }, ty, pos, af, none⟩).run P w = .ok (.defer ⟨.fn fv cap, #[]⟩) w := by
    simp [execOp, resolve, Deferred.ofValue, ev_val hs hx]
  unfold Oper.wp
  rw [hrun, Oper.upon_defer]
  refine hK _ _ (h _ _ ?_ ?_)
  · exact ⟨hs.size, rfl, hs.slots, hs.heap⟩
  · show _ :: a.defers = _
    rw [hs.defers]
theorem jld_nil (h : JQD c ds Q .normal env H) : JLD c ds ops Q [] env H := fun a w hs hd => h a w hs hd
theorem put_bare (a : Act) (dst : Option Tmp) (v : Value) : { (bare a).put dst v with defers := a.defers } = a.put dst v := by cases dst <;> rfl
omit [Gl P] in
/-- What an operation that defers nothing does. -/
theorem wp_bare {o : Oper} {a : Act} {w : World} {next : Act → World → Prop} (hnd : ∀ dd w', (execOp a.eval o).run P w ≠ .ok (.defer dd) w')
    (h : o.wp P (bare a) w (fun a' w' => next { a' with defers := a.defers } w') (fun e a' w' => Q e { a' with defers := a.defers } w')) : o.wp P a w next Q := by
  unfold Oper.wp at h ⊢
  rw [show (bare a).eval = a.eval from rfl] at h
  revert h hnd
  generalize (execOp a.eval o).run P w = r
  intro hnd h
  have hb0 : ({ bare a with defers := a.defers } : Act) = a := rfl
  unfold Oper.upon at h ⊢
  split at h
  · rw [put_bare] at h; exact h
  · rw [put_bare] at h; exact h
  · exact absurd rfl (hnd _ _)
  · refine h.mono ?_
    intro e w' he
    cases e with
    | returned v => dsimp only at he ⊢; rw [put_bare] at he; exact he
    | panicked ch => exact he
    | outgrown => obtain ⟨a1, w1, h1⟩ := he; exact ⟨_, w1, h1⟩
  · refine h.mono ?_
    intro v w' he
    dsimp only at he; rw [put_bare] at he; exact he
  · exact h
  · exact h.elim
theorem jld_op {d : Nat} {op : Op} (h : OpWp c ⟨some d, op, ty, pos, af, none⟩ env H (fun s H' => JLD c ds ops Q l ((d, s) :: env) H')) (hd : d < nt)
    (hnd : ∀ a w, St c env H (bare a) w → ∀ dd w', (execOp a.eval ⟨some d, op, ty, pos, af, none⟩).run P w ≠ .ok (.defer dd) w') : JLD c ds ops Q (⟨some d, op, ty, pos, af, none⟩ :: l) env H := by
  intro a w hs hds
  refine wpList_plain rfl fun K hK => ?_
  refine wp_bare (hnd a w hs) (h _ w hs _ _ ?_)
  intro s H' v w' hJ hw' hv hk
  exact hK _ _ (hJ _ _ (hs.next hd hw' hv hk) hds)
theorem jld_op0 {op : Op} (h : OpWp c ⟨none, op, ty, pos, af, none⟩ env H (fun _ H' => JLD c ds ops Q l env H'))
    (hnd : ∀ a w, St c env H (bare a) w → ∀ dd w', (execOp a.eval ⟨none, op, ty, pos, af, none⟩).run P w ≠ .ok (.defer dd) w') : JLD c ds ops Q (⟨none, op, ty, pos, af, none⟩ :: l) env H := by
  intro a w hs hds
  refine wpList_plain rfl fun K hK => ?_
  refine wp_bare (hnd a w hs) (h _ w hs _ _ ?_)
  intro s H' v w' hJ hw' _ hk
  exact hK _ _ (hJ _ _ (hs.next0 (v := v) hw' hk) hds)
theorem jq_thenD {y : Code} (h : JCD c ds y Q env H) : JQD c ds (Exit.then (fun a w => y.wp P Q a w) Q) .normal env H := fun a w hs hd => h a w hs hd
theorem jcd_region {id : Nat} {l : List Oper} (h : JLD c ds l.toArray Q l env H) : JCD c ds (.region id l.toArray false) Q env H := fun a w hs hd => wp_region_lit (h a w hs hd)
theorem jcd_seq {x y : Code} (h : JCD c ds x (Exit.then (fun a w => y.wp P Q a w) Q) env H) : JCD c ds (.seq x y) Q env H := fun a w hs hd => wp_seq (h a w hs hd)
theorem jcd_ret (h : JQD c ds Q .ret env H) : JCD c ds .ret Q env H := fun a w hs hd => wp_ret (h a w hs hd)
/-- The frame leaves: its deferred call is made first. -/
theorem leaves_of {fn : Func} {f : FuncId} [FI P f] {cap : Array Value} {u u' : FrameMode} {w : World} {a : Act} {ss : List S} {Hd Hd' Hr : List Ch} {is : List Nat} {post : (S → List Ch → Prop) → Prop} (hs : St c env H (bare a) w) (hu : u ≠ .run) (hu' : settle u' = .returning) (hp : pick is H = some (Hd, Hr))
    (hargs : ∀ w, StW c H w → SOks w (c.av H) ss cap.toList) (con : ConD P f ss Hd u u' Hd') (h : JQ c (bodyPost P fn (RR c post)) .ret env (Hd' ++ Hr)) : Leaves P fn a.tmps (RR c post) [⟨.fn (.func f) cap, #[]⟩] u w := by
  have hperm := pick_perm hp
  have h' : StW c (Hd ++ Hr) w := hs.heap.perm hperm
  have hav : c.av (Hd ++ Hr) = c.av H := av_perm c hperm
  have hnd := h'.nodup
  rw [hb_app, List.nodup_append] at hnd
  refine leaves_cons (f := f) (args := cap.toList.toArray) hu (by simp [invoke, FI.hrun]) ?_
  refine (con cap.toList w (c.av H) (fun b hb => hs.heap.avlt b hb) (fun b hb => by rw [← hav]; exact .inr (by rw [hb_app]; exact List.mem_append.2 (.inl hb))) hnd.1 (hargs w hs.heap)
    (fun ch hch => by rw [← hav]; exact h'.ok ch (List.mem_append.2 (.inl hch))) hs.heap.gl).mono ?_
  rintro e uu w' ⟨⟨v, rfl⟩, rfl, hok, hnd', hnew, hg⟩
  have hA : ∀ b, c.av (Hd' ++ Hr) b → c.av H b ∨ b ∈ hb Hd' := by
    intro b hb
    rw [← hav]
    rcases hb with hb | hb
    · exact .inl (.inl hb)
    · rw [hb_app] at hb
      rcases List.mem_append.1 hb with hb | hb
      · exact .inr hb
      · exact .inl (.inr (by rw [hb_app]; exact List.mem_append.2 (.inr hb)))
  obtain ⟨s1, s2⟩ := StW.step h' hg hnew hnd' (fun ch hch => Ch.up (Up.refl _ _) (fun b hb => .inl (hA b hb)) (fun _ _ => rfl) (hok ch hch))
  have hs' : St c env (Hd' ++ Hr) (bare a) w' := ⟨hs.size, rfl, fun i s hi => s2 s _ (by rw [hav]; exact hs.slots i s hi), s1⟩
  obtain ⟨_, v, hv, hR⟩ := h _ _ hs'
  show Leaves P fn a.tmps (RR c post) [] (settle uu) w'
  rw [hu']
  exact ⟨v, hv, hR⟩
theorem jqd_ret {fn : Func} {f : FuncId} [FI P f] {cap : Array Value} {ss : List S} {Hd Hd' Hr : List Ch} {post : (S → List Ch → Prop) → Prop} (is : List Nat) (hp : pick is H = some (Hd, Hr))
    (hargs : ∀ w, StW c H w → SOks w (c.av H) ss cap.toList) (con : ConD P f ss Hd .returning .returning Hd') (h : JQ c (bodyPost P fn (RR c post)) .ret env (Hd' ++ Hr)) : JQD c [⟨.fn (.func f) cap, #[]⟩] (bodyPostD P fn (RR c post)) .ret env H := by
  intro a w hs hd
  show Leaves P fn a.tmps (RR c post) a.defers .returning w
  rw [hd]
  exact leaves_of hs (by intro h; cases h) rfl hp hargs con h
/-- A call through a function value that panics, in such a frame. -/
theorem jld_pan {fn : Func} {d : Nat} {f f' : FuncId} [FI P f] [FI P f'] {z : Operand} {cap cap' : Array Value} {ss cs : List S} {Hin Hr Hd Hd' Hr' : List Ch} {v : Value} {u' : FrameMode} {is is' : List Nat} {post : (S → List Ch → Prop) → Prop}
    (hz : env.ev z = some (.cell (.val (.func (.func f') #[] cap')))) (hcap : ∀ w, StW c H w → SOks w (c.av H) cs cap'.toList) (hp : pick is H = some (Hin, Hr)) (con : Pan P f' cs Hin v)
    (hp' : pick is' Hr = some (Hd, Hr')) (hu' : settle u' = .returning) (hargs : ∀ w, StW c Hr w → SOks w (c.av Hr) ss cap.toList) (conD : ConD P f ss Hd (.panicking [{ v := v, recovered := false }]) u' Hd')
    (hq : ∀ a w, Q (.panic [{ v := v, recovered := false }]) a w = bodyPostD P fn (RR c post) (.panic [{ v := v, recovered := false }]) a w)
    (h : JQ c (bodyPost P fn (RR c post)) .ret env (Hd' ++ Hr')) : JLD c [⟨.fn (.func f) cap, #[]⟩] ops Q (⟨some d, .call { callee := .value z, args := #[], argTypes := #[] }, ty, pos, af, none⟩ :: l) env H := by
  intro a w hs hds
  refine wpList_plain rfl fun K _ => ?_
  have hperm := pick_perm hp
  have h' : StW c (Hin ++ Hr) w := hs.heap.perm hperm
  have hav : c.av (Hin ++ Hr) = c.av H := av_perm c hperm
  have hnd := h'.nodup
  rw [hb_app, List.nodup_append] at hnd
  have hrun : (execOp a.eval ⟨some d, .call { callee := .value z, args := #[], argTypes := #[] }, ty, pos, af, none⟩).run P w = .ok (.enter f' cap'.toList.toArray) w := by
    have e1 : a.eval z = .func (.func f') #[] cap' := ev_val (a := bare a) hs hz
    simp [execOp, resolve, invoke, e1, Deferred.ofValue, FI.hrun]
  unfold Oper.wp
  rw [hrun, Oper.upon_enter]
  refine (con cap'.toList w (c.av H) (fun b hb => hs.heap.avlt b hb) (fun b hb => by rw [← hav]; exact .inr (by rw [hb_app]; exact List.mem_append.2 (.inl hb))) hnd.1 (hcap w hs.heap)
    (fun ch hch => by rw [← hav]; exact h'.ok ch (List.mem_append.2 (.inl hch))) hs.heap.gl).mono ?_
  rintro e w' ⟨rfl, hg⟩
  obtain ⟨s1, s2⟩ := StW.step (H1' := []) h' hg (by simp [hb]) (by simp [hb]) (by simp)
  show Q (.panic [{ v := v, recovered := false }]) a w'
  rw [hq]
  show Leaves P fn a.tmps (RR c post) a.defers (.panicking [{ v := v, recovered := false }]) w'
  rw [hds]
  exact leaves_of (H := Hr) ⟨hs.size, rfl, fun i s hi => s2 s _ (by rw [hav]; exact hs.slots i s hi), s1⟩ (by intro h; cases h) hu' hp' hargs conD h
/-- A function whose frame may have deferred calls. -/
theorem con_introD {f : FuncId} {fn : Func} {code : Code} {args : List S} {Hin : List Ch} {post : (S → List Ch → Prop) → Prop} (hf : P.funcs[f]? = some fn) (hbd : fn.body = some code) (hnt : fn.ntmps = nt) (hle : args.length ≤ nt)
    (h : ∀ c : Cx P nt, c.X = hb Hin → JC c code (bodyPostD P fn (RR c post)) (enum 0 args) Hin) : Con P f args Hin post := by
  intro vs w A hA hHA hnd hvs hok hgl
  have hlen := soks_length hvs
  let c : Cx P nt := ⟨w, A, hb Hin, hA⟩
  have hav : ∀ b, c.av Hin b → A b := fun b hb => hb.elim id (hHA b)
  refine calls_of_wp_defers hf hbd ?_
  refine h c rfl _ _ ⟨?_, rfl, ?_, ⟨rfl, rfl, rfl, Nat.le_refl _, fun _ _ _ => rfl, fun ch hch => Ch.up (Up.refl _ _) (fun b hb => .inl (hav b hb)) (fun _ _ => rfl) (hok ch hch), hnd, fun b hb => .inl hb, Gl.up (Up.refl _ _) (fun b hb => .inl (hav b hb)) hgl⟩⟩
  · simp only [Array.size_append, Array.size_replicate, List.size_toArray, hnt]
    omega
  · intro i s hi
    obtain ⟨v, _, h2, h3⟩ := enum_lookup hvs hi
    have hlt : i < vs.length := (List.getElem?_eq_some_iff.1 (by simpa using h2)).1
    rw [Array.getD_eq_getD_getElem?, Array.getElem?_append_left (by simpa using hlt)]
    simp only [List.getElem?_toArray]
    simp only [Nat.sub_zero] at h2
    rw [h2]
    exact sok_up (Up.refl _ _) (fun b hb => .inl (hav b hb)) s v h3
omit [Gl P] in
/-- No operation but one defers. -/
theorem nd_move {a : Act} {w : World} {dd : Deferred} {w' : World} : (execOp a.eval ⟨d, .move x, ty, pos, af, g⟩).run P w ≠ .ok (.defer dd) w' := by simp [execOp]
omit [Gl P] in
theorem nd_val {s : Sem Value} {w : World} {dd : Deferred} {w' : World} : ((do pure (.value (← s)) : Sem Next)).run P w ≠ .ok (.defer dd) w' := by
  simp only [Sem.run_bind]
  cases s.run P w <;> simp
omit [Gl P] in
theorem nd_unit {s : Sem Unit} {w : World} {dd : Deferred} {w' : World} : ((do s; pure .skip : Sem Next)).run P w ≠ .ok (.defer dd) w' := by
  simp only [Sem.run_bind]
  cases s.run P w <;> simp
omit [Gl P] in
theorem nd_build {a : Act} {w : World} {ps : Array (Nat × Operand)} {dd : Deferred} {w' : World} : (execOp a.eval ⟨d, .build t ps, ty, pos, af, g⟩).run P w ≠ .ok (.defer dd) w' := nd_val
omit [Gl P] in
theorem nd_store {a : Act} {w : World} {dd : Deferred} {w' : World} : (execOp a.eval ⟨d, .store t x y, ty, pos, af, g⟩).run P w ≠ .ok (.defer dd) w' := nd_unit
theorem nd_callv {f' : FuncId} [FI P f'] {z : Operand} {cap' : Array Value} (hz : env.ev z = some (.cell (.val (.func (.func f') #[] cap')))) (a : Act) (w : World) (hs : St c env H (bare a) w) (dd : Deferred) (w' : World) : (execOp a.eval ⟨d, .call { callee := .value z, args := #[], argTypes := #[] }, ty, pos, af, g⟩).run P w ≠ .ok (.defer dd) w' := by
  have e1 : a.eval z = .func (.func f') #[] cap' := ev_val (a := bare a) hs hz
  simp [execOp, resolve, invoke, e1, Deferred.ofValue, FI.hrun]
/-- A struct and a cell, out of blocks. -/
theorem jq_retRowC {fn : Func} {post : (S → List Ch → Prop) → Prop} {a a2 : Tmp} {b b2 : Nat} {bt bt2 : TypeId} {t2 : TypeId} [TI P t] [TI P t2] {row : List C} {c1 : C} {Hx Hx2 Hout : List Ch} (hres : fn.results = #[.cell a t, .cell a2 t2]) (ha : aggB (TI.u P t) = true) (ha2 : aggB (TI.u P t2) = false) (hz : (TI.i P t).size = row.length) (hl : env.lookup a = some (.cell (.val (.pointer (some ⟨b, 0, none⟩))))) (hl2 : env.lookup a2 = some (.cell (.val (.pointer (some ⟨b2, 0, none⟩)))))
    (j j2 : Nat) (hj : pick [j] H = some ([.blk b bt row], Hx)) (hj2 : pick [j2] H = some ([.blk b2 bt2 [c1]], Hx2)) (hpost : ∀ K, post K → K (.tup [.row row, .cell c1]) Hout) (hp : Sub H Hout) : JQ c (bodyPost P fn (RR c post)) .ret env H :=
  let ⟨_, _, hp⟩ := hp
  jq_retG (ss := [.row row, .cell c1]) (.inl rfl) (by rw [hres]; exact ⟨.row row, _, b, j, bt, row, Hx, rfl, hl, hj, res_row ha hz, .cell c1, _, b2, j2, bt2, [c1], Hx2, rfl, hl2, hj2, res_cell ha2, rfl⟩) hp hpost
end
end Go.Vc
end

section
namespace Go.Vc
open Go.RowKit

section
variable {P : Program} [Gl P] {nt : Nat} {c : Cx P nt} {env : Env} {H Hr : List Ch} {ops : Array Oper} {Q : Exit → Act → World → Prop} {Sw : World → Prop}
variable {m fuel : Nat} {listed : Array Bool} {i j di dj : Nat} {opi opj : Op} {ti tj : TypeId} {pi pj : String} {afi afj : Array Edge} {s0 : S}
theorem ow_weaken {env' : Env} {o : Oper} {K : S → List Ch → Prop} (h : OpWp c o env H K) (hl : ∀ t s, env.lookup t = some s → env'.lookup t = some s) : OpWp c o env' H K :=
  fun a w hs next Q hn => h a w ⟨hs.size, hs.defers, fun t s ht => hs.slots t s (hl t s ht), hs.heap⟩ next Q hn
theorem ow_mono {o : Oper} {K K' : S → List Ch → Prop} (h : OpWp c o env H K) (hK : ∀ s H', K s H' → K' s H') : OpWp c o env H K' :=
  fun a w hs next Q hn => h a w hs next Q (fun s H' v w' hk => hn s H' v w' (hK s H' hk))
/-- The one yields a value and turns nothing that is owned. -/
theorem hp_two (hi : ops[i]? = some ⟨some di, opi, ti, pi, afi, none⟩) (hj : ops[j]? = some ⟨some dj, opj, tj, pj, afj, none⟩) (hr : (Region.ready .any ops listed == [i, j] || Region.ready .any ops listed == [j, i]) = true)
    (hri : Region.ready .any ops (listed.setIfInBounds i true) = [j]) (hrj : Region.ready .any ops (listed.setIfInBounds j true) = [i]) (hdi : di < nt) (hdj : dj < nt) (hne : (di == dj) = false) (hno : env.lookup di = none) (hkeep : ∀ w, StW c H w → Sw w)
    (h0 : OpWp c ⟨some di, opi, ti, pi, afi, none⟩ env H (fun s H' => s = s0 ∧ H' = H)) (h1 : ∀ s H', OpWp c ⟨some di, opi, ti, pi, afi, none⟩ ((dj, s) :: env) H' (fun s H'' => s = s0 ∧ H'' = H'))
    (h : OpWp c ⟨some dj, opj, tj, pj, afj, none⟩ env H (fun s H' => (∀ w, StW c H' w → Sw w) ∧ HP c ops Q Sw m fuel ((listed.setIfInBounds i true).setIfInBounds j true) ((dj, s) :: (di, s0) :: env) H')) : HP c ops Q Sw m (fuel + 2) listed env H := by
  have hne' : di ≠ dj := by simpa using hne
  intro a w hst hS
  have hstep : ∀ k ∈ [i, j], wpOp P ops Q k (fun a' w' => (k < m → Sw w') ∧ anyX P .any ops Q Sw m (fuel + 1) (listed.setIfInBounds k true) a' w') a w := by
    intro k hk
    rcases List.mem_cons.1 hk with rfl | hk
    · unfold wpOp
      rw [hi]
      dsimp only
      rw [if_pos (show Region.wanted _ _ = true from rfl)]
      refine .inl (h0 a w hst _ _ ?_)
      rintro s H' v w' ⟨rfl, rfl⟩ hw' hv hk
      have hst' := hst.next hdi hw' hv hk
      refine ⟨fun _ => hkeep _ hw', ?_⟩
      refine hp_op (c := c) (env := (di, s) :: env) (H := H') hj hri hdj (ow_weaken h ?_) _ _ hst' (hkeep _ hw')
      intro t s' ht
      rw [List.lookup_cons]
      by_cases htd : t = di
      · subst htd; rw [hno] at ht; cases ht
      · rw [show (t == di) = false by simpa using htd]; exact ht
    · obtain rfl := List.mem_singleton.1 hk
      unfold wpOp
      rw [hj]
      dsimp only
      rw [if_pos (show Region.wanted _ _ = true from rfl)]
      refine .inl (h a w hst _ _ ?_)
      rintro s H' v w' ⟨hk1, hk2⟩ hw' hv hk
      have hst' := hst.next hdj hw' hv hk
      refine ⟨fun _ => hk1 _ hw', ?_⟩
      refine hp_op (c := c) (env := (dj, s) :: env) (H := H') hi hrj hdi (ow_mono (h1 s H') ?_) _ _ hst' (hk1 _ hw')
      rintro s1 H1 ⟨rfl, rfl⟩
      refine ⟨hk1, ?_⟩
      rw [Array.setIfInBounds_comm _ _ (by intro hij; subst hij; rw [hi] at hj; simp only [Option.some.injEq, Oper.mk.injEq] at hj; exact hne' hj.1)]
      intro a2 w2 hst2 hS2
      refine hk2 a2 w2 ⟨hst2.size, hst2.defers, ?_, hst2.heap⟩ hS2
      intro t s' ht
      refine hst2.slots t s' ?_
      rw [List.lookup_cons, List.lookup_cons] at ht ⊢
      by_cases ht1 : t = dj
      · subst ht1
        rw [show (t == t) = true by simp] at ht ⊢
        rw [show (t == di) = false by simpa using (Ne.symm hne')]
        exact ht
      · rw [show (t == dj) = false by simpa using ht1] at ht ⊢
        exact ht
  have hmem : ∀ k ∈ Region.ready .any ops listed, k ∈ [i, j] := by
    intro k hk
    rw [Bool.or_eq_true] at hr
    rcases hr with hr | hr
    · rw [eq_of_beq hr] at hk; exact hk
    · rw [eq_of_beq hr] at hk; simp only [List.mem_cons, List.not_mem_nil, or_false] at hk ⊢; exact hk.symm
  have hne0 : Region.ready .any ops listed ≠ [] := by
    intro h0
    rw [h0] at hr
    simp at hr
  exact ⟨fun h0 => absurd h0 hne0, fun k hk => hstep k (hmem k hk)⟩
/-- .. the other panics. -/
theorem hp_two_pan {v : Value} {oj : Oper} (hi : ops[i]? = some ⟨some di, opi, ti, pi, afi, none⟩) (hj : ops[j]? = some oj) (hgj : oj.guard = none) (hr : (Region.ready .any ops listed == [i, j] || Region.ready .any ops listed == [j, i]) = true)
    (hri : Region.ready .any ops (listed.setIfInBounds i true) = [j]) (hdi : di < nt) (hno : env.lookup di = none) (hkeep : ∀ w, StW c H w → Sw w)
    (h0 : OpWp c ⟨some di, opi, ti, pi, afi, none⟩ env H (fun s H' => s = s0 ∧ H' = H)) (h : OpPan c oj env H v) (hq : PanQ c Q v) : HP c ops Q Sw m (fuel + 2) listed env H := by
  obtain ⟨dst, opj, tj, pj, afj, gj⟩ := oj
  obtain rfl : gj = none := hgj
  intro a w hst hS
  have hstep : ∀ k ∈ [i, j], wpOp P ops Q k (fun a' w' => (k < m → Sw w') ∧ anyX P .any ops Q Sw m (fuel + 1) (listed.setIfInBounds k true) a' w') a w := by
    intro k hk
    rcases List.mem_cons.1 hk with rfl | hk
    · unfold wpOp
      rw [hi]
      dsimp only
      rw [if_pos (show Region.wanted _ _ = true from rfl)]
      refine .inl (h0 a w hst _ _ ?_)
      rintro s H' v' w' ⟨rfl, rfl⟩ hw' hv hk
      have hst' := hst.next hdi hw' hv hk
      refine ⟨fun _ => hkeep _ hw', ?_⟩
      refine hp_pan (c := c) (env := env) (H := H') hj hri h hq _ _ ?_ (hkeep _ hw')
      refine ⟨hst'.size, hst'.defers, fun t s' ht => hst'.slots t s' ?_, hst'.heap⟩
      rw [List.lookup_cons]
      by_cases htd : t = di
      · subst htd; rw [hno] at ht; cases ht
      · rw [show (t == di) = false by simpa using htd]; exact ht
    · obtain rfl := List.mem_singleton.1 hk
      unfold wpOp
      rw [hj]
      dsimp only
      rw [if_pos (show Region.wanted _ _ = true from rfl)]
      exact .inl (h a w hst _ _ hq)
  have hmem : ∀ k ∈ Region.ready .any ops listed, k ∈ [i, j] := by
    intro k hk
    rw [Bool.or_eq_true] at hr
    rcases hr with hr | hr
    · rw [eq_of_beq hr] at hk; exact hk
    · rw [eq_of_beq hr] at hk; simp only [List.mem_cons, List.not_mem_nil, or_false] at hk ⊢; exact hk.symm
  have hne0 : Region.ready .any ops listed ≠ [] := by
    intro h0
    rw [h0] at hr
    simp at hr
  exact ⟨fun h0 => absurd h0 hne0, fun k hk => hstep k (hmem k hk)⟩
/-- What is left when the first m are done: nothing need stand any more. -/
def allDone (m : Nat) (listed : Array Bool) : Bool := (List.range m).all fun i => listed.getD i true
omit [Gl P] in
theorem anyX_tail {S' : World → Prop} {m' : Nat} : ∀ (fuel : Nat) (listed : Array Bool) (a : Act) (w : World), allDone m listed = true → anyX P .any ops Q S' m' fuel listed a w → anyX P .any ops Q Sw m fuel listed a w
  | 0, _, _, _, _, h => h
  | fuel + 1, listed, a, w, hd, h => ⟨h.1, fun i hi => wpOp_mono (fun a' w' h' => ⟨fun hlt => (by
      have h1 := List.all_eq_true.1 hd i (List.mem_range.2 hlt)
      have h2 := (mem_ready.1 hi).1
      rw [Array.getD_eq_getD_getElem?] at h1 h2
      rw [h1] at h2
      cases h2), anyX_tail fuel _ a' w' (by
        refine List.all_eq_true.2 fun k hk => ?_
        have h1 := List.all_eq_true.1 hd k hk
        by_cases hki : k = i
        · subst hki
          by_cases hlt : k < listed.size
          · simp [Array.getD_eq_getD_getElem?, hlt]
          · simp [Array.getD_eq_getD_getElem?, hlt]
        · rw [getD_set_ne true (fun h => hki h.symm)]; exact h1) h'.2⟩) (h.2 i hi)⟩
theorem hp_rest {n : Nat} (hd : allDone m listed = true) (h : HP c ops Q (fun _ => True) n fuel listed env H) : HP c ops Q Sw m fuel listed env H := fun a w hst _ => anyX_tail fuel listed a w hd (h a w hst trivial)
theorem keepT : ∀ w, StW c H w → True := fun _ _ => trivial
/-- Two stores, of which either may come first. -/
theorem hp_both0 (hi : ops[i]? = some ⟨none, opi, ti, pi, afi, none⟩) (hj : ops[j]? = some ⟨none, opj, tj, pj, afj, none⟩) (hr : (Region.ready .any ops listed == [i, j] || Region.ready .any ops listed == [j, i]) = true)
    (h1 : OpWp c ⟨none, opi, ti, pi, afi, none⟩ env H (fun _ H' => (∀ w, StW c H' w → Sw w) ∧ HP c ops Q Sw m fuel (listed.setIfInBounds i true) env H'))
    (h2 : OpWp c ⟨none, opj, tj, pj, afj, none⟩ env H (fun _ H' => (∀ w, StW c H' w → Sw w) ∧ HP c ops Q Sw m fuel (listed.setIfInBounds j true) env H')) : HP c ops Q Sw m (fuel + 1) listed env H := by
  intro a w hst hS
  have hmem : ∀ k ∈ Region.ready .any ops listed, k ∈ [i, j] := by
    intro k hk
    rw [Bool.or_eq_true] at hr
    rcases hr with hr | hr
    · rw [eq_of_beq hr] at hk; exact hk
    · rw [eq_of_beq hr] at hk; simp only [List.mem_cons, List.not_mem_nil, or_false] at hk ⊢; exact hk.symm
  have hne0 : Region.ready .any ops listed ≠ [] := by
    intro h0
    rw [h0] at hr
    simp at hr
  refine ⟨fun h0 => absurd h0 hne0, fun k hk => ?_⟩
  rcases List.mem_cons.1 (hmem k hk) with rfl | hk
  · unfold wpOp
    rw [hi]
    dsimp only
    rw [if_pos (show Region.wanted _ _ = true from rfl)]
    refine .inl (h1 a w hst _ _ ?_)
    intro s H' v w' hK hw' hv hk
    exact ⟨fun _ => hK.1 _ hw', hK.2 _ _ (hst.next0 (v := v) hw' hk) (hK.1 _ hw')⟩
  · obtain rfl := List.mem_singleton.1 hk
    unfold wpOp
    rw [hj]
    dsimp only
    rw [if_pos (show Region.wanted _ _ = true from rfl)]
    refine .inl (h2 a w hst _ _ ?_)
    intro s H' v w' hK hw' hv hk
    exact ⟨fun _ => hK.1 _ hw', hK.2 _ _ (hst.next0 (v := v) hw' hk) (hK.1 _ hw')⟩
/-- What only looks at a slice's header. -/
theorem hok_lenown {d : Option Tmp} {t ty : TypeId} {pos : String} {af : Array Edge} {x : Operand} [SL P t] {v : Value} {e : TypeId} {k : Nat} {rows : List (List C)} (q : Nat) (hx : env.ev x = some (.cell (.val v))) (hp : pick [q] H = some ([.own v e k rows], Hr)) (hm : rows.length ≤ 9223372036854775807) :
    HOk c Sw env H ⟨d, .call { callee := .builtin .len, args := #[x], argTypes := #[t] }, ty, pos, af, none⟩ (In .i64 rows.length) :=
  fun a w hs _ => by
    obtain ⟨vs, ho, _⟩ := hs.heap.ok (.own v e k rows) ((pick_perm hp).mem_iff.2 (by simp))
    obtain ⟨ad, cap, hv⟩ := own_len ho
    have h0 : (0 : Int) ≤ rows.length := by omega
    refine ⟨.int .i64 rows.length, fun w' _ => ?_, rfl, rfl⟩
    simp [execOp, resolve, invoke, builtin, Builtin.len_, run_elem t, ev_val hs hx, hv, goInt]
theorem hok_indexOwn {d : Option Tmp} {t ty : TypeId} {pos : String} {af : Array Edge} {x y : Operand} [SL P t] {v : Value} {e : TypeId} {k : Nat} {rows : List (List C)} {q : Int} (p : Nat) (hx : env.ev x = some (.cell (.val v))) (hp : pick [p] H = some ([.own v e k rows], Hr)) (hy : env.ev y = some (In .i64 q)) (h0 : 0 ≤ q) (hlt : q.toNat < rows.length)
    (hz : (TI.i P (SL.e P t)).size = k) : HOk c Sw env H ⟨d, .indexAddr t x y, ty, pos, af, none⟩ (.cell (.inn v (q.toNat * k))) :=
  fun a w h _ => by
    obtain ⟨vs, ho, _, _⟩ := h.heap.ok (.own v e k rows) ((pick_perm hp).mem_iff.2 (by simp))
    rcases ho.2 with ⟨rfl, h0⟩ | ⟨b, cap, cur, rfl, _, _⟩
    · omega
    · refine ⟨.pointer (some ⟨b, q.toNat * k, none⟩), fun w' _ => ?_, b, rows.length, cap, rfl, rfl⟩
      have : 0 ≤ q ∧ q < ↑rows.length := ⟨h0, by omega⟩
      simp [execOp, ev_val h hx, ev_val h hy, Instr.indexAt, asIntOf, run_elem t, this, run_sizeOf, add_at, hz]
end
end Go.Vc
end

section
namespace Go.Vc
open Go.RowKit

def Fa (w : World) (A : Nat → Prop) (F : List (S × Value)) : Prop := ∀ p ∈ F, SOk w A p.1 p.2
def FaS (F : List (S × Value)) (w : World) : Prop := ∃ A, Fa w A F
section
variable {P : Program} [Gl P] {nt : Nat} {c : Cx P nt} {env : Env} {H Hr : List Ch} {F : List (S × Value)} {ops : Array Oper} {Q : Exit → Act → World → Prop}
variable {fuel : Nat} {listed : Array Bool} {i j d : Nat} {ty t : TypeId} {pos : String} {af : Array Edge} {x y : Operand}
def HQ (c : Cx P nt) (F : List (S × Value)) (ops : Array Oper) (Q : Exit → Act → World → Prop) (fuel : Nat) (listed : Array Bool) (env : Env) (H : List Ch) : Prop :=
  ∀ a w, St c env H a w → Fa w (c.av H) F → anyX P .any ops Q (FaS F) 64 fuel listed a w
@[reducible] def putE (d : Option Nat) (s : S) (env : Env) : Env := match d with
  | some d => (d, s) :: env
  | none => env
def okD (d : Option Nat) (nt : Nat) : Bool := match d with
  | some d => decide (d < nt)
  | none => true
theorem hq_take {op : Op} {s : S} (hi : ops[i]? = some ⟨some d, op, ty, pos, af, none⟩) (hs : (Region.noSelect ops && lateWait ops 64 i) = true) (hf : Region.free .any ops listed i = true) (hr : (Region.ready .any ops listed).contains i = true) (hd : d < nt) (hQ : PanI Q)
    (hop : HOk c (FaS F) env H ⟨some d, op, ty, pos, af, none⟩ s) (h : HQ c F ops Q fuel (listed.setIfInBounds i true) ((d, s) :: env) H) : HQ c F ops Q (fuel + 1) listed env H := by
  intro a w hst hF
  obtain ⟨v, h1, h2⟩ := hop a w hst ⟨_, hF⟩
  rw [Bool.and_eq_true] at hs
  exact anyX_first hi (Region.noSelect_spec hs.1) (fun ch a w h => hQ ch a _ _ w h) (late_spec hs.2) fuel listed a w (Region.free_spec hi hf) (by simpa using hr) (.inl ⟨rfl, h1⟩) ⟨_, hF⟩ (h _ _ (hst.next hd hst.heap h2 (fun _ _ h => h)) hF)
theorem hq_one {o : Oper} {K : Act → World → Prop} {a : Act} {w : World} (hi : ops[i]? = some o) (hg : o.guard = none) (hd : okD o.dst nt = true) (hst : St c env H a w) (hF : Fa w (c.av H) F)
    (h : OpWp c o env H (fun s H' => ∀ a w, St c (putE o.dst s env) H' a w → Fa w (c.av H') F → K a w)) : wpOp P ops Q i (fun a' w' => (i < 64 → FaS F w') ∧ K a' w') a w := by
  obtain ⟨dst, op, ty, pos, af, g⟩ := o
  obtain rfl : g = none := hg
  unfold wpOp
  rw [hi]
  dsimp only
  rw [if_pos (show Region.wanted _ _ = true from rfl)]
  refine .inl (h a w hst _ _ ?_)
  intro s H' v w' hK hw' hv hk
  have hF' : Fa w' (c.av H') F := fun p hp => hk _ _ (hF p hp)
  refine ⟨fun _ => ⟨_, hF'⟩, hK _ _ ?_ hF'⟩
  cases dst with
  | none => exact hst.next0 hw' hk
  | some d => exact hst.next (by simpa [okD] using hd) hw' hv hk
theorem hq_op {o : Oper} (hi : ops[i]? = some o) (hg : (o.guard.isNone && okD o.dst nt) = true) (hr : Region.ready .any ops listed = [i])
    (h : OpWp c o env H (fun s H' => HQ c F ops Q fuel (listed.setIfInBounds i true) (putE o.dst s env) H')) : HQ c F ops Q (fuel + 1) listed env H := by
  intro a w hst hF
  rw [Bool.and_eq_true, Option.isNone_iff_eq_none] at hg
  refine anyX_all hr (by simp) (fun k hk => ?_)
  obtain rfl : k = i := by simpa using hk
  exact hq_one hi hg.1 hg.2 hst hF h
/-- Either of two may come first. -/
theorem hq_either {oi oj : Oper} (hi : ops[i]? = some oi) (hj : ops[j]? = some oj) (hg : (oi.guard.isNone && okD oi.dst nt && oj.guard.isNone && okD oj.dst nt) = true) (hr : (Region.ready .any ops listed == [i, j] || Region.ready .any ops listed == [j, i]) = true)
    (h1 : OpWp c oi env H (fun s H' => HQ c F ops Q fuel (listed.setIfInBounds i true) (putE oi.dst s env) H'))
    (h2 : OpWp c oj env H (fun s H' => HQ c F ops Q fuel (listed.setIfInBounds j true) (putE oj.dst s env) H')) : HQ c F ops Q (fuel + 1) listed env H := by
  intro a w hst hF
  simp only [Bool.and_eq_true, Option.isNone_iff_eq_none] at hg
  have hmem : ∀ k ∈ Region.ready .any ops listed, k ∈ [i, j] := by
    intro k hk
    rw [Bool.or_eq_true] at hr
    rcases hr with hr | hr
    · rw [eq_of_beq hr] at hk; exact hk
    · rw [eq_of_beq hr] at hk; simp only [List.mem_cons, List.not_mem_nil, or_false] at hk ⊢; exact hk.symm
  have hne0 : Region.ready .any ops listed ≠ [] := by
    intro h0
    rw [h0] at hr
    simp at hr
  refine ⟨fun h0 => absurd h0 hne0, fun k hk => ?_⟩
  rcases List.mem_cons.1 (hmem k hk) with rfl | hk
  · exact hq_one hi hg.1.1.1 hg.1.1.2 hst hF h1
  · obtain rfl := List.mem_singleton.1 hk
    exact hq_one hj hg.1.2 hg.2 hst hF h2
theorem hq_done (hr : Region.ready .any ops listed = []) (h : JQ c Q .normal env H) : HQ c F ops Q fuel listed env H := by
  intro a w hst _
  cases fuel with
  | zero => exact ⟨hr, h a w hst⟩
  | succ fuel => exact ⟨fun _ => h a w hst, by rw [hr]; simp⟩
/-- What is known of a value that stands in a slot. -/
theorem hq_slot (k : Nat) {v : Value} {s : S} (hl : env.lookup k = some (.cell (.val v))) (hm : (s, v) ∈ F) (h : HQ c F ops Q fuel listed ((k, s) :: env) H) : HQ c F ops Q fuel listed env H := by
  intro a w hst hF
  refine h a w ⟨hst.size, hst.defers, fun t s' ht => ?_, hst.heap⟩ hF
  rcases lookup_cons ht with ⟨rfl, rfl⟩ | ⟨_, h2⟩
  · have h1 := hst.slots _ _ hl
    have h2 := hF _ hm
    rw [show a.tmps.getD t undef = v from h1.1]
    exact h2
  · exact hst.slots _ _ h2
/-- .. in a block. -/
theorem hq_blk (k : Nat) {b : Nat} {bt : TypeId} {vs : List Value} {row : List C} (hp : pick [k] H = some ([.blk b bt (vs.map C.val)], Hr)) (hm : ((S.row row), Value.agg vs.toArray) ∈ F) (h : HQ c F ops Q fuel listed env (.blk b bt row :: Hr)) : HQ c F ops Q fuel listed env H := by
  intro a w hst hF
  obtain ⟨cs, g1, g2⟩ := blk_ok hst hp
  obtain rfl : cs = vs := rdRow_vals g2
  have h2 := hF _ hm
  obtain ⟨cs', e1, e2⟩ := h2
  obtain rfl : cs' = cs.toArray := by simpa using e1.symm
  have hav0 : c.av (.blk b bt (cs.map C.val) :: Hr) = c.av H := av_perm c (pick_perm hp)
  have hav : c.av (.blk b bt row :: Hr) = c.av H := by rw [← hav0]; rfl
  exact h a w (st_row hst hp ⟨cs, g1, by simpa using e2⟩) (by rw [hav]; exact hF)
/-- The slots and chunks in another order. -/
theorem hq_env {env' : Env} (hl : ∀ t s, env'.lookup t = some s → env.lookup t = some s) (h : HQ c F ops Q fuel listed env' H) : HQ c F ops Q fuel listed env H :=
  fun a w hst hF => h a w ⟨hst.size, hst.defers, fun t s ht => hst.slots t s (hl t s ht), hst.heap⟩ hF
theorem env_swap {d e : Nat} {s u : S} (hne : (d == e) = false) : ∀ t r, List.lookup t ((d, s) :: (e, u) :: env) = some r → List.lookup t ((e, u) :: (d, s) :: env) = some r := by
  have hne' : d ≠ e := by simpa using hne
  intro t r
  simp only [List.lookup_cons]
  by_cases h1 : t = d
  · subst h1
    rw [show (t == t) = true by simp, show (t == e) = false from hne]
    exact id
  · rw [show (t == d) = false by simpa using h1]
    exact id
theorem hq_perm {H' : List Ch} (hp : H.Perm H') (h : HQ c F ops Q fuel listed env H') : HQ c F ops Q fuel listed env H :=
  fun a w hst hF => h a w (hst.perm hp) (by rw [show c.av H' = c.av H from av_perm c hp]; exact hF)
/-- Two new blocks, either of which may come first. -/
theorem hq_alloc2 {di dj : Nat} {ti tj ei ej : TypeId} {pi pj : String} {afi afj : Array Edge} [TI P ei] [TI P ej] {zi zj : Value} (hi : ops[i]? = some ⟨some di, .alloc ei, ti, pi, afi, none⟩) (hj : ops[j]? = some ⟨some dj, .alloc ej, tj, pj, afj, none⟩)
    (hr : (Region.ready .any ops listed == [i, j] || Region.ready .any ops listed == [j, i]) = true) (hri : Region.ready .any ops (listed.setIfInBounds i true) = [j]) (hrj : Region.ready .any ops (listed.setIfInBounds j true) = [i]) (hdi : di < nt) (hdj : dj < nt) (hne : (dj == di) = false) (hij : (i == j) = false)
    (hzi : (TI.i P ei).zero = some zi) (h1i : zi.cells.toList.all Value.oneCell' = true) (hzj : (TI.i P ej).zero = some zj) (h1j : zj.cells.toList.all Value.oneCell' = true)
    (h : ∀ bi bj, HQ c F ops Q fuel ((listed.setIfInBounds i true).setIfInBounds j true) ((dj, .cell (.val (.pointer (some ⟨bj, 0, none⟩)))) :: (di, .cell (.val (.pointer (some ⟨bi, 0, none⟩)))) :: env) (.blk bj ej (zeroRow zj) :: .blk bi ei (zeroRow zi) :: H)) : HQ c F ops Q (fuel + 2) listed env H := by
  have hij' : i ≠ j := by simpa using hij
  refine hq_either hi hj (by simp [okD, hdi, hdj]) hr ?_ ?_
  · refine ow_alloc hzi h1i (fun bi => ?_)
    refine hq_op hj (by simp [okD, hdj]) hri ?_
    exact ow_alloc hzj h1j (fun bj => h bi bj)
  · refine ow_alloc hzj h1j (fun bj => ?_)
    refine hq_op hi (by simp [okD, hdi]) hrj ?_
    refine ow_alloc hzi h1i (fun bi => ?_)
    have h2 := h bi bj
    rw [Array.setIfInBounds_comm _ _ hij'] at h2
    exact hq_env (env_swap hne) (hq_perm (List.Perm.swap _ _ _) h2)
/-- Element i of a slice with n elements of k cells each. -/
def IxAt (v : Value) (n i k : Nat) (p : Value) : Prop := ∃ b off cap, v = .slice (some ⟨b, off, none⟩) n cap ∧ p = .pointer (some ⟨b, off + i * k, none⟩)
theorem hok_index [SL P t] {v p : Value} {n q k : Nat} {m : Int} (hx : env.ev x = some (.cell (.val v))) (hy : env.ev y = some (In .i64 m)) (h0 : 0 ≤ m) (hq : m.toNat = q) (hlt : q < n) (hp : IxAt v n q k p) (hz : (TI.i P (SL.e P t)).size = k) {Sw : World → Prop} : HOk c Sw env H ⟨some d, .indexAddr t x y, ty, pos, af, none⟩ (.cell (.val p)) := by
  intro a w hst _
  obtain ⟨b, off, cap, rfl, rfl⟩ := hp
  refine ⟨_, fun w' _ => ?_, rfl, rfl⟩
  have : 0 ≤ m ∧ m < ↑n := ⟨h0, by omega⟩
  simp [execOp, ev_val hst hx, ev_val hst hy, Instr.indexAt, asIntOf, run_elem t, this, run_sizeOf, add_at, hz, hq]
theorem hok_loadF [TI P t] {p : Value} {vs : List Value} (ha : aggB (TI.u P t) = true) (hx : env.ev x = some (.cell (.val p))) (hm : ((S.cell (.place (vs.map C.val))), p) ∈ F) (hz : (TI.i P t).size = vs.length) : HOk c (FaS F) env H ⟨some d, .load t x, ty, pos, af, none⟩ (.row (vs.map C.val)) := by
  intro a w hst hS
  have h1 : ∀ w' : World, FaS F w' → ∃ b off, p = .pointer (some ⟨b, off, none⟩) ∧ Cells w' b off vs ∧ RdRow w' (fun _ => False) (vs.map C.val) vs := by
    rintro w' ⟨A, hA⟩
    obtain ⟨b, off, us, e, _, _, hc, hr⟩ := hA _ hm
    obtain rfl := rdRow_vals hr
    exact ⟨b, off, e, hc, rdRow_exact hr⟩
  refine ⟨.agg vs.toArray, fun w' hS' => ?_, vs.toArray, rfl, ?_⟩
  · obtain ⟨b, off, e, hc, _⟩ := h1 w' hS'
    simp only [execOp, ev_val hst hx, e, Instr.loadAt, Instr.sureAddr, Sem.run_bind, Sem.run_pure, Result.andThen_ok, run_loadVarN t ha hz hc]
  · obtain ⟨_, _, _, _, hr⟩ := h1 w hS
    simpa using rdRow_exact hr
/-- Two elements of two lists, opened. -/
abbrev fact2 (rows : List (List C)) (row : List C) (v p : Value) (vs : List Value) : List (S × Value) := [(.cell (.list rows), v), (.cell (.place (vs.map C.val)), p), (.row row, .agg vs.toArray)]
theorem open1 {w : World} {A : Nat → Prop} {rows : List (List C)} {row : List C} {v : Value} {q : Nat} (h : Rd1 w A (.list rows) v) (hi : rows[q]? = some row) (hp : 0 < row.length) : ∃ p vs, vs.length = row.length ∧ IxAt v rows.length q row.length p ∧ Fa w A (fact2 rows row v p vs) := by
  obtain ⟨hlt, _⟩ := List.getElem?_eq_some_iff.1 hi
  have h' := h
  obtain ⟨ad, cap, rfl, _, _, hb⟩ := h
  rcases hb with hb | ⟨b, off, vs, k, rfl, hA, hc, hk, hr⟩
  · omega
  · obtain ⟨cs, h1, h2, h3⟩ := rdRows_get hr hc hi
    have hkl : k = row.length := by rw [← h2, rdRow_length h1]
    subst hkl
    refine ⟨.pointer (some ⟨b, off + q * row.length, none⟩), cs, h2, ⟨b, off, cap, rfl, rfl⟩, ?_⟩
    intro p hp'
    rcases List.mem_cons.1 hp' with rfl | hp'
    · exact h'
    · rcases List.mem_cons.1 hp' with rfl | hp'
      · exact ⟨b, _, cs, rfl, hA, by simp only [List.length_map]; omega, h3, rdRow_exact h1⟩
      · obtain rfl := List.mem_singleton.1 hp'
        exact ⟨cs.toArray, rfl, by simpa using h1⟩
theorem jc_hq2 {id n : Nat} (hn : ops.size = n) (s1 s2 q1 q2 : Nat) {rows1 rows2 : List (List C)} {row1 row2 : List C} (hm : P.follows .mixedOrders = true) (h1 : env.lookup s1 = some (.cell (.list rows1))) (h2 : env.lookup s2 = some (.cell (.list rows2))) (hi1 : rows1[q1]? = some row1) (hi2 : rows2[q2]? = some row2) (hp1 : 0 < row1.length) (hp2 : 0 < row2.length)
    (h : ∀ v1 v2 p1 p2 vs1 vs2, vs1.length = row1.length → vs2.length = row2.length → IxAt v1 rows1.length q1 row1.length p1 → IxAt v2 rows2.length q2 row2.length p2 → HQ c (fact2 rows1 row1 v1 p1 vs1 ++ fact2 rows2 row2 v2 p2 vs2) ops Q n (Array.replicate n false) ((s1, .cell (.val v1)) :: (s2, .cell (.val v2)) :: env) H) : JC c (.region id ops true) Q env H := by
  intro a w hs
  subst hn
  obtain ⟨d1, d2⟩ := stw_drew hs.heap
  have g1 := d2 _ _ (hs.slots _ _ h1)
  have g2 := d2 _ _ (hs.slots _ _ h2)
  obtain ⟨p1, vs1, l1, x1, f1⟩ := open1 g1 hi1 hp1
  obtain ⟨p2, vs2, l2, x2, f2⟩ := open1 g2 hi2 hp2
  have hF : Fa { w with drawn := w.drawn + 1 } (c.av H) (fact2 rows1 row1 (a.tmps.getD s1 undef) p1 vs1 ++ fact2 rows2 row2 (a.tmps.getD s2 undef) p2 vs2) := by
    intro p hp
    rcases List.mem_append.1 hp with hp | hp
    · exact f1 p hp
    · exact f2 p hp
  refine wp_region_any hm (any_of_x (S := FaS _) (m := 64) _ _ _ _ (h _ _ p1 p2 vs1 vs2 l1 l2 x1 x2 a _ ⟨hs.size, hs.defers, fun t s hl => ?_, d1⟩ hF))
  have hone : ∀ {k : Nat} {rows : List (List C)}, env.lookup k = some (.cell (.list rows)) → (a.tmps.getD k undef).oneCell' = true := fun hk => rd1_one _ _ (hs.slots _ _ hk)
  rcases lookup_cons hl with ⟨rfl, rfl⟩ | ⟨_, hl⟩
  · exact ⟨rfl, hone h1⟩
  · rcases lookup_cons hl with ⟨rfl, rfl⟩ | ⟨_, hl⟩
    · exact ⟨rfl, hone h2⟩
    · exact d2 _ _ (hs.slots _ _ hl)
omit [Gl P] in
/-- A struct of numbers and strings is equal to itself. -/
theorem eqself_ti [TI P t] {n : Nat} {vs : List Value} {Fs : Array Field} (hu : TI.u P t = .struct Fs) (hp : P.stoodInHeld t = false) (h : FsOk P n vs.toArray Fs.toList) : EqSelf P (n + 1) t (.agg vs.toArray) := by
  have h1 : P.fieldsOf t = Fs := by simp [Program.fieldsOf, TI.hu (P := P) (t := t), hu]
  exact eqself_agg (by rw [TI.hu (P := P) (t := t), hu, h1]) hp (by rw [h1]) h
end
end Go.Vc
end

section
namespace Go.Vc
open Go.RowKit
theorem r_.{u} {α : Sort u} {a : α} : a = a := rfl
theorem g_ {p : Prop} (h : p := by omega) : p := h
theorem h_ {p : Prop} (h : p := by assumption) : p := h
theorem k_ {p : Prop} (h : p := by kernel_rfl) : p := h
theorem t_ {p : Prop} [Decidable p] (h : p := by omega) : decide p = true := decide_eq_true h
theorem u_ {p : Prop} [Decidable p] (h : p := by assumption) : decide p = true := decide_eq_true h
theorem v_ {p : Prop} [Decidable p] (h : ¬ p := by omega) : decide p = false := decide_eq_false h
theorem w_ {p : Prop} [Decidable p] (h : ¬ p := by assumption) : decide p = false := decide_eq_false h
theorem x_ {α : Type} [DecidableEq α] {a : α} : decide (a = a) = true := decide_eq_true rfl
theorem p_ {s : S} {H : List Ch} : s = s ∧ H.Perm H := ⟨rfl, List.Perm.refl _⟩
theorem b_ {n m : Nat} (h : Nat.ble n m = true := by rfl) : n ≤ m := nb h
section
variable {P : Program} [Gl P] {nt : Nat} {c : Cx P nt} {env : Env} {H Hr : List Ch} {ops : Array Oper} {Q : Exit → Act → World → Prop} {l : List Oper} {d : Nat} {op : Op} {ty t : TypeId} {pos : String} {af : Array Edge} {x y : Operand}
theorem o_ (hd : Nat.ble (d + 1) nt = true) (h : OpWp c ⟨some d, op, ty, pos, af, none⟩ env H (fun s H' => JL c ops Q l ((d, s) :: env) H')) : JL c ops Q (⟨some d, op, ty, pos, af, none⟩ :: l) env H := jl_op h (nb hd)
theorem M_ {s : S} (h : (env.ev x, Nat.ble (d + 1) nt) = (some s, true)) (k : JL c ops Q l ((d, s) :: env) H) : JL c ops Q (⟨some d, .move x, ty, pos, af, none⟩ :: l) env H := jl_op (ow_move (Prod.mk.inj h).1 k) (nb (Prod.mk.inj h).2)
theorem E_ {s : S} (h : (env.ev x, Nat.ble (d + 1) nt) = (some s, true)) (k : JL c ops Q l ((d, s) :: env) H) : JL c ops Q (⟨some d, .assign x, ty, pos, af, none⟩ :: l) env H := jl_op (ow_assign (Prod.mk.inj h).1 k) (nb (Prod.mk.inj h).2)
theorem N_ {b o : Nat} {sp : Option Nat} (h : (env.ev x, Nat.ble (d + 1) nt) = (some (.cell (.val (.pointer (some ⟨b, o, sp⟩)))), true)) (k : JL c ops Q l ((d, .cell (.val (.pointer (some ⟨b, o, sp⟩)))) :: env) H) : JL c ops Q (⟨some d, .nilCheck x, ty, pos, af, none⟩ :: l) env H := jl_op (ow_nilCheck (Prod.mk.inj h).1 k) (nb (Prod.mk.inj h).2)
theorem F_ {b o f off size : Nat} [TI P t] [TS P t] (h : (structB (TI.u P t), env.ev x, (TS.pl P t)[f]?, Nat.ble 1 size, Nat.ble (d + 1) nt) = (true, some (.cell (.val (.pointer (some ⟨b, o, none⟩)))), some (off, size), true, true))
    (k : JL c ops Q l ((d, .cell (.val (.pointer (some ⟨b, o + off, none⟩)))) :: env) H) : JL c ops Q (⟨some d, .fieldAddr t x f, ty, pos, af, none⟩ :: l) env H := by
  simp only [Prod.mk.injEq] at h
  obtain ⟨h1, h2, h3, h4, h5⟩ := h
  exact jl_op (ow_fieldAddr h1 h2 h3 (nb h4) k) (nb h5)
theorem L_ {b o : Nat} {row : List C} {e : C} {bt : TypeId} [TI P t] (j : Nat) (h : (aggB (TI.u P t), env.ev x, pick [j] H, row[o]?, Nat.ble (d + 1) nt) = (false, some (.cell (.val (.pointer (some ⟨b, o, none⟩)))), some ([.blk b bt row], Hr), some e, true))
    (k : JL c ops Q l ((d, .cell e) :: env) H) : JL c ops Q (⟨some d, .load t x, ty, pos, af, none⟩ :: l) env H := by
  simp only [Prod.mk.injEq] at h
  obtain ⟨h1, h2, h3, h4, h5⟩ := h
  exact jl_op (ow_load j h1 h2 h3 h4 k) (nb h5)
theorem A_ {b : Nat} {row : List C} {bt : TypeId} [TI P t] (j : Nat) (h : (aggB (TI.u P t), env.ev x, pick [j] H, (TI.i P t).size, Nat.ble (d + 1) nt) = (true, some (.cell (.val (.pointer (some ⟨b, 0, none⟩)))), some ([.blk b bt row], Hr), row.length, true))
    (k : JL c ops Q l ((d, .row row) :: env) H) : JL c ops Q (⟨some d, .load t x, ty, pos, af, none⟩ :: l) env H := by
  simp only [Prod.mk.injEq] at h
  obtain ⟨h1, h2, h3, h4, h5⟩ := h
  exact jl_op (ow_loadAll j h1 h2 h3 h4 k) (nb h5)
theorem S_ {b : Nat} {row r : List C} {s : S} {bt : TypeId} [TI P t] (j : Nat) (h : (env.ev x, env.ev y, s.cells, pick [j] H, (TI.i P t).size, row.length) = (some (.cell (.val (.pointer (some ⟨b, 0, none⟩)))), some s, some r, some ([.blk b bt row], Hr), r.length, r.length))
    (k : JL c ops Q l env (.blk b bt r :: Hr)) : JL c ops Q (⟨none, .store t x y, ty, pos, af, none⟩ :: l) env H := by
  simp only [Prod.mk.injEq] at h
  obtain ⟨h1, h2, h3, h4, h5, h6⟩ := h
  exact jl_op0 (ow_storeAll j h1 h2 h3 h4 h5 h6 k)
theorem W_ {b o : Nat} {row : List C} {c1 : C} {bt : TypeId} [TI P t] (j : Nat) (h : (env.ev x, env.ev y, pick [j] H, (TI.i P t).size, Nat.ble (o + 1) row.length) = (some (.cell (.val (.pointer (some ⟨b, o, none⟩)))), some (.cell c1), some ([.blk b bt row], Hr), 1, true))
    (k : JL c ops Q l env (.blk b bt (row.set o c1) :: Hr)) : JL c ops Q (⟨none, .store t x y, ty, pos, af, none⟩ :: l) env H := by
  simp only [Prod.mk.injEq] at h
  obtain ⟨h1, h2, h3, h4, h5⟩ := h
  exact jl_op0 (ow_store1 j h1 h2 h3 h4 (nb h5) k)
theorem X_ {ss : List S} {i : Nat} {s : S} (h : (env.ev x, ss[i]?, Nat.ble (d + 1) nt) = (some (.tup ss), some s, true)) (k : JL c ops Q l ((d, s) :: env) H) : JL c ops Q (⟨some d, .extract x i, ty, pos, af, none⟩ :: l) env H := by
  simp only [Prod.mk.injEq] at h
  obtain ⟨h1, h2, h3⟩ := h
  exact jl_op (ow_extract h1 h2 k) (nb h3)
theorem R_ {id : Nat} {ls : List Oper} {z : Code} (h : JL c ls.toArray (Exit.then (fun a w => z.wp P Q a w) Q) ls env H) : JC c (.seq (.region id ls.toArray false) z) Q env H := jc_seq (jc_region h)
theorem T_ {z : Code} (h : JC c z Q env H) : JL c ops (Exit.then (fun a w => z.wp P Q a w) Q) [] env H := jl_nil (jq_then h)
theorem B_ {id : Nat} {z u : Code} (h : JC c u (Exit.inBlock id (Exit.then (fun a w => z.wp P Q a w) Q)) env H) : JC c (.seq (.block id u) z) Q env H := jc_seq (jc_block h)
end
section
variable {P : Program} [Gl P] {nt : Nat} {ops : Array Oper} {H : List Ch} {K : Env → Prop} {env : Env} {l : List Oper} {d : Nat} {ty t : TypeId} {pos : String} {af : Array Edge} {x y : Operand} {Hr : List Ch}
theorem yM_ {s : S} (h : (env.only (Oper.looksAt ops ⟨some d, .move x, ty, pos, af, none⟩)).ev x = some s) (k : AnyOk P nt ops H K l ((d, s) :: env)) : AnyOk P nt ops H K (⟨some d, .move x, ty, pos, af, none⟩ :: l) env := any_op (fun _ => ow_move h p_) k
theorem yE_ {s : S} (h : (env.only (Oper.looksAt ops ⟨some d, .assign x, ty, pos, af, none⟩)).ev x = some s) (k : AnyOk P nt ops H K l ((d, s) :: env)) : AnyOk P nt ops H K (⟨some d, .assign x, ty, pos, af, none⟩ :: l) env := any_op (fun _ => ow_assign h p_) k
theorem yN_ {b o : Nat} {sp : Option Nat} (h : (env.only (Oper.looksAt ops ⟨some d, .nilCheck x, ty, pos, af, none⟩)).ev x = some (.cell (.val (.pointer (some ⟨b, o, sp⟩))))) (k : AnyOk P nt ops H K l ((d, .cell (.val (.pointer (some ⟨b, o, sp⟩)))) :: env)) : AnyOk P nt ops H K (⟨some d, .nilCheck x, ty, pos, af, none⟩ :: l) env := any_op (fun _ => ow_nilCheck h p_) k
theorem yF_ {b o f off size : Nat} [TI P t] [TS P t] (h : (structB (TI.u P t), (env.only (Oper.looksAt ops ⟨some d, .fieldAddr t x f, ty, pos, af, none⟩)).ev x, (TS.pl P t)[f]?, Nat.ble 1 size) = (true, some (.cell (.val (.pointer (some ⟨b, o, none⟩)))), some (off, size), true))
    (k : AnyOk P nt ops H K l ((d, .cell (.val (.pointer (some ⟨b, o + off, none⟩)))) :: env)) : AnyOk P nt ops H K (⟨some d, .fieldAddr t x f, ty, pos, af, none⟩ :: l) env := by
  simp only [Prod.mk.injEq] at h
  obtain ⟨h1, h2, h3, h4⟩ := h
  exact any_op (fun _ => ow_fieldAddr h1 h2 h3 (nb h4) p_) k
theorem yL_ {b o : Nat} {row : List C} {e : C} {bt : TypeId} [TI P t] (j : Nat) (h : (aggB (TI.u P t), (env.only (Oper.looksAt ops ⟨some d, .load t x, ty, pos, af, none⟩)).ev x, pick [j] H, row[o]?) = (false, some (.cell (.val (.pointer (some ⟨b, o, none⟩)))), some ([.blk b bt row], Hr), some e))
    (k : AnyOk P nt ops H K l ((d, .cell e) :: env)) : AnyOk P nt ops H K (⟨some d, .load t x, ty, pos, af, none⟩ :: l) env := by
  simp only [Prod.mk.injEq] at h
  obtain ⟨h1, h2, h3, h4⟩ := h
  exact any_op (fun _ => ow_load j h1 h2 h3 h4 p_) k
end
abbrev aa_ := @any_op
abbrev ab_ := @any_guardY
abbrev ac_ := @any_guardN
abbrev ae_ := @any_nil
abbrev af_ := @any_alloc
abbrev ag_ := @jl_op0
abbrev ah_ := @jl_guardY
abbrev ai_ := @jl_guardN
abbrev aj_ := @jl_guardU
abbrev ak_ := @jl_nil
abbrev al_ := @jq_then
abbrev am_ := @jc_seq
abbrev an_ := @jc_region
abbrev ao_ := @jc_any
abbrev ap_ := @jc_condF
abbrev aq_ := @jc_condT
abbrev ar_ := @jc_ret
abbrev as_ := @jc_skip
abbrev au_ := @jc_block
abbrev av_ := @jc_exit
abbrev aw_ := @jq_then_ret
abbrev ax_ := @jq_then_exit
abbrev ay_ := @jq_block
abbrev az_ := @jq_block_ret
abbrev ba_ := @jq_block_exit
abbrev bb_ := @jq_block_other
abbrev bc_ := @sub_step
abbrev bd_ := @ow_move
abbrev be_ := @ow_assign
abbrev bf_ := @ow_fieldAddr
abbrev bg_ := @ow_load
abbrev bh_ := @ow_nilCheck
abbrev bi_ := @ow_call1
abbrev bj_ := @ow_add64
abbrev bk_ := @ow_storeAll
abbrev bl_ := @ow_alloc
abbrev bm_ := @ow_call0
abbrev bn_ := @ow_eql
abbrev bp_ := @ow_pickT
abbrev bq_ := @ow_buildSlice
abbrev br_ := @ow_len
abbrev bs_ := @ow_loadAll
abbrev bt_ := @ow_callP
abbrev bu_ := @ow_build
abbrev bv_ := @ow_pickF
abbrev bw_ := @ow_lss
abbrev bx_ := @ow_neq
abbrev bz_ := @ow_gtr
abbrev ca_ := @ow_store1
abbrev cb_ := @ow_loadPlace
abbrev cc_ := @ow_indexAddrMapE
abbrev cd_ := @ow_not
abbrev ce_ := @ow_notdec
abbrev cf_ := @ow_fieldAddrPlace
abbrev cg_ := @ow_sub64
abbrev ch_ := @ow_rem
abbrev ci_ := @ow_box
abbrev cj_ := @ow_box1
abbrev ck_ := @ow_max2
abbrev cl_ := @ow_min2
abbrev cn_ := @ow_geq
abbrev co_ := @ow_lenstr
abbrev cq_ := @ow_insertSet
abbrev cr_ := @ow_loadPlaceN
abbrev cs_ := @ow_streql
abbrev ct_ := @ow_strneq
abbrev cu_ := @ow_leq
abbrev cv_ := @ow_indexAddrMapI
abbrev cw_ := @ow_lenown
abbrev cx_ := @ow_callv
abbrev cy_ := @ow_neg64
abbrev cz_ := @ow_mul64
abbrev db_ := @ow_loadInn1
abbrev dc_ := @ow_indexOwn
abbrev dd_ := @ow_loadG
abbrev de_ := @ow_indexArr
abbrev df_ := @hp_take
abbrev dg_ := @hp_op
abbrev dh_ := @hp_op0
abbrev di_ := @ht_op
abbrev dj_ := @ht_op0
abbrev dk_ := @hok_move
abbrev dl_ := @hok_fieldAddr
abbrev dm_ := @hok_load
abbrev dn_ := @hok_loadAll
abbrev do_ := @hok_add
abbrev dr_ := @hok_nilCheck
end Go.Vc
end

section
namespace Go.Proofs.YtlniadfidfmckaaGreatDoor
open Go.Vc
attribute [local irreducible] JL JC JQ OpWp Con ConN

def isL (n : Int) : Bool := decide (97 ≤ n) && decide (n ≤ 122)
def isD (n : Int) : Bool := decide (48 ≤ n) && decide (n ≤ 57)
def isLD (n : Int) : Bool := isL n || isD n

theorem letter_c (n : Int) : Con Tryz.prog 115 [In .u8 n] [] (fun K => K (Bl (isL n)) []) := by
  by_cases h : (97 : Int) ≤ n
  · refine con_intro Tryz.func115 rfl rfl (Nat.le_of_ble_eq_true rfl) (fun c hc => R_ (E_ r_ (T_ (R_ (M_ r_ (o_ r_ (cn_ r_ r_ (M_ r_ (ah_ r_ u_ b_ (bd_ r_ (ah_ r_ u_ b_ (cu_ r_ r_ (o_ r_ (bp_ r_ u_ r_ (E_ r_ (T_ (ar_ (jq_ret1 rfl rfl [] rfl (fun K h' => by rw [show isL n = decide (n ≤ 122) by simp [isL, h]] at h'; exact h')))))))))))))))))))
  · refine con_intro Tryz.func115 rfl rfl (Nat.le_of_ble_eq_true rfl) (fun c hc => R_ (E_ r_ (T_ (R_ (M_ r_ (o_ r_ (cn_ r_ r_ (M_ r_ (ai_ r_ w_ b_ (ai_ r_ w_ b_ (o_ r_ (bv_ r_ w_ r_ (E_ r_ (T_ (ar_ (jq_ret1 rfl rfl [] rfl (fun K h' => by rw [show isL n = false by simp [isL, h]] at h'; exact h')))))))))))))))))
theorem digit_c (n : Int) : Con Tryz.prog 90 [In .u8 n] [] (fun K => K (Bl (isD n)) []) := by
  by_cases h : (48 : Int) ≤ n
  · refine con_intro Tryz.func90 rfl rfl (Nat.le_of_ble_eq_true rfl) (fun c hc => R_ (E_ r_ (T_ (R_ (M_ r_ (o_ r_ (cn_ r_ r_ (M_ r_ (ah_ r_ u_ b_ (bd_ r_ (ah_ r_ u_ b_ (cu_ r_ r_ (o_ r_ (bp_ r_ u_ r_ (E_ r_ (T_ (ar_ (jq_ret1 rfl rfl [] rfl (fun K h' => by rw [show isD n = decide (n ≤ 57) by simp [isD, h]] at h'; exact h')))))))))))))))))))
  · refine con_intro Tryz.func90 rfl rfl (Nat.le_of_ble_eq_true rfl) (fun c hc => R_ (E_ r_ (T_ (R_ (M_ r_ (o_ r_ (cn_ r_ r_ (M_ r_ (ai_ r_ w_ b_ (ai_ r_ w_ b_ (o_ r_ (bv_ r_ w_ r_ (E_ r_ (T_ (ar_ (jq_ret1 rfl rfl [] rfl (fun K h' => by rw [show isD n = false by simp [isD, h]] at h'; exact h')))))))))))))))))
theorem both_c (n : Int) : Con Tryz.prog 116 [In .u8 n] [] (fun K => K (Bl (isLD n)) []) := by
  cases h : isL n with
  | true =>
    refine con_intro Tryz.func116 rfl rfl (Nat.le_of_ble_eq_true rfl) (fun c hc => R_ (E_ r_ (T_ (R_ (M_ r_ (o_ r_ (bm_ r_ (letter_c _) (M_ r_ (ai_ r_ h_ b_ (ai_ r_ h_ b_ (o_ r_ (bp_ r_ h_ r_ (E_ r_ (T_ (ar_ (jq_ret1 rfl rfl [] rfl (fun K h' => by rw [show isLD n = true by simp [isLD, h]] at h'; exact h')))))))))))))))))
  | false =>
    refine con_intro Tryz.func116 rfl rfl (Nat.le_of_ble_eq_true rfl) (fun c hc => R_ (E_ r_ (T_ (R_ (M_ r_ (o_ r_ (bm_ r_ (letter_c _) (M_ r_ (ah_ r_ h_ b_ (bd_ r_ (ah_ r_ h_ b_ (bm_ r_ (digit_c _) (o_ r_ (bv_ r_ h_ r_ (E_ r_ (T_ (ar_ (jq_ret1 rfl rfl [] rfl (fun K h' => by rw [show isLD n = isD n by simp [isLD, h]] at h'; exact h')))))))))))))))))))

theorem run_c (p : Int → Bool) (f : FuncId) [FI Tryz.prog f] (hp : ∀ n, Con Tryz.prog f [In .u8 n] [] (fun K => K (Bl (p n)) [])) (s : ByteArray) (hs : s.size ≤ 1000000) :
    Con Tryz.prog 89 [Str s, .cell (.val (.func (.func f) #[] #[]))] [] (fun K => K (In .i64 (runLen p s : Int)) []) := by
  refine con_intro Tryz.func89 rfl rfl (Nat.le_of_ble_eq_true rfl) (fun c hc => R_ (E_ r_ (T_ (R_ (E_ r_ (T_ (B_ (jc_loopS [] (fun k : Nat => k ≤ s.size ∧ ∀ j, j < k → p (byteAt s j) = true) (fun k => [(0, Str s), (1, .cell (.val (.func (.func f) #[] #[]))), (5, In .i64 (k : Int))]) (fun _ => []) (fun k => s.size - k) 0 ⟨Nat.zero_le _, fun j h => by omega⟩ ?_ ?_ ?_))))))))
  · exact sub_end
  · (repeat (first | exact True.intro | refine ⟨rfl, ?_⟩))
  · rintro k ⟨hk, hall⟩
    by_cases hlt : (k : Int) < (s.size : Int)
    · refine am_ (R_ (M_ r_ (M_ r_ (o_ r_ (co_ r_ r_ (o_ r_ (bw_ r_ r_ (M_ r_ (ah_ r_ u_ b_ (bd_ r_ (ah_ r_ u_ b_ (bd_ r_ (ah_ r_ u_ b_ (bd_ r_ (ah_ r_ u_ b_ (ow_indexStr r_ r_ r_ g_ g_ (ah_ r_ u_ b_ (ow_callv0 r_ r_ (hp _) (o_ r_ (bp_ r_ u_ r_ (T_ (jc_cond rfl (fun hb => ?_) (fun hb => ?_)))))))))))))))))))))))
      · refine as_ (al_ (au_ (an_ (M_ r_ (o_ r_ (bj_ r_ r_ g_ (E_ r_ (ak_ (ay_ (jq_againS (k + 1) ⟨by omega, fun j hj => ?_⟩ g_ ?_ ?_))))))))))
        · by_cases hjk : j < k
          · exact hall j hjk
          · obtain rfl : j = k := by omega
            exact hb
        · exact sub_end
        · (repeat (first | exact True.intro | refine ⟨rfl, ?_⟩))
      · refine av_ (ax_ (ax_ (ba_ (al_ (R_ (M_ r_ (E_ r_ (T_ (ar_ ?_)))))))))
        have e : runLen p s = k := runLen_eq hall hk (fun _ => hb)
        refine jq_ret1 rfl rfl [] rfl (fun K h => by rw [e] at h; exact h)
    · refine am_ (R_ (M_ r_ (M_ r_ (o_ r_ (co_ r_ r_ (o_ r_ (bw_ r_ r_ (M_ r_ (ai_ r_ w_ b_ (ai_ r_ w_ b_ (ai_ r_ w_ b_ (ai_ r_ w_ b_ (ai_ r_ w_ b_ (o_ r_ (bv_ r_ w_ r_ (T_ (jc_cond rfl (fun h => by cases h) (fun _ => av_ ?_))))))))))))))))))
      refine ax_ (ax_ (ba_ (al_ (R_ (M_ r_ (E_ r_ (T_ (ar_ ?_))))))))
      have e : runLen p s = k := runLen_eq hall hk (fun h => by omega)
      refine jq_ret1 rfl rfl [] rfl (fun K h => by rw [e] at h; exact h)

/-- How many bytes a name has at the beginning. -/
def nameLen (s : ByteArray) : Nat := if 0 < s.size ∧ isL (byteAt s 0) = true then runLen isLD s else 0
theorem name_c (s : ByteArray) (hs : s.size ≤ 1000000) : Con Tryz.prog 88 [Str s] [] (fun K => K (In .i64 (nameLen s : Int)) []) := by
  refine con_intro Tryz.func88 rfl rfl (Nat.le_of_ble_eq_true rfl) (fun c hc => R_ (E_ r_ (T_ (am_ (am_ (jc_cut (ι := Bool) [] (fun b => b = !(decide (0 < s.size) && isL (byteAt s 0))) (fun b => [(0, Str s), (10, Bl b)]) (fun _ => []) ?_ ?_))))))
  · by_cases h0 : s = ⟨#[]⟩
    · refine an_ (M_ r_ (o_ r_ (cs_ r_ r_ (M_ r_ (ai_ r_ u_ b_ (ai_ r_ u_ b_ (ai_ r_ u_ b_ (ai_ r_ u_ b_ (o_ r_ (bp_ r_ u_ r_ (ak_ (jq_cutS true ?_ ?_ ?_))))))))))))
      · rw [h0]; rfl
      · exact sub_end
      · (repeat (first | exact True.intro | refine ⟨rfl, ?_⟩))
    · have hpos : 0 < s.size := by
        rcases Nat.eq_zero_or_pos s.size with h | h
        · exact absurd (by cases s; rename_i d; have : d = #[] := Array.eq_empty_of_size_eq_zero h; rw [this]) h0
        · exact h
      refine an_ (M_ r_ (o_ r_ (cs_ r_ r_ (M_ r_ (ah_ r_ w_ b_ (bd_ r_ (ah_ r_ w_ b_ (ow_indexStr r_ r_ r_ g_ g_ (ah_ r_ w_ b_ (bm_ r_ (letter_c _) (ah_ r_ w_ b_ (cd_ r_ (o_ r_ (bv_ r_ w_ r_ (ak_ (jq_cutS (!isL (byteAt s 0)) (by simp [hpos]) ?_ ?_))))))))))))))))
      · exact sub_end
      · (repeat (first | exact True.intro | refine ⟨rfl, ?_⟩))
  · intro b hb
    refine jc_cond rfl (fun h => ?_) (fun h => ?_)
    · refine R_ (E_ r_ (T_ (ar_ (aw_ ?_))))
      have e : nameLen s = 0 := by
        unfold nameLen
        rw [if_neg]
        rintro ⟨h1, h2⟩
        rw [hb] at h
        simp [h1, h2] at h
      refine jq_ret1 rfl rfl [] rfl (fun K h => by rw [e] at h; exact h)
    · refine as_ (al_ (R_ (M_ r_ (o_ r_ (bm_ r_ (run_c isLD _ both_c s hs) (E_ r_ (T_ (ar_ ?_))))))))
      have e : nameLen s = runLen isLD s := by
        unfold nameLen
        rw [if_pos]
        rw [hb] at h
        simpa using h
      refine jq_ret1 rfl rfl [] rfl (fun K h => by rw [e] at h; exact h)

/-- The number that digits say; 2^31 if it is that or more. -/
def numVal (l : List Int) : Int := l.foldl (fun n c => min (10 * n + (c - 48)) 2147483648) 0
theorem numVal_snoc (l : List Int) (c : Int) : numVal (l ++ [c]) = min (10 * numVal l + (c - 48)) 2147483648 := by simp [numVal]
theorem numVal_bdF : ∀ (l : List Int) (n : Int), (∀ c ∈ l, isD c = true) → 0 ≤ n ∧ n ≤ 2147483648 →
    0 ≤ l.foldl (fun n c => min (10 * n + (c - 48)) 2147483648) n ∧ l.foldl (fun n c => min (10 * n + (c - 48)) 2147483648) n ≤ 2147483648 := by
  intro l
  induction l with
  | nil => intro n _ h; exact h
  | cons c l ih =>
    intro n hd hn
    have h2 : isD c = true := hd c (by simp)
    simp only [isD, Bool.and_eq_true, decide_eq_true_eq] at h2
    rw [List.foldl_cons]
    exact ih _ (fun x hx => hd x (by simp [hx])) g_
theorem numVal_bd (l : List Int) (h : ∀ c ∈ l, isD c = true) : 0 ≤ numVal l ∧ numVal l ≤ 2147483648 :=
  numVal_bdF l 0 h (by omega)
theorem number_c (s : ByteArray) (hs : s.size ≤ 1000000) (hd : ∀ c ∈ bytesI s, isD c = true) : Con Tryz.prog 91 [Str s] [] (fun K => K (In .i64 (numVal (bytesI s))) []) := by
  refine con_intro Tryz.func91 rfl rfl (Nat.le_of_ble_eq_true rfl) (fun c hc => R_ (E_ r_ (T_ (R_ (E_ r_ (T_ (am_ (R_ (M_ r_ (o_ r_ (ow_strBytes r_ r_ g_ r_ (o_ r_ (br_ r_ (fun hlen => M_ r_ (T_ (au_ ?_))))))))))))))))
  have eL : ((bytesI s).map Brow).length = (bytesI s).length := List.length_map _
  refine jc_loopS [] (fun k : Nat => k ≤ (bytesI s).length) (fun k => [(7, .cell (.list ((bytesI s).map Brow))), (8, In .i64 (((bytesI s).map Brow).length : Int)), (3, In .i64 (numVal ((bytesI s).take k))), (9, In .i64 (k : Int))]) (fun _ => []) (fun k => (bytesI s).length - k) 0 (Nat.zero_le _) ?_ ?_ ?_
  · exact sub_end
  · (repeat (first | exact True.intro | refine ⟨rfl, ?_⟩))
  · intro k hk
    refine R_ (o_ r_ (bw_ r_ r_ (T_ (am_ (jc_condd rfl (fun hlt => ?_) (fun hge => ?_))))))
    · have hlt' : k < (bytesI s).length := by omega
      have h1 := hd (bytesI s)[k] (List.getElem_mem hlt')
      simp only [isD, Bool.and_eq_true, decide_eq_true_eq] at h1
      have h2 := numVal_bd ((bytesI s).take k) (fun c hc => hd c (List.mem_of_mem_take hc))
      have e : numVal ((bytesI s).take (k + 1)) = min (10 * numVal ((bytesI s).take k) + ((bytesI s)[k] - 48)) 2147483648 := by rw [List.take_succ_eq_append_getElem hlt', numVal_snoc]
      refine as_ (al_ (B_ (R_ (o_ r_ (cc_ r_ r_ g_ r_ r_ b_ (o_ r_ (cb_ r_ r_ (E_ r_ (T_ (an_ (M_ r_ (o_ r_ (cz_ r_ r_ g_ (M_ r_ (o_ r_ (ow_subU8 r_ r_ g_ (o_ r_ (ow_convI64 r_ r_ r_ g_ (o_ r_ (bj_ r_ r_ g_ (o_ r_ (cl_ r_ r_ ?_))))))))))))))))))))))
      refine E_ r_ (ak_ (ay_ (al_ (an_ (o_ r_ (bj_ r_ r_ g_ (M_ r_ (ak_ (jq_againS (k + 1) g_ g_ ?_ ?_)))))))))
      · exact sub_end
      · rw [e]
        (repeat (first | exact True.intro | refine ⟨rfl, ?_⟩))
    · refine av_ (ax_ (ax_ (ba_ (al_ (R_ (M_ r_ (E_ r_ (T_ (ar_ (jq_ret1 rfl rfl [] rfl (fun K h => by rw [← List.take_of_length_le (show (bytesI s).length ≤ k by omega)] at h; exact h)))))))))))

/-- All signs. -/
def SG : List ByteArray := [⟨#[43]⟩, ⟨#[45]⟩, ⟨#[42]⟩, ⟨#[47]⟩, ⟨#[37]⟩, ⟨#[38]⟩, ⟨#[124]⟩, ⟨#[94]⟩, ⟨#[60, 60]⟩, ⟨#[62, 62]⟩, ⟨#[60]⟩, ⟨#[60, 61]⟩, ⟨#[61, 61]⟩, ⟨#[33, 61]⟩, ⟨#[61]⟩, ⟨#[40]⟩, ⟨#[41]⟩, ⟨#[91]⟩, ⟨#[93]⟩, ⟨#[123]⟩, ⟨#[125]⟩]
theorem signs_c : Con Tryz.prog 59 [] [] (fun K => K (.cell (.map (setE SG))) []) := by
  refine con_intro Tryz.func59 rfl rfl (Nat.le_of_ble_eq_true rfl) (fun c hc => R_ (E_ r_ (T_ (R_ (o_ r_ (ow_makeMap (fun bm hbm => ag_ (cq_ 0 rfl rfl rfl rfl (by decide) (ag_ (cq_ 0 rfl rfl rfl rfl (by decide) (ag_ (cq_ 0 rfl rfl rfl rfl (by decide) (ag_ (cq_ 0 rfl rfl rfl rfl (by decide) (ag_ (cq_ 0 rfl rfl rfl rfl (by decide) (ag_ (cq_ 0 rfl rfl rfl rfl (by decide) ?_))))))))))))))))))
  refine ag_ (cq_ 0 rfl rfl rfl rfl (by decide) (ag_ (cq_ 0 rfl rfl rfl rfl (by decide) (ag_ (cq_ 0 rfl rfl rfl rfl (by decide) (ag_ (cq_ 0 rfl rfl rfl rfl (by decide) (ag_ (cq_ 0 rfl rfl rfl rfl (by decide) (ag_ (cq_ 0 rfl rfl rfl rfl (by decide) (ag_ (cq_ 0 rfl rfl rfl rfl (by decide) (ag_ (cq_ 0 rfl rfl rfl rfl (by decide) (ag_ (cq_ 0 rfl rfl rfl rfl (by decide) (ag_ (cq_ 0 rfl rfl rfl rfl (by decide) ?_)))))))))))))))))))
  refine ag_ (cq_ 0 rfl rfl rfl rfl (by decide) (ag_ (cq_ 0 rfl rfl rfl rfl (by decide) (ag_ (cq_ 0 rfl rfl rfl rfl (by decide) (ag_ (cq_ 0 rfl rfl rfl rfl (by decide) (ag_ (cq_ 0 rfl rfl rfl rfl (by decide) (M_ r_ (E_ r_ (T_ (ar_ (jq_freezeM 0 0 rfl rfl hbm (jq_ret1 rfl rfl [] rfl (fun K h => h))))))))))))))))

/-- How many bytes a sign has at the beginning. -/
def signLen (s : ByteArray) : Nat := if 2 ≤ s.size ∧ hasS SG (s.extract 0 2) = true then 2 else if 1 ≤ s.size ∧ hasS SG (s.extract 0 1) = true then 1 else 0
theorem sign_c (s : ByteArray) (hs : s.size ≤ 1000000) : Con Tryz.prog 92 [Str s, .cell (.map (setE SG))] [] (fun K => K (In .i64 (signLen s : Int)) []) := by
  refine con_intro Tryz.func92 rfl rfl (Nat.le_of_ble_eq_true rfl) (fun c hc => R_ (E_ r_ (T_ (am_ (R_ (M_ r_ (o_ r_ (co_ r_ r_ (o_ r_ (cl_ r_ r_ (E_ r_ (T_ (au_ ?_)))))))))))))
  obtain ⟨n0, hn0, hn2, hns⟩ : ∃ n : Nat, min 2 (s.size : Int) = (n : Int) ∧ n ≤ 2 ∧ n = min 2 s.size := ⟨min 2 s.size, by omega, by omega, rfl⟩
  rw [hn0]
  refine jc_loopS [] (fun k : Nat => k ≤ 2 ∧ k ≤ s.size ∧ (k < 2 → ¬ (2 ≤ s.size ∧ hasS SG (s.extract 0 2) = true)) ∧ (k < 1 → ¬ (1 ≤ s.size ∧ hasS SG (s.extract 0 1) = true))) (fun k => [(0, Str s), (1, .cell (.map (setE SG))), (5, In .i64 (k : Int))]) (fun _ => []) (fun k => k) n0 ⟨hn2, by omega, fun h => by omega, fun h => by omega⟩ ?_ ?_ ?_
  · exact sub_end
  · (repeat (first | exact True.intro | refine ⟨rfl, ?_⟩))
  · rintro k ⟨h2, hle, hn2, hn1⟩
    refine am_ (R_ (M_ r_ (o_ r_ (bz_ r_ r_ (T_ (jc_condd rfl (fun hpos => ?_) (fun hz => ?_)))))))
    · refine as_ (al_ (B_ (R_ (M_ r_ (M_ r_ (M_ r_ (o_ r_ (ow_substrHi r_ r_ r_ g_ g_ (o_ r_ (ow_lookupSet r_ r_ r_ (T_ (jc_cond rfl (fun hb => ?_) (fun hb => ?_)))))))))))))
      · have e : signLen s = k := by
          have hk : k = 2 ∨ k = 1 := by omega
          rcases hk with rfl | rfl
          · unfold signLen; rw [if_pos ⟨by omega, hb⟩]
          · unfold signLen; rw [if_neg (hn2 (by omega)), if_pos ⟨by omega, hb⟩]
        refine R_ (M_ r_ (E_ r_ (T_ (ar_ (az_ (aw_ (aw_ (az_ (aw_ (jq_ret1 rfl rfl [] rfl (fun K h => by rw [e] at h; exact h)))))))))))
      · refine as_ (ay_ (al_ (an_ (M_ r_ (o_ r_ (cg_ r_ r_ g_ (E_ r_ (ak_ ?_))))))))
        obtain ⟨m, rfl⟩ : ∃ m, k = m + 1 := ⟨k - 1, by omega⟩
        refine jq_againS (i := m + 1) m ⟨by omega, by omega, fun h hh => ?_, fun h hh => ?_⟩ g_ ?_ ?_
        · have hm : m = 1 ∨ m = 0 := by omega
          rcases hm with rfl | rfl
          · have hb' : hasS SG (s.extract 0 2) = false := hb
            rw [hb'] at hh; exact absurd hh.2 (by simp)
          · exact hn2 g_ hh
        · obtain rfl : m = 0 := by omega
          have hb' : hasS SG (s.extract 0 1) = false := hb
          rw [hb'] at hh; exact absurd hh.2 (by simp)
        · exact sub_end
        · rw [show ((m : Nat) : Int) = ((m + 1 : Nat) : Int) - 1 by omega]
          (repeat (first | exact True.intro | refine ⟨rfl, ?_⟩))
    · obtain rfl : k = 0 := by omega
      have e : signLen s = 0 := by unfold signLen; rw [if_neg (hn2 (by omega)), if_neg (hn1 (by omega))]
      refine av_ (ax_ (ax_ (ba_ (al_ (R_ (E_ r_ (T_ (ar_ (jq_ret1 rfl rfl [] rfl (fun K h => by rw [e] at h; exact h))))))))))
end Go.Proofs.YtlniadfidfmckaaGreatDoor
end

section
namespace Go.Proofs.YtlniadfidfmckaaGreatDoor
open Go.Vc
attribute [local irreducible] JL JC JQ OpWp Con ConN

/-- A token's row. -/
def tokC (k v l : Int) (t : ByteArray) : List C := [.val (.int .i64 k), .val (.int .i64 v), .val (.int .i64 l), .val (.string t)]
/-- The token at the beginning (kind, number, text) and its length. -/
def nextT (s : ByteArray) : (Int × Int × ByteArray) × Nat :=
  if 0 < nameLen s then (if 12 < nameLen s then ((0, 0, ⟨#[]⟩), 0) else ((1, 0, s.extract 0 (nameLen s)), nameLen s))
  else if 0 < runLen isD s then (if 2147483647 < numVal (bytesI (s.extract 0 (runLen isD s))) then ((0, 0, ⟨#[]⟩), 0) else ((2, numVal (bytesI (s.extract 0 (runLen isD s))), ⟨#[]⟩), runLen isD s))
  else ((3, 0, s.extract 0 (signLen s)), signLen s)
theorem take_takeWhile {α : Type} {p : α → Bool} : ∀ l : List α, ∀ x ∈ l.take (l.takeWhile p).length, p x = true
  | [], x, h => by simp at h
  | a :: l, x, h => by
    cases hp : p a with
    | false => simp [hp] at h
    | true =>
      rw [List.takeWhile_cons, if_pos hp, List.length_cons, List.take_succ_cons] at h
      rcases List.mem_cons.1 h with rfl | h
      · exact hp
      · exact take_takeWhile l x h
theorem run_dig (s : ByteArray) : ∀ c ∈ bytesI (s.extract 0 (runLen isD s)), isD c = true := by
  rw [extract_bytes]
  exact take_takeWhile (bytesI s)
theorem nameLen_le (s : ByteArray) : nameLen s ≤ s.size := by
  unfold nameLen
  split
  · exact runLen_le _ _
  · exact Nat.zero_le _
theorem signLen_le (s : ByteArray) : signLen s ≤ s.size := by
  unfold signLen
  split
  · omega
  · split
    · omega
    · omega
theorem next_c (s : ByteArray) (hs : s.size ≤ 1000000) : Con Tryz.prog 60 [Str s, .cell (.map (setE SG))] [] (fun K => K (.tup [.row (tokC (nextT s).1.1 (nextT s).1.2.1 0 (nextT s).1.2.2), In .i64 ((nextT s).2 : Int)]) []) := by
  have h1 := nameLen_le s
  have h2 := runLen_le isD s
  have h3 := signLen_le s
  refine con_intro Tryz.func60 rfl rfl (Nat.le_of_ble_eq_true rfl) (fun c hc => R_ (o_ r_ (bl_ r_ r_ (fun bl => E_ r_ (T_ (am_ (R_ (M_ r_ (o_ r_ (bm_ r_ (name_c s hs) (E_ r_ (T_ (R_ (M_ r_ (o_ r_ (bz_ r_ r_ (T_ (jc_condd rfl (fun hn => ?_) (fun hn => ?_)))))))))))))))))))
  · refine am_ (R_ (M_ r_ (o_ r_ (bz_ r_ r_ (T_ (jc_condd rfl (fun hg => ?_) (fun hg => ?_)))))))
    · refine R_ (o_ r_ (bu_ r_ r_ r_ r_ r_ (S_ 0 r_ (E_ r_ (T_ (ar_ (aw_ (aw_ ?_))))))))
      have e : nextT s = ((0, 0, ⟨#[]⟩), 0) := by unfold nextT; rw [if_pos (by omega), if_pos (by omega)]
      exact jq_retRowT rfl rfl rfl rfl rfl 0 rfl (fun K h => by rw [e] at h; exact h) sub_end
    · refine as_ (al_ (R_ (M_ r_ (M_ r_ (o_ r_ (ow_substrHi r_ r_ r_ g_ g_ (o_ r_ (bu_ r_ r_ r_ r_ r_ (M_ r_ (S_ 0 r_ (E_ r_ (T_ (ar_ (aw_ ?_))))))))))))))
      have e : nextT s = ((1, 0, s.extract 0 (nameLen s)), nameLen s) := by unfold nextT; rw [if_pos (by omega), if_neg (by omega)]
      exact jq_retRowT rfl rfl rfl rfl rfl 0 rfl (fun K h => by rw [e] at h; exact h) sub_end
  · have e0 : nextT s = (if 0 < runLen isD s then (if 2147483647 < numVal (bytesI (s.extract 0 (runLen isD s))) then ((0, 0, ⟨#[]⟩), 0) else ((2, numVal (bytesI (s.extract 0 (runLen isD s))), ⟨#[]⟩), runLen isD s)) else ((3, 0, s.extract 0 (signLen s)), signLen s)) := by unfold nextT; rw [if_neg (by omega)]
    refine as_ (al_ (am_ (R_ (M_ r_ (o_ r_ (bm_ r_ (run_c isD _ digit_c s hs) (E_ r_ (T_ (R_ (M_ r_ (o_ r_ (bz_ r_ r_ (T_ (jc_condd rfl (fun hr => ?_) (fun hr => ?_)))))))))))))))
    · have hsz : (s.extract 0 (runLen isD s)).size ≤ 1000000 := by rw [extract_size _ _ _ h2]; omega
      refine R_ (M_ r_ (M_ r_ (o_ r_ (ow_substrHi r_ r_ r_ g_ g_ (o_ r_ (bm_ r_ (number_c _ hsz (run_dig s)) (E_ r_ (T_ (am_ (R_ (M_ r_ (o_ r_ (bz_ r_ r_ (T_ (jc_condd rfl (fun hg => ?_) (fun hg => ?_))))))))))))))))
      · refine R_ (o_ r_ (bu_ r_ r_ r_ r_ r_ (S_ 0 r_ (E_ r_ (T_ (ar_ (aw_ (aw_ ?_))))))))
        have e : nextT s = ((0, 0, ⟨#[]⟩), 0) := by rw [e0, if_pos (by omega), if_pos (show 2147483647 < numVal (bytesI (s.extract 0 (runLen isD s))) from hg)]
        exact jq_retRowT rfl rfl rfl rfl rfl 0 rfl (fun K h => by rw [e] at h; exact h) sub_end
      · refine as_ (al_ (R_ (M_ r_ (o_ r_ (bu_ r_ r_ r_ r_ r_ (M_ r_ (S_ 0 r_ (E_ r_ (T_ (ar_ (aw_ ?_)))))))))))
        have e : nextT s = ((2, numVal (bytesI (s.extract 0 (runLen isD s))), ⟨#[]⟩), runLen isD s) := by rw [e0, if_pos (by omega), if_neg (show ¬ 2147483647 < numVal (bytesI (s.extract 0 (runLen isD s))) from hg)]
        exact jq_retRowT rfl rfl rfl rfl rfl 0 rfl (fun K h => by rw [e] at h; exact h) sub_end
    · refine as_ (al_ (R_ (M_ r_ (M_ r_ (o_ r_ (bm_ r_ (sign_c s hs) (E_ r_ (T_ (R_ (M_ r_ (M_ r_ (o_ r_ (ow_substrHi r_ r_ r_ g_ g_ (o_ r_ (bu_ r_ r_ r_ r_ r_ (M_ r_ (S_ 0 r_ (E_ r_ ?_))))))))))))))))))
      refine T_ (ar_ ?_)
      have e : nextT s = ((3, 0, s.extract 0 (signLen s)), signLen s) := by rw [e0, if_neg (by omega)]
      exact jq_retRowT rfl rfl rfl rfl rfl 0 rfl (fun K h => by rw [e] at h; exact h) sub_end
end Go.Proofs.YtlniadfidfmckaaGreatDoor
end

section
namespace Go.Proofs.YtlniadfidfmckaaGreatDoor
open Go.Vc
attribute [local irreducible] JL JC JQ OpWp Con ConN

/-- A token: kind, number, line, text. -/
structure Tok where
  kind : Int
  num : Int
  line : Int
  text : ByteArray
def Tok.row (t : Tok) : List C := tokC t.kind t.num t.line t.text
/-- The rest of a scan. -/
def scanGo (s : ByteArray) (at_ : Nat) (line : Int) (out : List Tok) : List Tok × Int × Int :=
  if h : at_ < s.size then
    if byteAt s at_ = 10 then scanGo s (at_ + 1) (line + 1) out
    else if byteAt s at_ = 32 ∨ byteAt s at_ = 9 then scanGo s (at_ + 1) line out
    else if hn : (nextT (s.extract at_ s.size)).2 = 0 then ([], line, 1)
    else scanGo s (at_ + (nextT (s.extract at_ s.size)).2) line (out ++ [⟨(nextT (s.extract at_ s.size)).1.1, (nextT (s.extract at_ s.size)).1.2.1, line, (nextT (s.extract at_ s.size)).1.2.2⟩])
  else (out, 0, 0)
termination_by s.size - at_
decreasing_by all_goals omega
def scan (s : ByteArray) : List Tok × Int × Int := if 8192 < s.size then ([], 0, 4) else scanGo s 0 1 []
theorem nextT_le (s : ByteArray) : (nextT s).2 ≤ s.size := by
  have h1 := nameLen_le s
  have h2 := runLen_le isD s
  have h3 := signLen_le s
  unfold nextT
  split
  · split
    · exact Nat.zero_le _
    · exact h1
  · split
    · split
      · exact Nat.zero_le _
      · exact h2
    · exact h3

attribute [local irreducible] nextT scan byteAt
theorem Scan_c (s : ByteArray) : Con Tryz.prog 30 [Str s] [] (fun K => K (.tup [.cell (.list ((scan s).1.map Tok.row)), In .i64 (scan s).2.1, In .i64 (scan s).2.2]) []) := by
  refine con_intro Tryz.func30 rfl rfl (Nat.le_of_ble_eq_true rfl) (fun c hc => R_ (E_ r_ (E_ r_ (E_ r_ (T_ (am_ (R_ (M_ r_ (o_ r_ (co_ r_ r_ (o_ r_ (bz_ r_ r_ (T_ (jc_condd rfl (fun hn => ?_) (fun hn => ?_)))))))))))))))
  · refine R_ (E_ r_ (E_ r_ (E_ r_ (T_ (ar_ (aw_ ?_))))))
    have e : scan s = ([], 0, 4) := by unfold scan; rw [if_pos (by omega)]
    exact jq_ownNil 126 4 g_ (jq_freeze 2 0 rfl rfl (by rw [hc]; simp [hb]) (jq_ret3 rfl rfl rfl rfl (fun K h => by rw [e] at h; exact h) sub_end))
  · have hsz : s.size ≤ 8192 := by omega
    refine as_ (al_ (R_ (E_ r_ (T_ (R_ (o_ r_ (bm_ r_ (signs_c) (E_ r_ (T_ (R_ (E_ r_ (T_ (am_ (R_ (E_ r_ (T_ ?_))))))))))))))))
    refine au_ (jc_ownNil 126 4 g_ ?_)
    refine jc_loopS (ι := Nat × Int × Value × List Tok) [] (fun i => scanGo s i.1 i.2.1 i.2.2.2 = scan s ∧ i.1 ≤ s.size ∧ 1 ≤ i.2.1 ∧ i.2.1 ≤ 1 + i.1 ∧ i.2.2.2.length ≤ i.1) (fun i => [(0, Str s), (2, S.cell (C.val (.slice none 0 0))), (5, .cell (.val i.2.2.1)), (6, .cell (.map (setE SG))), (7, In .i64 i.2.1), (8, In .i64 (i.1 : Int))]) (fun i => [.own i.2.2.1 126 4 (i.2.2.2.map Tok.row)]) (fun i => s.size - i.1) (0, 1, .slice none 0 0, []) ⟨by unfold scan; rw [if_neg g_], by omega, by dsimp only; omega, by dsimp only; omega, by simp⟩ ?_ ?_ ?_
    · exact bc_ 0 r_ sub_end
    · (repeat (first | exact True.intro | refine ⟨rfl, ?_⟩))
    · rintro ⟨k, line, v, out⟩ ⟨hsc, hk, hl1, hl2, hlen⟩
      dsimp only at hsc hk hl1 hl2 hlen ⊢
      refine jc_reset [(0, Str s), (2, S.cell (C.val (.slice none 0 0))), (5, .cell (.val v)), (6, .cell (.map (setE SG))), (7, In .i64 line), (8, In .i64 (k : Int))] [.own v 126 4 (out.map Tok.row)] ?_ ⟨[0], [], rfl⟩ ?_
      · (repeat (first | exact True.intro | refine ⟨rfl, ?_⟩))
      refine am_ (R_ (M_ r_ (M_ r_ (o_ r_ (co_ r_ r_ (o_ r_ (bw_ r_ r_ (T_ (jc_condd rfl (fun hlt => ?_) (fun hge => ?_))))))))))
      · have hlt' : k < s.size := by omega
        rw [scanGo, dif_pos hlt'] at hsc
        have hx : (s.extract k s.size).size = s.size - k := by rw [extract_size _ _ _ (Nat.le_refl _)]
        have hnl := nextT_le (s.extract k s.size)
        refine as_ (al_ (au_ (am_ (R_ (M_ r_ (M_ r_ (o_ r_ (ow_indexStr r_ r_ r_ g_ g_ (T_ (au_ (R_ (o_ r_ (bn_ r_ r_ (E_ r_ (T_ (jc_condd rfl (fun h10 => ?_) (fun h10 => ?_)))))))))))))))))
        · rw [if_pos (show byteAt s k = 10 from h10)] at hsc
          refine R_ (M_ r_ (o_ r_ (bj_ r_ r_ g_ (E_ r_ (T_ (R_ (M_ r_ (o_ r_ (bj_ r_ r_ g_ (E_ r_ (T_ (av_ (bb_ r_ (ax_ (ba_ (jq_againS (i := (k, line, v, out)) (k + 1, line + 1, v, out) ⟨hsc, by dsimp only; omega, by dsimp only; omega, by dsimp only; omega, by dsimp only; omega⟩ (by dsimp only; omega) ?_ ?_))))))))))))))))
          · exact bc_ 0 r_ sub_end
          · (repeat (first | exact True.intro | refine ⟨rfl, ?_⟩))
        · rw [if_neg (show ¬ byteAt s k = 10 from h10)] at hsc
          refine am_ (R_ (o_ r_ (bn_ r_ r_ (E_ r_ (T_ (jc_condd rfl (fun h32 => ?_) (fun h32 => ?_)))))))
          · rw [if_pos (Or.inl (show byteAt s k = 32 from h32))] at hsc
            refine as_ (al_ (jc_condd rfl (fun _ => R_ (M_ r_ (o_ r_ (bj_ r_ r_ g_ (E_ r_ (T_ (av_ (bb_ r_ (ax_ (ba_ (jq_againS (i := (k, line, v, out)) (k + 1, line, v, out) ⟨hsc, by dsimp only; omega, by dsimp only; omega, by dsimp only; omega, by dsimp only; omega⟩ (by dsimp only; omega) ?_ ?_))))))))))) (fun hx => absurd h32 hx)))
            · exact bc_ 0 r_ sub_end
            · (repeat (first | exact True.intro | refine ⟨rfl, ?_⟩))
          · refine an_ (o_ r_ (bn_ r_ r_ (E_ r_ (T_ (jc_condd rfl (fun h9 => ?_) (fun h9 => ?_))))))
            · rw [if_pos (Or.inr (show byteAt s k = 9 from h9))] at hsc
              refine R_ (M_ r_ (o_ r_ (bj_ r_ r_ g_ (E_ r_ (T_ (av_ (bb_ r_ (ax_ (ba_ (jq_againS (i := (k, line, v, out)) (k + 1, line, v, out) ⟨hsc, by dsimp only; omega, by dsimp only; omega, by dsimp only; omega, by dsimp only; omega⟩ (by dsimp only; omega) ?_ ?_))))))))))
              · exact bc_ 0 r_ sub_end
              · (repeat (first | exact True.intro | refine ⟨rfl, ?_⟩))
            · rw [if_neg (show ¬ (byteAt s k = 32 ∨ byteAt s k = 9) from fun hh => hh.elim h32 h9)] at hsc
              have hxs : (s.extract k s.size).size ≤ 1000000 := by omega
              refine jc_reset [(0, Str s), (2, S.cell (C.val (.slice none 0 0))), (5, .cell (.val v)), (6, .cell (.map (setE SG))), (7, In .i64 line), (8, In .i64 (k : Int))] [.own v 126 4 (out.map Tok.row)] ?_ ⟨[0], [], rfl⟩ ?_
              · (repeat (first | exact True.intro | refine ⟨rfl, ?_⟩))
              refine as_ (ay_ (al_ (R_ (M_ r_ (M_ r_ (o_ r_ (ow_substrLo r_ r_ r_ g_ g_ (M_ r_ (o_ r_ (bm_ r_ (next_c _ hxs) (M_ r_ (X_ r_ (X_ r_ (o_ r_ (bl_ r_ r_ (fun bl => S_ 0 r_ (E_ r_ (T_ ?_))))))))))))))))))
              refine am_ (R_ (M_ r_ (o_ r_ (bn_ r_ r_ (T_ (jc_condd rfl (fun h0 => ?_) (fun h0 => ?_)))))))
              · refine R_ (M_ r_ (E_ r_ (E_ r_ (E_ r_ (T_ (ar_ (aw_ (az_ (aw_ (az_ (aw_ ?_)))))))))))
                have h0' : (nextT (s.extract k s.size)).2 = 0 := by simpa only [Int.toNat_natCast, Int.natCast_eq_zero] using h0
                have e : scan s = ([], line, 1) := by rw [← hsc, dif_pos h0']
                exact jq_ownNil 126 4 g_ (jq_freeze 2 0 rfl rfl (by rw [hc]; simp [hb]) (jq_ret3 rfl rfl rfl rfl (fun K h => by rw [e] at h; exact h) sub_end))
              · have h0' : ¬ (nextT (s.extract k s.size)).2 = 0 := by simpa only [Int.toNat_natCast, Int.natCast_eq_zero] using h0
                rw [dif_neg h0'] at hsc
                have e1 : (nextT (s.extract (k : Int).toNat s.size)).2 = (nextT (s.extract k s.size)).2 := by rw [Int.toNat_natCast]
                refine as_ (al_ (R_ (M_ r_ (F_ r_ (W_ 0 r_ (T_ (R_ (M_ r_ (A_ 0 r_ (o_ r_ (bq_ r_ r_ b_ r_ r_ b_ ?_)))))))))))
                refine o_ r_ (ow_append1 1 ((⟨(nextT (s.extract k s.size)).1.1, (nextT (s.extract k s.size)).1.2.1, line, (nextT (s.extract k s.size)).1.2.2⟩ : Tok)) rfl rfl rfl rfl rfl rfl rfl (fun _ => rfl) (by show (_ + _) * 40 ≤ _; first | omega | (simp only [List.length_append]; omega)) (by first | omega | (simp only [List.length_append]; omega)) (fun v1 hv1 => E_ r_ (T_ (an_ (M_ r_ (M_ r_ (o_ r_ (bj_ r_ r_ g_ (E_ r_ ?_)))))))))
                refine ak_ (ay_ (jq_againS (i := (k, line, v, out)) (k + (nextT (s.extract k s.size)).2, line, v1, out ++ [(⟨(nextT (s.extract k s.size)).1.1, (nextT (s.extract k s.size)).1.2.1, line, (nextT (s.extract k s.size)).1.2.2⟩ : Tok)]) ⟨hsc, by dsimp only; omega, hl1, by dsimp only; omega, by dsimp only; rw [List.length_append, List.length_singleton]; omega⟩ (by dsimp only; omega) ?_ ?_))
                · exact bc_ 0 r_ sub_end
                · rw [show ((k + (nextT (s.extract k s.size)).2 : Nat) : Int) = (k : Int) + ((nextT (s.extract k s.size)).2 : Int) by omega]
                  (repeat (first | exact True.intro | refine ⟨rfl, ?_⟩))
      · refine av_ (ax_ (ax_ (ba_ (al_ (R_ (M_ r_ (E_ r_ (E_ r_ (E_ r_ (T_ (ar_ ?_)))))))))))
        have e : scan s = (out, 0, 0) := by rw [← hsc, scanGo, dif_neg (by omega)]
        exact jq_freeze 2 0 rfl rfl (by rw [hc]; simp [hb]) (jq_ret3 rfl rfl rfl rfl (fun K h => by rw [e] at h; exact h) sub_end)
end Go.Proofs.YtlniadfidfmckaaGreatDoor
end

section
namespace Go.Proofs.YtlniadfidfmckaaGreatDoor
open Go.Vc
attribute [local irreducible] JL JC JQ OpWp Con ConN

/-- Whether a text is a name. -/
def isName (s : ByteArray) : Bool := decide (0 < s.size) && decide (s.size ≤ 12) && decide (nameLen s = s.size)
theorem empty_iff (s : ByteArray) : s = ⟨#[]⟩ ↔ s.size = 0 := by
  constructor
  · rintro rfl; rfl
  · intro h; cases s; rename_i d; have : d = #[] := Array.eq_empty_of_size_eq_zero h; rw [this]
theorem Name_c (s : ByteArray) : Con Tryz.prog 73 [Str s] [] (fun K => K (Bl (isName s)) []) := by
  refine con_intro Tryz.func73 rfl rfl (Nat.le_of_ble_eq_true rfl) (fun c hc => ?_)
  by_cases h0 : s = ⟨#[]⟩
  · have e : isName s = false := by simp [isName, (empty_iff s).1 h0]
    have h0n : ¬ ¬ s = ⟨#[]⟩ := fun h => h h0
    refine R_ (E_ r_ (T_ (R_ (M_ r_ (o_ r_ (ct_ r_ r_ (M_ r_ (ai_ r_ w_ b_ (ai_ r_ w_ b_ (ai_ r_ w_ b_ (o_ r_ (bv_ r_ w_ r_ (M_ r_ (ai_ r_ r_ b_ (ai_ r_ r_ b_ (ai_ r_ r_ b_ (ai_ r_ r_ b_ ?_)))))))))))))))))
    refine ai_ r_ r_ b_ (o_ r_ (bv_ r_ r_ r_ (E_ r_ (T_ (ar_ (jq_ret1 rfl rfl [] rfl (fun K h => by rw [e] at h; exact h)))))))
  · have hp : 0 < s.size := by have := mt (empty_iff s).2 h0; omega
    by_cases h12 : (s.size : Int) ≤ 12
    · have e : isName s = decide ((nameLen s : Int) = (s.size : Int)) := by
        unfold isName
        rw [decide_eq_true hp, decide_eq_true (show s.size ≤ 12 by omega)]
        simp only [Bool.true_and, Int.ofNat_inj]
      refine R_ (E_ r_ (T_ (R_ (M_ r_ (o_ r_ (ct_ r_ r_ (M_ r_ (ah_ r_ u_ b_ (bd_ r_ (ah_ r_ u_ b_ (co_ r_ r_ (ah_ r_ u_ b_ (cu_ r_ r_ (o_ r_ (bp_ r_ u_ r_ (M_ r_ (ah_ r_ u_ b_ (bd_ r_ (ah_ r_ u_ b_ (bm_ r_ (name_c s g_) (ah_ r_ u_ b_ (bd_ r_ (ah_ r_ u_ b_ (co_ r_ r_ ?_))))))))))))))))))))))))
      refine ah_ r_ u_ b_ (bn_ r_ r_ (o_ r_ (bp_ r_ u_ r_ (E_ r_ (T_ (ar_ (jq_ret1 rfl rfl [] rfl (fun K h => by rw [e] at h; exact h))))))))
    · have e : isName s = false := by
        unfold isName
        rw [decide_eq_false (show ¬ s.size ≤ 12 by omega)]
        simp
      refine R_ (E_ r_ (T_ (R_ (M_ r_ (o_ r_ (ct_ r_ r_ (M_ r_ (ah_ r_ u_ b_ (bd_ r_ (ah_ r_ u_ b_ (co_ r_ r_ (ah_ r_ u_ b_ (cu_ r_ r_ (o_ r_ (bp_ r_ u_ r_ (M_ r_ (ai_ r_ w_ b_ (ai_ r_ w_ b_ (ai_ r_ w_ b_ (ai_ r_ w_ b_ ?_))))))))))))))))))))
      refine ai_ r_ w_ b_ (o_ r_ (bv_ r_ w_ r_ (E_ r_ (T_ (ar_ (jq_ret1 rfl rfl [] rfl (fun K h => by rw [e] at h; exact h)))))))

end Go.Proofs.YtlniadfidfmckaaGreatDoor
end

section
namespace Go.Proofs.YtlniadfidfmckaaGreatDoor
open Go.Vc
attribute [local irreducible] JL JC JQ OpWp Con ConN

/-- All signs, longer ones first. -/
def SL2 : List ByteArray := [⟨#[60, 60]⟩, ⟨#[62, 62]⟩, ⟨#[60, 61]⟩, ⟨#[61, 61]⟩, ⟨#[33, 61]⟩]
def SL1 : List ByteArray := [⟨#[43]⟩, ⟨#[45]⟩, ⟨#[42]⟩, ⟨#[47]⟩, ⟨#[37]⟩, ⟨#[38]⟩, ⟨#[124]⟩, ⟨#[94]⟩, ⟨#[60]⟩, ⟨#[61]⟩, ⟨#[40]⟩, ⟨#[41]⟩, ⟨#[91]⟩, ⟨#[93]⟩, ⟨#[123]⟩, ⟨#[125]⟩]
/-- Whether a text begins with another. -/
def begins (s t : ByteArray) : Bool := decide (t.size ≤ s.size) && decide (s.extract 0 t.size = t)
def rsign (s : ByteArray) : ByteArray := ((SL2 ++ SL1).find? (begins s)).getD ⟨#[]⟩
end Go.Proofs.YtlniadfidfmckaaGreatDoor
end

section
namespace Go.Proofs.YtlniadfidfmckaaGreatDoor
open Go.Vc
attribute [local irreducible] JL JC JQ OpWp Con ConN

theorem byteAt_getD (s : ByteArray) (n : Nat) : byteAt s n = (bytesI s).getD n 0 := by
  by_cases h : n < s.size
  · rw [← bytesI_get s n h, List.getD_eq_getElem?_getD, List.getElem?_eq_getElem (by simpa using h)]
    rfl
  · unfold byteAt
    rw [List.getD_eq_getElem?_getD, List.getD_eq_getElem?_getD, List.getElem?_eq_none (by simpa using h), List.getElem?_eq_none (by simpa using h)]
    rfl
theorem byteAt_extract (s : ByteArray) (a j : Nat) : byteAt (s.extract a s.size) j = byteAt s (a + j) := by
  rw [byteAt_getD, byteAt_getD, extract_bytes, List.take_of_length_le (by simp), List.getD_eq_getElem?_getD, List.getD_eq_getElem?_getD, List.getElem?_drop]
end Go.Proofs.YtlniadfidfmckaaGreatDoor
end

section
namespace Go.Proofs.YtlniadfidfmckaaGreatDoor
open Go.Vc
attribute [local irreducible] JL JC JQ OpWp Con ConN
attribute [local irreducible] nextT scan byteAt rsign runLen nameLen signLen numVal

end Go.Proofs.YtlniadfidfmckaaGreatDoor
end

section
namespace Go.Proofs.YtlniadfidfmckaaGreatDoor
open Go.Vc
attribute [local irreducible] JL JC JQ OpWp Con ConN
set_option maxHeartbeats 4000000

end Go.Proofs.YtlniadfidfmckaaGreatDoor
end

section
namespace Go.Proofs.YtlniadfidfmckaaGreatDoor
open Go.Vc
attribute [local irreducible] JL JC JQ OpWp Con ConN

end Go.Proofs.YtlniadfidfmckaaGreatDoor
end

section
namespace Go.Proofs.YtlniadfidfmckaaGreatDoor
open Go.Vc
attribute [local irreducible] JL JC JQ OpWp Con ConN
attribute [local irreducible] nextT scan byteAt rsign runLen signLen numVal isL isD

/-- The decimal digits of a number, as a text. -/
def decS (u : Nat) : ByteArray := ⟨(Lib.decDigits u).toArray⟩
theorem nDigits_le : ∀ (k u : Nat), 1 ≤ k → u < 10 ^ k → Lib.nDigits u ≤ k
  | 0, _, h, _ => by omega
  | k + 1, u, _, h => by
    by_cases hu : u < 10
    · rw [Lib.nDigits_small hu]; omega
    · rw [Lib.nDigits_big hu]
      have hk : 1 ≤ k := by
        rcases Nat.eq_zero_or_pos k with rfl | h'
        · omega
        · exact h'
      have := nDigits_le k (u / 10) hk (by rw [Nat.pow_succ] at h; omega)
      omega
theorem decS_size (u : Nat) : (decS u).size = Lib.nDigits u := by
  rw [← Lib.decDigits_length]
  simp [decS, ByteArray.size]
theorem decS_le (u : Nat) (h : u ≤ 2147483647) : (decS u).size ≤ 10 := by
  rw [decS_size]
  exact nDigits_le 10 u g_ g_
theorem decS_small (u : Nat) (h : u < 10) : decS u = bytesOf [48 + (u : Int)] := by
  unfold decS
  rw [Lib.decDigits, dif_pos h]
  show _ = ByteArray.empty.push (UInt8.ofNat (48 + (u : Int)).toNat)
  rw [show (48 + (u : Int)).toNat = 48 + u by omega]
  rfl
theorem decS_big (u : Nat) (h : ¬ u < 10) : decS u = decS (u / 10) ++ bytesOf [48 + (u : Int) % 10] := by
  unfold decS
  rw [Lib.decDigits, dif_neg h]
  show _ = _ ++ ByteArray.empty.push (UInt8.ofNat (48 + (u : Int) % 10).toNat)
  rw [show (48 + (u : Int) % 10).toNat = 48 + u % 10 by omega]
  apply ByteArray.ext
  simp
attribute [local irreducible] decS

end Go.Proofs.YtlniadfidfmckaaGreatDoor
end

section
namespace Go.Proofs.YtlniadfidfmckaaGreatDoor
open Go.Vc
theorem scanGo_tok2 {s : ByteArray} {k : Nat} {line : Int} {out : List Tok} {t : Int × Int × ByteArray} {n : Nat} (hk : k < s.size) (h1 : ¬ byteAt s k = 10) (h2 : ¬ (byteAt s k = 32 ∨ byteAt s k = 9)) (hn : nextT (s.extract k s.size) = (t, n)) (h0 : ¬ n = 0) :
    scanGo s k line out = scanGo s (k + n) line (out ++ [⟨t.1, t.2.1, line, t.2.2⟩]) := by
  rw [scanGo, dif_pos hk, if_neg h1, if_neg h2, hn, dif_neg h0]
end Go.Proofs.YtlniadfidfmckaaGreatDoor
end

section
namespace Go.Proofs.YtlniadfidfmckaaGreatDoor
open Go.Vc

def isW (n : Int) : Prop := n = 32 ∨ n = 9 ∨ n = 10
theorem isW_not {n : Int} (h : isW n) : isLD n = false ∧ isD n = false ∧ isL n = false := by
  rcases h with rfl | rfl | rfl <;> decide
theorem bytesI_app (s t : ByteArray) : bytesI (s ++ t) = bytesI s ++ bytesI t := by simp [bytesI]
theorem bytesI_full (s : ByteArray) (a : Nat) : bytesI (s.extract a s.size) = (bytesI s).drop a := by
  rw [extract_bytes, List.take_of_length_le (by rw [List.length_drop, bytesI_len]; omega)]
theorem ext_ext (s : ByteArray) (a n : Nat) : (s.extract a s.size).extract n (s.extract a s.size).size = s.extract (a + n) s.size := by
  apply bytesI_inj
  rw [bytesI_full, bytesI_full, bytesI_full, List.drop_drop]
theorem ext_app (x r : ByteArray) (n : Nat) (h : n ≤ x.size) : (x ++ r).extract n (x ++ r).size = x.extract n x.size ++ r := by
  apply bytesI_inj
  rw [bytesI_full, bytesI_app, bytesI_app, bytesI_full, List.drop_append_of_le_length (by rw [bytesI_len]; exact h)]
theorem ext_app_right (x r : ByteArray) : (x ++ r).extract x.size (x ++ r).size = r := by
  apply bytesI_inj
  rw [bytesI_full, bytesI_app, List.drop_append, List.drop_of_length_le (by rw [bytesI_len]; exact Nat.le_refl _), bytesI_len]
  simp
theorem byteAt_app (x r : ByteArray) (n : Nat) (h : n < x.size) : byteAt (x ++ r) n = byteAt x n := by
  rw [byteAt_getD, byteAt_getD, bytesI_app, List.getD_eq_getElem?_getD, List.getD_eq_getElem?_getD, List.getElem?_append_left (by rw [bytesI_len]; exact h)]
theorem pre_app (x r : ByteArray) (n : Nat) (h : n ≤ x.size) : (x ++ r).extract 0 n = x.extract 0 n := by
  apply bytesI_inj
  rw [extract_bytes, extract_bytes, bytesI_app, List.drop_zero, List.drop_zero, List.take_append_of_le_length (by rw [bytesI_len]; omega)]
theorem pre_all (x : ByteArray) : x.extract 0 x.size = x := by
  apply bytesI_inj
  rw [bytesI_full, List.drop_zero]
theorem takeWhile_app {α : Type} {p : α → Bool} : ∀ (l m : List α), (∀ a ∈ m.head?, p a = false) → ((l ++ m).takeWhile p).length = (l.takeWhile p).length
  | [], [], _ => rfl
  | [], a :: m, h => by simp [h a (by simp)]
  | a :: l, m, h => by
    have := takeWhile_app l m h
    rw [List.cons_append, List.takeWhile_cons, List.takeWhile_cons]
    split
    · simp [this]
    · rfl
/-- A text that is empty or begins with a blank. -/
def blankLed (r : ByteArray) : Prop := r.size = 0 ∨ isW (byteAt r 0)
theorem head_bytes {r : ByteArray} {n : Int} (h : n ∈ (bytesI r).head?) : 0 < r.size ∧ n = byteAt r 0 := by
  rw [byteAt_getD]
  cases hb : bytesI r with
  | nil => rw [hb] at h; simp at h
  | cons a l =>
    rw [hb] at h
    simp only [List.head?_cons, Option.mem_def, Option.some.injEq] at h
    refine ⟨by rw [← bytesI_len, hb]; simp, by simp [h]⟩
theorem runLen_app (p : Int → Bool) (hp : ∀ n, isW n → p n = false) (x r : ByteArray) (hr : blankLed r) : runLen p (x ++ r) = runLen p x := by
  unfold runLen
  rw [bytesI_app]
  refine takeWhile_app _ _ (fun n hn => ?_)
  obtain ⟨h0, rfl⟩ := head_bytes hn
  rcases hr with hr | hr
  · omega
  · exact hp _ hr
theorem SG_blank : ∀ t ∈ SG, (decide (t.size = 2) && (decide (byteAt t 1 = 32) || decide (byteAt t 1 = 9) || decide (byteAt t 1 = 10))) = false := by decide +kernel
theorem signLen_app (x r : ByteArray) (hx : 0 < x.size) (hr : blankLed r) : signLen (x ++ r) = signLen x := by
  have e1 : (1 ≤ x.size + r.size ∧ hasS SG ((x ++ r).extract 0 1) = true) ↔ (1 ≤ x.size ∧ hasS SG (x.extract 0 1) = true) := by
    rw [pre_app _ _ _ hx]
    exact ⟨fun h => ⟨hx, h.2⟩, fun h => ⟨by omega, h.2⟩⟩
  have e2 : (2 ≤ x.size + r.size ∧ hasS SG ((x ++ r).extract 0 2) = true) ↔ (2 ≤ x.size ∧ hasS SG (x.extract 0 2) = true) := by
    by_cases h2 : 2 ≤ x.size
    · rw [pre_app _ _ _ h2]
      exact ⟨fun h => ⟨h2, h.2⟩, fun h => ⟨by omega, h.2⟩⟩
    · have h1 : x.size = 1 := by omega
      refine ⟨?_, fun h => absurd h.1 h2⟩
      rintro ⟨ha, hb⟩
      exfalso
      have hm := SG_blank _ (hasS_iff.1 hb)
      have hsz : ((x ++ r).extract 0 2).size = 2 := by rw [extract_size _ _ _ (by rw [ByteArray.size_append]; omega)]
      have hby : byteAt ((x ++ r).extract 0 2) 1 = byteAt r 0 := by
        rw [byteAt_getD, extract_bytes, bytesI_app, List.drop_zero, byteAt_getD, List.getD_eq_getElem?_getD, List.getD_eq_getElem?_getD, List.getElem?_take_of_lt (by omega), List.getElem?_append_right (by rw [bytesI_len]; omega), bytesI_len, h1]
      rw [decide_eq_true hsz, hby] at hm
      rcases hr with hr | hr
      · omega
      · rcases hr with hr | hr | hr <;> rw [hr] at hm <;> simp at hm
  unfold signLen
  rw [ByteArray.size_append]
  simp only [e1, e2]
theorem nameLen_app (x r : ByteArray) (hx : 0 < x.size) (hr : blankLed r) : nameLen (x ++ r) = nameLen x := by
  unfold nameLen
  rw [ByteArray.size_append, byteAt_app _ _ _ hx, runLen_app isLD (fun n h => (isW_not h).1) _ _ hr]
  by_cases h : isL (byteAt x 0) = true
  · rw [if_pos ⟨by omega, h⟩, if_pos ⟨hx, h⟩]
  · rw [if_neg (fun hh => h hh.2), if_neg (fun hh => h hh.2)]
/-- What begins with a blank behind a text does not change its first token. -/
theorem next_blank (x r : ByteArray) (hx : 0 < x.size) (hr : blankLed r) : nextT (x ++ r) = nextT x := by
  unfold nextT
  rw [nameLen_app x r hx hr, runLen_app isD (fun n h => (isW_not h).2.1) x r hr, signLen_app x r hx hr, pre_app _ _ _ (nameLen_le x), pre_app _ _ _ (runLen_le _ x), pre_app _ _ _ (signLen_le x)]

inductive SC : ByteArray → Int → List Tok → Prop
  | nil {x : ByteArray} {line : Int} : x.size = 0 → SC x line []
  | nl {x : ByteArray} {line : Int} {l : List Tok} : 0 < x.size → byteAt x 0 = 10 → SC (x.extract 1 x.size) (line + 1) l → SC x line l
  | sp {x : ByteArray} {line : Int} {l : List Tok} : 0 < x.size → byteAt x 0 = 32 ∨ byteAt x 0 = 9 → SC (x.extract 1 x.size) line l → SC x line l
  | tok {x : ByteArray} {line : Int} {l : List Tok} {t : Int × Int × ByteArray} {n : Nat} : 0 < x.size → ¬ isW (byteAt x 0) → nextT x = (t, n) → n ≠ 0 → SC (x.extract n x.size) line l → SC x line (⟨t.1, t.2.1, line, t.2.2⟩ :: l)
theorem byte0 (s : ByteArray) (a : Nat) : byteAt (s.extract a s.size) 0 = byteAt s a := by rw [byteAt_extract, Nat.add_zero]
theorem size0 (s : ByteArray) (a : Nat) : (s.extract a s.size).size = s.size - a := extract_size _ _ _ (Nat.le_refl _)
theorem sc_to {x : ByteArray} {line : Int} {l : List Tok} (h : SC x line l) : ∀ (s : ByteArray) (a : Nat) (out : List Tok), a ≤ s.size → x = s.extract a s.size → scanGo s a line out = (out ++ l, 0, 0) := by
  induction h with
  | nil h0 =>
    intro s a out ha hx
    rw [hx, size0] at h0
    rw [scanGo, dif_neg (by omega), List.append_nil]
  | nl h0 hb _ ih =>
    intro s a out ha hx
    subst hx
    rw [size0] at h0
    rw [byte0] at hb
    rw [scanGo, dif_pos (by omega), if_pos hb]
    exact ih s (a + 1) out (by omega) (ext_ext s a 1)
  | sp h0 hb _ ih =>
    intro s a out ha hx
    subst hx
    rw [size0] at h0
    rw [byte0] at hb
    rw [scanGo, dif_pos (by omega), if_neg (by omega), if_pos hb]
    exact ih s (a + 1) out (by omega) (ext_ext s a 1)
  | tok h0 hb hn hne _ ih =>
    intro s a out ha hx
    subst hx
    have hle := nextT_le (s.extract a s.size)
    rw [hn] at hle
    rw [size0] at h0 hle
    rw [byte0] at hb
    unfold isW at hb
    rw [scanGo_tok2 (by omega) (by omega) (by omega) hn hne, ih s _ _ (by dsimp only at hle; omega) (ext_ext s a _), List.append_assoc]
    rfl
theorem scan_to {s : ByteArray} {l : List Tok} (hs : s.size ≤ 8192) (h : SC s 1 l) : scan s = (l, 0, 0) := by
  unfold scan
  rw [if_neg (by omega), sc_to h s 0 [] (Nat.zero_le _) (pre_all s).symm]
  rfl
end Go.Proofs.YtlniadfidfmckaaGreatDoor
end

section
namespace Go.Proofs.YtlniadfidfmckaaGreatDoor
open Go.Vc

theorem byte0_pre (x : ByteArray) (m : Nat) (h : 0 < m) : byteAt (x.extract 0 m) 0 = byteAt x 0 := by
  rw [byteAt_getD, byteAt_getD, extract_bytes, List.drop_zero, Nat.sub_zero, List.getD_eq_getElem?_getD, List.getD_eq_getElem?_getD, List.getElem?_take_of_lt h]
theorem runLen_zero {p : Int → Bool} {x : ByteArray} (hx : 0 < x.size) (h : p (byteAt x 0) = false) : runLen p x = 0 :=
  runLen_eq (fun j hj => by omega) (by omega) (fun _ => h)
theorem nameLen_zero {x : ByteArray} (h : isL (byteAt x 0) = false) : nameLen x = 0 := by
  unfold nameLen
  rw [if_neg (fun hh => by rw [h] at hh; cases hh.2)]
theorem isL_notW {n : Int} (h : isL n = true) : ¬ isW n := fun hw => by rw [(isW_not hw).2.2] at h; cases h
theorem isD_notW {n : Int} (h : isD n = true) : ¬ isW n := fun hw => by rw [(isW_not hw).2.1] at h; cases h
theorem isD_notL {n : Int} (h : isD n = true) : isL n = false := by
  unfold isD at h
  simp only [Bool.and_eq_true, decide_eq_true_eq] at h
  unfold isL
  rw [decide_eq_false (by omega)]
  rfl

theorem bytesOf_one (n : Int) (h : 0 ≤ n ∧ n ≤ 255) : bytesI (bytesOf [n]) = [n] := by
  show [((UInt8.ofNat n.toNat).toNat : Int)] = [n]
  rw [UInt8.toNat_ofNat', Nat.mod_eq_of_lt (by omega)]
  congr 1
  omega
theorem decS_all (u : Nat) : ∀ c ∈ bytesI (decS u), isD c = true := by
  induction u using Nat.strongRecOn with
  | _ u ih =>
    have hd : ∀ m : Int, 0 ≤ m ∧ m < 10 → isD (48 + m) = true := by
      intro m hm
      unfold isD
      rw [decide_eq_true (by omega), decide_eq_true (by omega)]
      rfl
    by_cases hu : u < 10
    · rw [decS_small u hu, bytesOf_one _ (by omega)]
      intro c hc
      rw [List.mem_singleton] at hc
      subst hc
      exact hd _ (by omega)
    · rw [decS_big u hu, bytesI_app, bytesOf_one _ (by omega)]
      intro c hc
      rcases List.mem_append.1 hc with hc | hc
      · exact ih (u / 10) (by omega) c hc
      · rw [List.mem_singleton] at hc
        subst hc
        exact hd _ (by omega)
theorem decS_num (u : Nat) (hu : u ≤ 2147483647) : numVal (bytesI (decS u)) = (u : Int) := by
  induction u using Nat.strongRecOn with
  | _ u ih =>
    by_cases h : u < 10
    · rw [decS_small u h, bytesOf_one _ (by omega)]
      show min (10 * 0 + (48 + (u : Int) - 48)) 2147483648 = (u : Int)
      omega
    · rw [decS_big u h, bytesI_app, bytesOf_one _ (by omega), numVal_snoc, ih (u / 10) (by omega) (by omega)]
      omega
theorem decS_pos (u : Nat) : 0 < (decS u).size := by
  rw [decS_size]
  exact Lib.nDigits_pos u

abbrev strip (t : Tok) : Int × Int × ByteArray := (t.kind, t.num, t.text)
def PX (x : ByteArray) (L : List (Int × Int × ByteArray)) : Prop := ∀ line, ∃ l, SC x line l ∧ l.map strip = L
theorem px_nil {x : ByteArray} (h : x.size = 0) : PX x [] := fun _ => ⟨[], .nil h, rfl⟩
/-- A text of blanks alone. -/
def blanks (b : ByteArray) : Prop := ∀ c ∈ bytesI b, isW c
theorem px_front : ∀ (m : Nat) (b x : ByteArray) (L : List (Int × Int × ByteArray)), b.size = m → blanks b → PX x L → PX (b ++ x) L
  | 0, b, x, L, hm, _, h => by
    have : b = ⟨#[]⟩ := (empty_iff b).2 hm
    rw [this, show (⟨#[]⟩ : ByteArray) ++ x = x from bytesI_inj (by rw [bytesI_app]; rfl)]
    exact h
  | m + 1, b, x, L, hm, hb, h => by
    have hb0 : isW (byteAt b 0) := by
      rw [← bytesI_get b 0 (by omega)]
      exact hb _ (List.getElem_mem _)
    have ih := px_front m (b.extract 1 b.size) x L (by rw [size0]; omega) (fun c hc => hb c (by rw [bytesI_full] at hc; exact List.mem_of_mem_drop hc)) h
    have e : (b ++ x).extract 1 (b ++ x).size = b.extract 1 b.size ++ x := ext_app b x 1 (by omega)
    intro line
    by_cases h10 : byteAt b 0 = 10
    · obtain ⟨l, hs, el⟩ := ih (line + 1)
      exact ⟨l, .nl (by rw [ByteArray.size_append]; omega) (by rw [byteAt_app _ _ _ (by omega)]; exact h10) (by rw [e]; exact hs), el⟩
    · obtain ⟨l, hs, el⟩ := ih line
      exact ⟨l, .sp (by rw [ByteArray.size_append]; omega) (by rw [byteAt_app _ _ _ (by omega)]; unfold isW at hb0; omega) (by rw [e]; exact hs), el⟩
theorem px_blank {b x : ByteArray} {L : List (Int × Int × ByteArray)} (hb : blanks b) (h : PX x L) : PX (b ++ x) L := px_front b.size b x L rfl hb h
end Go.Proofs.YtlniadfidfmckaaGreatDoor
end

section
namespace Go.Proofs.YtlniadfidfmckaaGreatDoor
open Go.Vc
attribute [local irreducible] JL JC JQ OpWp Con ConN
set_option maxHeartbeats 4000000

inductive T where
  | nu (n : Int)
  | nm (s : ByteArray)
  | ix (s : ByteArray) (t : T)
  | bn (o : Int) (a b : T)
def T.kind : T → Int
  | .nu _ => 1
  | .nm _ => 2
  | .ix _ _ => 3
  | .bn _ _ _ => 4
def T.num : T → Int
  | .nu n => n
  | _ => 0
def T.name : T → ByteArray
  | .nm s => s
  | .ix s _ => s
  | _ => ⟨#[]⟩
def T.op : T → Int
  | .bn o _ _ => o
  | _ => 0
def T.args : T → List T
  | .ix _ t => [t]
  | .bn _ a b => [a, b]
  | _ => []
def T.row : T → List C
  | .nu n => [.val (.int .i64 1), .val (.int .i64 n), .val (.string ⟨#[]⟩), .val (.int .i64 0), .list []]
  | .nm s => [.val (.int .i64 2), .val (.int .i64 0), .val (.string s), .val (.int .i64 0), .list []]
  | .ix s t => [.val (.int .i64 3), .val (.int .i64 0), .val (.string s), .val (.int .i64 0), .list [t.row]]
  | .bn o a b => [.val (.int .i64 4), .val (.int .i64 0), .val (.string ⟨#[]⟩), .val (.int .i64 o), .list [a.row, b.row]]
abbrev T.row' (t : T) : List C := [.val (.int .i64 t.kind), .val (.int .i64 t.num), .val (.string t.name), .val (.int .i64 t.op), .list (t.args.map T.row)]
theorem T.row_eq (t : T) : t.row = t.row' := by cases t <;> rfl
def T.dep : T → Nat
  | .nu _ => 1
  | .nm _ => 1
  | .ix _ t => t.dep + 1
  | .bn _ a b => max a.dep b.dep + 1
theorem T.dep_args (t : T) : t.dep = (t.args.map T.dep).foldl max 0 + 1 := by cases t <;> simp [T.dep, T.args]
/-- The greatest of the first depths, each at most one more than a limit. -/
def mx (f : T → Nat) (l : List T) : Nat := l.foldl (fun m t => max m (f t)) 0
theorem mx_snoc (f : T → Nat) (l : List T) (t : T) : mx f (l ++ [t]) = max (mx f l) (f t) := by simp [mx]
def dl : Nat → T → Nat
  | 0, _ => 1
  | L + 1, t => mx (dl L) t.args + 1
theorem dl_eq : ∀ (L : Nat) (t : T), dl L t = min t.dep (L + 1)
  | 0, t => by have : 1 ≤ t.dep := by rw [T.dep_args]; omega
               simp only [dl]; omega
  | L + 1, t => by
    have h := dl_eq L
    cases t <;> simp only [dl, T.args, mx, List.foldl_nil, List.foldl_cons, T.dep, h] <;> omega
theorem dl_le (L : Nat) (t : T) : dl L t ≤ L + 1 := by rw [dl_eq]; omega
theorem mx_le {f : T → Nat} {B : Nat} (h : ∀ t, f t ≤ B) : ∀ l : List T, mx f l ≤ B := by
  intro l
  unfold mx
  have : ∀ (l : List T) (m : Nat), m ≤ B → l.foldl (fun m t => max m (f t)) m ≤ B := by
    intro l
    induction l with
    | nil => intro m hm; exact hm
    | cons t l ih => intro m hm; exact ih _ (by have := h t; show max m (f t) ≤ B; omega)
  exact this l 0 (Nat.zero_le _)
theorem Depth_c : ∀ (L : Nat) (t : T), L ≤ 1000 → Con Tryz.prog 35 [.row t.row', In .i64 (L : Int)] [] (fun K => K (In .i64 (dl L t : Int)) []) := by
  intro L
  induction L with
  | zero =>
    intro t _
    refine con_intro Tryz.func35 rfl rfl (Nat.le_of_ble_eq_true rfl) (fun c hc => R_ (o_ r_ (ci_ r_ (fun bx => E_ r_ (T_ (R_ (E_ r_ (T_ (am_ (R_ (M_ r_ (o_ r_ (bz_ r_ r_ (T_ (jc_condd rfl (fun h => by omega) (fun _ => as_ (al_ ?_)))))))))))))))))
    refine R_ (M_ r_ (o_ r_ (bj_ r_ r_ g_ (E_ r_ (T_ (ar_ (jq_ret1 rfl rfl [] rfl (fun K h => h))))))))
  | succ L ih =>
    intro t hL
    have eA : (t.args.map T.row).length = t.args.length := List.length_map _
    refine con_intro Tryz.func35 rfl rfl (Nat.le_of_ble_eq_true rfl) (fun c hc => R_ (o_ r_ (ci_ r_ (fun bx => E_ r_ (T_ (R_ (E_ r_ (T_ (am_ (R_ (M_ r_ (o_ r_ (bz_ r_ r_ (T_ (jc_condd rfl (fun _ => R_ (F_ r_ ?_)) (fun h => by omega))))))))))))))))
    refine L_ 0 r_ (o_ r_ (br_ r_ (fun hlen => M_ r_ (T_ (au_ (jc_loopS (ι := Nat) [] (fun k => k ≤ t.args.length) (fun k => [(1, In .i64 ((L + 1 : Nat) : Int)), (5, In .i64 (mx (dl L) (t.args.take k) : Int)), (11, .cell (.list (t.args.map T.row))), (12, In .i64 ((t.args.map T.row).length : Int)), (13, In .i64 (k : Int))]) (fun _ => []) (fun k => t.args.length - k) 0 (Nat.zero_le _) ?_ ?_ ?_))))))
    · exact sub_end
    · (repeat (first | exact True.intro | refine ⟨rfl, ?_⟩))
    · intro k hk
      refine jc_reset [(1, In .i64 ((L + 1 : Nat) : Int)), (5, In .i64 (mx (dl L) (t.args.take k) : Int)), (11, .cell (.list (t.args.map T.row))), (12, In .i64 ((t.args.map T.row).length : Int)), (13, In .i64 (k : Int))] [] ?_ ⟨[], [], rfl⟩ ?_
      · (repeat (first | exact True.intro | refine ⟨rfl, ?_⟩))
      refine R_ (o_ r_ (bw_ r_ r_ (T_ (am_ (jc_condd rfl (fun hlt => ?_) (fun hge => ?_))))))
      · have hlt' : k < t.args.length := by omega
        have hI : Con Tryz.prog 35 [.row (t.args[k]).row', In .i64 (((L + 1 : Nat) : Int) - 1)] [] (fun K => K (In .i64 (dl L t.args[k] : Int)) []) := by
          rw [show (((L + 1 : Nat) : Int) - 1) = (L : Int) by omega]
          exact ih _ g_
        refine as_ (al_ (B_ (R_ (o_ r_ (cc_ r_ r_ g_ (T.row_eq _) r_ b_ (o_ r_ (cr_ r_ r_ r_ (o_ r_ (bl_ r_ r_ (fun bl => S_ 0 r_ (T_ (an_ (M_ r_ (A_ 0 r_ (M_ r_ (o_ r_ (cg_ r_ r_ g_ (o_ r_ (bm_ r_ (hI) (o_ r_ (ck_ r_ r_ ?_)))))))))))))))))))))
        refine E_ r_ (ak_ (ay_ (al_ (an_ (o_ r_ (bj_ r_ r_ g_ (M_ r_ (ak_ (jq_againS (k + 1) g_ g_ ?_ ?_)))))))))
        · exact sub_end
        · rw [List.take_succ_eq_append_getElem hlt', mx_snoc, show ((max (mx (dl L) (t.args.take k)) (dl L t.args[k]) : Nat) : Int) = max (mx (dl L) (t.args.take k) : Int) (dl L t.args[k] : Int) by omega]
          (repeat (first | exact True.intro | refine ⟨rfl, ?_⟩))
      · obtain rfl : k = t.args.length := by omega
        have hm := mx_le (dl_le L) t.args
        rw [List.take_length]
        refine av_ (ax_ (ax_ (ba_ (al_ (R_ (M_ r_ (o_ r_ (bj_ r_ r_ g_ (E_ r_ (T_ (ar_ (jq_ret1 rfl rfl [] rfl (fun K h => h)))))))))))))

/-- The reference's: from a depth on, 21 where it is deeper than 20. -/
def rd : Nat → T → Nat
  | 0, _ => 21
  | F + 1, t => max (20 - F) (mx (rd F) t.args)
end Go.Proofs.YtlniadfidfmckaaGreatDoor
end

section
namespace Go.Proofs.YtlniadfidfmckaaGreatDoor
open Go.Vc
attribute [local irreducible] JL JC JQ OpWp Con ConN
set_option maxHeartbeats 4000000

def hasW (s : ByteArray) : Bool := words.any (fun w => decide (w = s))
def idxW (L : List ByteArray) (s : ByteArray) : Int := match L.findIdx? (fun w => decide (w = s)) with | some i => (i : Int) | none => -1
theorem Index_c (L : List ByteArray) (s : ByteArray) : Con Tryz.prog 127 [.cell (.list (L.map Wrow)), Str s] [] (fun K => K (In .i64 (idxW L s)) []) := by
  have eL : (L.map Wrow).length = L.length := List.length_map _
  refine con_intro Tryz.func127 rfl rfl (Nat.le_of_ble_eq_true rfl) (fun c hc => R_ (E_ r_ (T_ (am_ (R_ (M_ r_ (o_ r_ (br_ r_ (fun hlen => M_ r_ (T_ (au_ ?_)))))))))))
  refine jc_loopS [] (fun k : Nat => k ≤ L.length ∧ ∀ j (hj : j < L.length), j < k → decide (L[j] = s) = false) (fun k => [(0, .cell (.list (L.map Wrow))), (1, Str s), (7, In .i64 ((L.map Wrow).length : Int)), (8, In .i64 (k : Int))]) (fun _ => []) (fun k => L.length - k) 0 ⟨Nat.zero_le _, fun j _ h => by omega⟩ ?_ ?_ ?_
  · exact sub_end
  · (repeat (first | exact True.intro | refine ⟨rfl, ?_⟩))
  · rintro k ⟨hk, hno⟩
    refine jc_reset [(0, .cell (.list (L.map Wrow))), (1, Str s), (7, In .i64 ((L.map Wrow).length : Int)), (8, In .i64 (k : Int))] [] ?_ ⟨[], [], rfl⟩ ?_
    · (repeat (first | exact True.intro | refine ⟨rfl, ?_⟩))
    refine R_ (o_ r_ (bw_ r_ r_ (T_ (am_ (jc_condd rfl (fun hlt => ?_) (fun hge => ?_))))))
    · have hlt' : k < L.length := by omega
      refine as_ (al_ (B_ (R_ (M_ r_ (E_ r_ (T_ (R_ (M_ r_ (M_ r_ (M_ r_ (o_ r_ (cc_ r_ r_ g_ r_ r_ b_ (o_ r_ (cb_ r_ r_ (o_ r_ (cs_ r_ r_ (T_ (jc_condd rfl (fun hb => ?_) (fun hb => ?_)))))))))))))))))))
      · have e : idxW L s = (k : Int) := by
          unfold idxW
          rw [List.findIdx?_eq_some_iff_getElem.2 ⟨hlt', decide_eq_true hb.symm, fun j hj => by rw [hno j (by omega) hj]; simp⟩]
        refine R_ (M_ r_ (E_ r_ (T_ (ar_ (az_ (aw_ (aw_ (az_ (aw_ (jq_ret1 rfl rfl [] rfl (fun K h => by rw [e] at h; exact h)))))))))))
      · refine as_ (ay_ (al_ (an_ (o_ r_ (bj_ r_ r_ g_ (M_ r_ (ak_ (jq_againS (k + 1) ⟨by omega, fun j hj hjk => ?_⟩ g_ ?_ ?_))))))))
        · by_cases e : j < k
          · exact hno j hj e
          · obtain rfl : j = k := by omega
            exact decide_eq_false (fun e => hb e.symm)
        · exact sub_end
        · (repeat (first | exact True.intro | refine ⟨rfl, ?_⟩))
    · have e : idxW L s = -1 := by
        unfold idxW
        rw [List.findIdx?_eq_none_iff.2 (fun x hx => by
          obtain ⟨j, hj, rfl⟩ := List.mem_iff_getElem.1 hx
          exact hno j hj (by omega))]
      refine av_ (ax_ (ax_ (ba_ (al_ (R_ (E_ r_ (T_ (ar_ (jq_ret1 rfl rfl [] rfl (fun K h => by rw [e] at h; exact h))))))))))
theorem idxW_any (L : List ByteArray) (s : ByteArray) : decide (0 ≤ idxW L s) = L.any (fun w => decide (w = s)) := by
  unfold idxW
  cases h : L.findIdx? (fun w => decide (w = s)) with
  | none =>
    have := List.findIdx?_eq_none_iff.1 h
    rw [List.any_eq_false.2 (fun x hx => by rw [this x hx]; decide)]
    rfl
  | some i =>
    obtain ⟨hi, hp, _⟩ := List.findIdx?_eq_some_iff_getElem.1 h
    rw [List.any_eq_true.2 ⟨L[i], List.getElem_mem hi, hp⟩]
    show decide (0 ≤ (i : Int)) = true
    exact decide_eq_true g_
theorem Contains_c (L : List ByteArray) (s : ByteArray) : Con Tryz.prog 103 [.cell (.list (L.map Wrow)), Str s] [] (fun K => K (Bl (L.any (fun w => decide (w = s)))) []) := by
  refine con_intro Tryz.func103 rfl rfl (Nat.le_of_ble_eq_true rfl) (fun c hc => R_ (E_ r_ (T_ (R_ (M_ r_ (M_ r_ (o_ r_ (bm_ r_ (Index_c L s) (o_ r_ (cn_ r_ r_ (E_ r_ (T_ (ar_ (jq_ret1 rfl rfl [] rfl (fun K h => by rw [← idxW_any] at h; exact h)))))))))))))))
theorem Keyword_c (s : ByteArray) : Con Tryz.prog 74 [Str s] [] (fun K => K (Bl (hasW s)) []) := by
  refine con_intro Tryz.func74 rfl rfl (Nat.le_of_ble_eq_true rfl) (fun c hc => R_ (E_ r_ (T_ (R_ (o_ r_ (dd_ gl_words r_ r_ r_ (M_ r_ (o_ r_ (bm_ r_ (Contains_c words s) (E_ r_ (T_ (ar_ (jq_ret1 rfl rfl [] rfl (fun K h => h))))))))))))))
def signT (op : Int) : ByteArray := signL.getD (op.toNat - 1) ⟨#[]⟩
theorem op14 {op : Int} (h : 1 ≤ op ∧ op ≤ 14) : op = 1 ∨ op = 2 ∨ op = 3 ∨ op = 4 ∨ op = 5 ∨ op = 6 ∨ op = 7 ∨ op = 8 ∨ op = 9 ∨ op = 10 ∨ op = 11 ∨ op = 12 ∨ op = 13 ∨ op = 14 := by omega
theorem Sign_c (op : Int) (h : 1 ≤ op ∧ op ≤ 14) : Con Tryz.prog 69 [In .i64 op] [] (fun K => K (Str (signT op)) []) := by
  refine con_intro Tryz.func69 rfl rfl (Nat.le_of_ble_eq_true rfl) (fun c hc => ?_)
  have h0 : ¬ op < 1 := by omega
  refine R_ (E_ r_ (T_ (am_ (R_ (M_ r_ (o_ r_ (bw_ r_ r_ (M_ r_ (ah_ r_ w_ b_ (bd_ r_ (ah_ r_ w_ b_ (bz_ r_ r_ (o_ r_ (bv_ r_ w_ r_ (T_ (jc_condd rfl (fun h2 => by omega) (fun _ => as_ (al_ (R_ ?_)))))))))))))))))))
  refine M_ r_ (o_ r_ (cg_ r_ r_ g_ (o_ r_ (de_ (n := 14) (e := 9) r_ r_ r_ g_ g_ (o_ r_ (dd_ (e := .val (.string (signT op))) gl_signs rfl rfl (by rcases op14 h with rfl | rfl | rfl | rfl | rfl | rfl | rfl | rfl | rfl | rfl | rfl | rfl | rfl | rfl <;> rfl) (E_ r_ (T_ (ar_ (jq_ret1 rfl rfl [] rfl (fun K h => h)))))))))))
end Go.Proofs.YtlniadfidfmckaaGreatDoor
end
