import Derived.Test.YtlniadfidfmckaaGreatDoorMp1
import Derived.Lib.SliceRun
import Derived.Laws.OwnMore
import Derived.Laws.StructEq
import Derived.OrdersHeld
import Derived.Test.YtlniadfidfmckaaGreatDoorProg
import Derived.Lib.LaidTab
import Derived.Lib.ItoaNum
import Derived.KernelRfl
import Derived.Recover
section
namespace Go.Vc

section
variable {α : Type} (key : α → Int)
end
end Go.Vc
end

section
namespace Go.Vc
open Go.RowKit

theorem rdRows_zeros {w : World} {A : Nat → Prop} {z : Array Value} {k : Nat} (hk : z.size = k) (h1 : ∀ v ∈ z.toList, v.oneCell' = true) : ∀ n : Nat, RdRows w A k (List.replicate n (z.toList.map C.val)) ((List.range (n * k)).map fun i => z[i % z.size]!)
  | 0 => by simp [RdRows]
  | n + 1 => by
    have ih := rdRows_zeros (w := w) (A := A) hk h1 n
    rw [show (n + 1) * k = k + n * k by rw [Nat.add_mul]; omega, List.range_add, List.map_append]
    refine ⟨_, _, rfl, by simp, ?_, ?_⟩
    · have e : (List.range k).map (fun i => z[i % z.size]!) = z.toList := by
        apply List.ext_getElem?
        intro j
        by_cases hj : j < k
        · have hj' : j < z.size := by omega
          rw [List.getElem?_map, List.getElem?_range hj]
          simp [Nat.mod_eq_of_lt hj', hj']
        · rw [List.getElem?_eq_none (by simp; omega), List.getElem?_eq_none (by simp; omega)]
      rw [e]
      exact rdRow_zero _ h1
    · rw [List.map_map]
      have e : ((fun i => z[i % z.size]!) ∘ fun x => k + x) = fun i => z[i % z.size]! := by
        funext i
        simp only [Function.comp]
        rw [← hk, Nat.add_mod_left]
      rw [e]
      exact ih

section
variable {P : Program} [Gl P] {nt : Nat} {c : Cx P nt} {env : Env} {H : List Ch} {K : S → List Ch → Prop}
variable {d : Option Tmp} {ty t t' : TypeId} {pos : String} {af : Array Edge} {g : Option (Nat × Bool)} {x y : Operand}

end
end Go.Vc
end

section
namespace Go.Vc
open Go.RowKit

section
variable {P : Program} [Gl P] {nt : Nat} {c : Cx P nt} {env : Env} {H : List Ch} {K : S → List Ch → Prop}
variable {d : Option Tmp} {ty t t' : TypeId} {pos : String} {af : Array Edge} {g : Option (Nat × Bool)} {x y : Operand}

end
end Go.Vc
end

section
namespace Go.Vc
open Go.RowKit

def Keep (L : List (Nat × List Value × TypeId)) (w : World) : Prop := ∀ p ∈ L, w.heap[p.1]? = some (.cells p.2.1.toArray p.2.2 (0, 0))
theorem rdRow_vals {w : World} {A : Nat → Prop} : ∀ {vs cs : List Value}, RdRow w A (vs.map C.val) cs → cs = vs
  | [], _, h => h
  | v :: vs, _, h => by
    obtain ⟨x, r, rfl, g1, g2⟩ := h
    rw [g1.1, rdRow_vals g2]
section
variable {P : Program} [Gl P] {nt : Nat} {c : Cx P nt} {env : Env} {H Hr : List Ch} {ops : Array Oper} {Q : Exit → Act → World → Prop} {Sw : World → Prop} {L : List (Nat × List Value × TypeId)}
variable {fuel : Nat} {listed : Array Bool} {d ty t t' : TypeId} {pos : String} {af : Array Edge} {x y : Operand}

def HOk (c : Cx P nt) (Sw : World → Prop) (env : Env) (H : List Ch) (o : Oper) (s : S) : Prop :=
  ∀ a w, St c env H a w → Sw w → ∃ v, (∀ w', Sw w' → (execOp a.eval o).run P w' = .ok (.value v) w') ∧ SOk w (c.av H) s v

/-- What stands in H still stands. -/
theorem keep_of (h : ∀ p ∈ L, Ch.blk p.1 p.2.2 (p.2.1.map C.val) ∈ H) : ∀ w, StW c H w → Keep L w := by
  intro w hw p hp
  obtain ⟨cs, g1, g2⟩ := hw.ok _ (h p hp)
  rw [rdRow_vals g2] at g1
  exact g1
theorem hok_move {d : Option Tmp} {s : S} (hx : env.ev x = some s) : HOk c Sw env H ⟨d, .move x, ty, pos, af, none⟩ s :=
  fun a _ hst _ => ⟨a.eval x, fun _ _ => rfl, ev_ok hst hx⟩
theorem hok_add {d : Option Tmp} {m n : Int} (hx : env.ev x = some (In .i64 m)) (hy : env.ev y = some (In .i64 n)) (hb : -9223372036854775808 ≤ m + n ∧ m + n ≤ 9223372036854775807) : HOk c Sw env H ⟨d, .binOp .add t x y t', ty, pos, af, none⟩ (In .i64 (m + n)) :=
  fun _ _ hst _ => ⟨.int .i64 (m + n), fun _ _ => by simp [execOp, ev_val hst hx, ev_val hst hy, eqGuard, binOp, Op.intArith, IntWalk.i64_in _ hb], rfl, rfl⟩
theorem hok_fieldAddr {d : Option Tmp} {b o f off size : Nat} [TI P t] [TS P t] (hs : structB (TI.u P t) = true) (hx : env.ev x = some (.cell (.val (.pointer (some ⟨b, o, none⟩))))) (hf : (TS.pl P t)[f]? = some (off, size)) (hz : 0 < size) :
    HOk c Sw env H ⟨d, .fieldAddr t x f, ty, pos, af, none⟩ (.cell (.val (.pointer (some ⟨b, o + off, none⟩)))) :=
  fun _ _ hst _ => ⟨.pointer (some ⟨b, o + off, none⟩), fun _ _ => by simp only [execOp, ev_val hst hx, Sem.run_bind, run_fieldAt t hs hf hz, Result.andThen_ok, Sem.run_pure], rfl, rfl⟩
theorem blk_keep {a : Act} {w : World} {b : Nat} {bt : TypeId} {row : List C} {cs : List Value} {is : List Nat} (hst : St c env H a w) (hp : pick is H = some ([.blk b bt row], Hr)) (hS : Keep L w) (hm : (b, cs, bt) ∈ L) : RdRow w (c.av H) row cs := by
  obtain ⟨cs', g1, g2⟩ := blk_ok hst hp
  have g3 := hS _ hm
  dsimp only at g3
  rw [g1] at g3
  obtain rfl : cs' = cs := by simpa using g3
  exact g2
theorem hok_load {d : Option Tmp} {b o : Nat} {row : List C} {e : C} {bt : TypeId} {cs : List Value} [TI P t] (j : Nat) (ha : aggB (TI.u P t) = false) (hx : env.ev x = some (.cell (.val (.pointer (some ⟨b, o, none⟩))))) (hp : pick [j] H = some ([.blk b bt row], Hr))
    (hm : (b, cs, bt) ∈ L) (he : row[o]? = some e) : HOk c (Keep L) env H ⟨d, .load t x, ty, pos, af, none⟩ (.cell e) :=
  fun _ _ hst hS => by
    obtain ⟨v, hv, hrd⟩ := rdRow_get (blk_keep hst hp hS hm) he
    refine ⟨v, fun w' hS' => ?_, hrd⟩
    have hh := hS' _ hm
    simp only [execOp, ev_val hst hx, Instr.loadAt, Instr.sureAddr, Sem.run_bind, Sem.run_pure, Result.andThen_ok, run_loadVar1 t ha (show w'.cell? ⟨b, o, none⟩ = some v by simp [World.cell?, hh, hv])]
end
end Go.Vc
end

section
namespace Go.Vc
open Go.RowKit

section
variable {P : Program} [Gl P] {nt : Nat} {c : Cx P nt} {env : Env} {H : List Ch}
theorem st_chg {a : Act} {w : World} {j : Nat} {ch ch' : Ch} {Hr : List Ch} (h : St c env H a w) (hp : pick [j] H = some ([ch], Hr)) (hb' : ch'.bs = ch.bs) (hnew : Ch.ok w (c.av H) ch') : St c env (ch' :: Hr) a w := by
  have h1 := h.perm (pick_perm hp)
  have hav : c.av (ch :: Hr) = c.av H := av_perm c (pick_perm hp)
  have hbb : hb (ch' :: Hr) = hb (ch :: Hr) := by simp only [hb, List.flatMap_cons, hb']
  have hav' : c.av (ch' :: Hr) = c.av H := by rw [← hav]; funext b; unfold Cx.av; rw [hbb]
  refine ⟨h.size, h.defers, fun i s hi => by rw [hav']; exact h.slots i s hi, h.heap.os, h.heap.tape, h.heap.output, h.heap.size, h.heap.block, ?_, by rw [hbb]; exact h1.heap.nodup, by rw [hbb]; exact h1.heap.mine, by rw [hav']; exact h.heap.gl⟩
  intro ch2 hch
  rw [hav']
  rcases List.mem_cons.1 hch with rfl | hch
  · exact hnew
  · rw [← hav]
    exact h1.heap.ok ch2 (List.mem_cons_of_mem _ hch)
end
end Go.Vc
end

section
namespace Go.Vc
open Go.RowKit

section
variable {P : Program} [Gl P] {nt : Nat} {c : Cx P nt} {env : Env} {H : List Ch} {K : S → List Ch → Prop}
variable {d : Option Tmp} {ty t t' : TypeId} {pos : String} {af : Array Edge} {g : Option (Nat × Bool)} {x y : Operand}
/-- An element of an array, by its address. -/
theorem ow_indexArr {b o n : Nat} {e : TypeId} {m : Int} [TI P t] [TI P e] (hu : TI.u P t = .array n e) (hx : env.ev x = some (.cell (.val (.pointer (some ⟨b, o, none⟩))))) (hy : env.ev y = some (In .i64 m)) (h0 : 0 ≤ m) (hlt : m < (n : Int))
    (hK : K (.cell (.val (.pointer (some ⟨b, o + m.toNat * (TI.i P e).size, none⟩)))) H) : OpWp c ⟨d, .indexAddr t x y, ty, pos, af, g⟩ env H K :=
  ow_valx rfl (fun a w h => by
    have hu' : (underlying t).run P w = .ok (.array n e) w := by rw [run_underlying (TI.hu (P := P) (t := t)), hu]
    simp [execOp, ev_val h hx, ev_val h hy, Instr.indexAt, asIntOf, hu', Instr.sureAddr, h0, hlt, run_sizeOf, add_at]) hK
theorem rdRows_flat {w : World} {A : Nat → Prop} {k : Nat} : ∀ {rows : List (List C)} {vs : List Value}, RdRows w A k rows vs → RdRow w A rows.flatten vs
  | [], _, h => h
  | _ :: _, _, ⟨x, r, e, _, g1, g2⟩ => by subst e; exact rdRow_append g1 (rdRows_flat g2)
/-- An array that is written out, all its elements in order. -/
theorem ow_buildArr {n : Nat} {e : TypeId} [TI P t] [TI P e] (hu : TI.u P t = .array n e) {z : Value} (hz : (TI.i P t).zero = some z) {ps : Array (Nat × Operand)} {ss : List (Nat × S)} (hp : env.parts ps.toList = some ss) {rows : List (List C)}
    (hs : sliceRows (TI.i P e).size 0 ss = some rows) (hl : z.cells.toList.length = rows.length * (TI.i P e).size) (hK : K (.row rows.flatten) H) : OpWp c ⟨d, .build t ps, ty, pos, af, g⟩ env H K :=
  ow_val (s := .row rows.flatten) (fun a w h => by
    obtain ⟨cs, g1, g2⟩ := fill_rows (pre := []) (post := z.cells.toList) (parts_ok h hp) hs (by simp) hl
    refine ⟨.agg cs.toArray, ?_, cs.toArray, rfl, by simpa using rdRows_flat g2⟩
    simp only [List.nil_append, Array.toArray_toList] at g1
    have hu' : (underlying t).run P w = .ok (.array n e) w := by rw [run_underlying (TI.hu (P := P) (t := t)), hu]
    simp only [execOp, Instr.build, Sem.run_bind, run_zeroValue t hz, hu', run_sizeOf, Result.andThen_ok, Array.toList_map, g1, Sem.run_pure]) hK
/-- A package variable that reads so. -/
def GV (w : World) (A : Nat → Prop) (b : Nat) (row : List C) : Prop := ¬ A b ∧ ∃ cs t f, w.heap[b]? = some (.cells cs t f) ∧ RdRow w A row cs.toList
theorem GV.up {w w' : World} {A A' : Nat → Prop} {b : Nat} {row : List C} (hu : Up A w w') (hA : ∀ b, A' b → A b ∨ w.heap.size ≤ b) (h : GV w A b row) : GV w' A' b row := by
  obtain ⟨h1, cs, t, f, h2, h3⟩ := h
  have hlt : b < w.heap.size := (Array.getElem?_eq_some_iff.1 h2).1
  exact ⟨fun h => (hA b h).elim h1 (by omega), cs, t, f, by rw [hu.block b hlt h1]; exact h2, rdRow_up hu hA _ _ h3⟩
theorem ow_loadG [TI P t] {b o : Nat} {row : List C} {e : C} (hg : ∀ w A, Gl.ok P w A → GV w A b row) (ha : aggB (TI.u P t) = false) (hx : env.ev x = some (.cell (.val (.pointer (some ⟨b, o, none⟩))))) (he : row[o]? = some e) (hK : K (.cell e) H) : OpWp c ⟨d, .load t x, ty, pos, af, g⟩ env H K :=
  ow_val (fun a w h => by
    obtain ⟨_, cs, bt, f, hh, hr⟩ := hg _ _ h.heap.gl
    obtain ⟨v, hv, hrd⟩ := rdRow_get hr he
    refine ⟨v, ?_, hrd⟩
    simp only [execOp, ev_val h hx, Instr.loadAt, Instr.sureAddr, Sem.run_bind, Sem.run_pure, Result.andThen_ok, run_loadVar1 t ha (show w.cell? ⟨b, o, none⟩ = some v by simp [World.cell?, hh]; simpa using hv)]) hK
end
end Go.Vc
end

section
namespace Go.Proofs.YtlniadfidfmckaaGreatDoor
open Go.Vc

def words : List ByteArray := [⟨#[114, 101, 115, 111, 117, 114, 99, 101]⟩, ⟨#[115, 104, 97, 114, 101, 100]⟩, ⟨#[116, 97, 115, 107]⟩, ⟨#[112, 101, 114, 105, 111, 100]⟩, ⟨#[100, 101, 97, 100, 108, 105, 110, 101]⟩, ⟨#[112, 114, 105, 111, 114, 105, 116, 121]⟩, ⟨#[106, 105, 116, 116, 101, 114]⟩, ⟨#[105, 110, 112, 117, 116]⟩, ⟨#[118, 97, 114]⟩, ⟨#[97, 114, 114, 97, 121]⟩, ⟨#[109, 111, 100, 101]⟩, ⟨#[110, 101, 118, 101, 114]⟩, ⟨#[98, 111, 100, 121]⟩, ⟨#[101, 110, 100]⟩, ⟨#[105, 102]⟩, ⟨#[108, 97, 98, 101, 108]⟩, ⟨#[101, 108, 115, 101]⟩, ⟨#[119, 104, 105, 108, 101]⟩, ⟨#[109, 97, 120]⟩, ⟨#[108, 111, 99, 107]⟩]
def signL : List ByteArray := [⟨#[43]⟩, ⟨#[45]⟩, ⟨#[42]⟩, ⟨#[47]⟩, ⟨#[37]⟩, ⟨#[38]⟩, ⟨#[124]⟩, ⟨#[94]⟩, ⟨#[60, 60]⟩, ⟨#[62, 62]⟩, ⟨#[60]⟩, ⟨#[60, 61]⟩, ⟨#[61, 61]⟩, ⟨#[33, 61]⟩]
abbrev Wrow (s : ByteArray) : List C := [.val (.string s)]
def pow10Ok (w : World) (A : Nat → Prop) : Prop := ∃ g, Tryz.prog.globalNamed "internal/strconv.uint64pow10" = some g ∧ ¬ A g ∧ Lib.TabIs Tryz.prog w "internal/strconv.uint64pow10" .u64 Lib.pow10Tab
theorem pow10_up {w w' : World} {A A' : Nat → Prop} (hu : Up A w w') (hA : ∀ b, A' b → A b ∨ w.heap.size ≤ b) (h : pow10Ok w A) : pow10Ok w' A' := by
  obtain ⟨g, h1, h2, h3⟩ := h
  have hlt : g < w.heap.size := by
    rcases Nat.lt_or_ge g w.heap.size with h | h
    · exact h
    · unfold Lib.TabIs World.var? at h3
      rw [h1] at h3
      simp only [Option.bind_some, Array.getElem?_eq_none h] at h3
      cases h3
  refine ⟨g, h1, fun h => (hA g h).elim h2 (by omega), ?_⟩
  unfold Lib.TabIs World.var? at h3 ⊢
  rw [h1] at h3 ⊢
  simp only [Option.bind_some] at h3 ⊢
  rw [hu.block g hlt h2]
  exact h3
instance gl : Gl Tryz.prog where
  ok w A := pow10Ok w A ∧ GV w A 1 [.list (words.map Wrow)] ∧ GV w A 0 (signL.map (fun s => .val (.string s)))
  up := fun hu hA ⟨h1, h2, h3⟩ => ⟨pow10_up hu hA h1, h2.up hu hA, h3.up hu hA⟩
theorem gl_words (w : World) (A : Nat → Prop) (h : Gl.ok Tryz.prog w A) : GV w A 1 [.list (words.map Wrow)] := h.2.1
theorem gl_signs (w : World) (A : Nat → Prop) (h : Gl.ok Tryz.prog w A) : GV w A 0 (signL.map (fun s => .val (.string s))) := h.2.2
end Go.Proofs.YtlniadfidfmckaaGreatDoor
end

section
namespace Go.Proofs.YtlniadfidfmckaaGreatDoor
open Go.Vc

noncomputable instance ti3 : TI Tryz.prog 3 := ⟨_, Tryz.underlying3, Tryz.t3, by kernel_rfl⟩
noncomputable instance ti5 : TI Tryz.prog 5 := ⟨_, Tryz.underlying5, Tryz.t5, by kernel_rfl⟩
noncomputable instance ti9 : TI Tryz.prog 9 := ⟨_, Tryz.underlying9, Tryz.t9, by kernel_rfl⟩
noncomputable instance ti22 : TI Tryz.prog 22 := ⟨_, Tryz.underlying22, Tryz.t22, by kernel_rfl⟩
noncomputable instance ti25 : TI Tryz.prog 25 := ⟨_, Tryz.underlying25, Tryz.t25, by kernel_rfl⟩
noncomputable instance ti27 : TI Tryz.prog 27 := ⟨_, Tryz.underlying27, Tryz.t27, by kernel_rfl⟩
noncomputable instance ti28 : TI Tryz.prog 28 := ⟨_, Tryz.underlying28, Tryz.t28, by kernel_rfl⟩
noncomputable instance ti29 : TI Tryz.prog 29 := ⟨_, Tryz.underlying29, Tryz.t29, by kernel_rfl⟩
noncomputable instance ti31 : TI Tryz.prog 31 := ⟨_, Tryz.underlying31, Tryz.t31, by kernel_rfl⟩
noncomputable instance ti35 : TI Tryz.prog 35 := ⟨_, Tryz.underlying35, Tryz.t35, by kernel_rfl⟩
noncomputable instance ti36 : TI Tryz.prog 36 := ⟨_, Tryz.underlying36, Tryz.t36, by kernel_rfl⟩
noncomputable instance ti37 : TI Tryz.prog 37 := ⟨_, Tryz.underlying37, Tryz.t37, by kernel_rfl⟩
noncomputable instance ti38 : TI Tryz.prog 38 := ⟨_, Tryz.underlying38, Tryz.t38, by kernel_rfl⟩
noncomputable instance ti39 : TI Tryz.prog 39 := ⟨_, Tryz.underlying39, Tryz.t39, by kernel_rfl⟩
noncomputable instance ti41 : TI Tryz.prog 41 := ⟨_, Tryz.underlying41, Tryz.t41, by kernel_rfl⟩
noncomputable instance ti43 : TI Tryz.prog 43 := ⟨_, Tryz.underlying43, Tryz.t43, by kernel_rfl⟩
noncomputable instance ti45 : TI Tryz.prog 45 := ⟨_, Tryz.underlying45, Tryz.t45, by kernel_rfl⟩
noncomputable instance ti47 : TI Tryz.prog 47 := ⟨_, Tryz.underlying47, Tryz.t47, by kernel_rfl⟩
noncomputable instance ti49 : TI Tryz.prog 49 := ⟨_, Tryz.underlying49, Tryz.t49, by kernel_rfl⟩
noncomputable instance ti51 : TI Tryz.prog 51 := ⟨_, Tryz.underlying51, Tryz.t51, by kernel_rfl⟩
noncomputable instance ti53 : TI Tryz.prog 53 := ⟨_, Tryz.underlying53, Tryz.t53, by kernel_rfl⟩
noncomputable instance ti67 : TI Tryz.prog 67 := ⟨_, Tryz.underlying67, Tryz.t67, by kernel_rfl⟩
noncomputable instance ti72 : TI Tryz.prog 72 := ⟨_, Tryz.underlying72, Tryz.t72, by kernel_rfl⟩
noncomputable instance ti73 : TI Tryz.prog 73 := ⟨_, Tryz.underlying73, Tryz.t73, by kernel_rfl⟩
noncomputable instance ti75 : TI Tryz.prog 75 := ⟨_, Tryz.underlying75, Tryz.t75, by kernel_rfl⟩
noncomputable instance ti77 : TI Tryz.prog 77 := ⟨_, Tryz.underlying77, Tryz.t77, by kernel_rfl⟩
noncomputable instance ti80 : TI Tryz.prog 80 := ⟨_, Tryz.underlying80, Tryz.t80, by kernel_rfl⟩
noncomputable instance ti86 : TI Tryz.prog 86 := ⟨_, Tryz.underlying86, Tryz.t86, by kernel_rfl⟩
noncomputable instance ti104 : TI Tryz.prog 104 := ⟨_, Tryz.underlying104, Tryz.t104, by kernel_rfl⟩
noncomputable instance ti121 : TI Tryz.prog 121 := ⟨_, Tryz.underlying121, Tryz.t121, by kernel_rfl⟩
noncomputable instance ti134 : TI Tryz.prog 134 := ⟨_, Tryz.underlying134, Tryz.t134, by kernel_rfl⟩
noncomputable instance ti154 : TI Tryz.prog 154 := ⟨_, Tryz.underlying154, Tryz.t154, by kernel_rfl⟩
noncomputable instance ti160 : TI Tryz.prog 160 := ⟨_, Tryz.underlying160, Tryz.t160, by kernel_rfl⟩
noncomputable instance ti170 : TI Tryz.prog 170 := ⟨_, Tryz.underlying170, Tryz.t170, by kernel_rfl⟩
noncomputable instance sl22 : SL Tryz.prog 22 := ⟨3, inferInstance, Tryz.underlying22⟩
noncomputable instance sl27 : SL Tryz.prog 27 := ⟨9, inferInstance, Tryz.underlying27⟩
noncomputable instance sl28 : SL Tryz.prog 28 := ⟨80, inferInstance, Tryz.underlying28⟩
noncomputable instance sl29 : SL Tryz.prog 29 := ⟨41, inferInstance, Tryz.underlying29⟩
noncomputable instance sl35 : SL Tryz.prog 35 := ⟨43, inferInstance, Tryz.underlying35⟩
noncomputable instance sl36 : SL Tryz.prog 36 := ⟨45, inferInstance, Tryz.underlying36⟩
noncomputable instance sl37 : SL Tryz.prog 37 := ⟨86, inferInstance, Tryz.underlying37⟩
noncomputable instance sl38 : SL Tryz.prog 38 := ⟨47, inferInstance, Tryz.underlying38⟩
noncomputable instance sl39 : SL Tryz.prog 39 := ⟨51, inferInstance, Tryz.underlying39⟩
noncomputable instance sl49 : SL Tryz.prog 49 := ⟨53, inferInstance, Tryz.underlying49⟩
noncomputable instance sl73 : SL Tryz.prog 73 := ⟨5, inferInstance, Tryz.underlying73⟩
noncomputable instance sl158 : SL Tryz.prog 158 := ⟨49, inferInstance, Tryz.underlying158⟩
instance fi5 : FI Tryz.prog 5 := ⟨fun args w => by kernel_rfl⟩
instance fi6 : FI Tryz.prog 6 := ⟨fun args w => by kernel_rfl⟩
instance fi7 : FI Tryz.prog 7 := ⟨fun args w => by kernel_rfl⟩
instance fi8 : FI Tryz.prog 8 := ⟨fun args w => by kernel_rfl⟩
instance fi9 : FI Tryz.prog 9 := ⟨fun args w => by kernel_rfl⟩
instance fi10 : FI Tryz.prog 10 := ⟨fun args w => by kernel_rfl⟩
instance fi11 : FI Tryz.prog 11 := ⟨fun args w => by kernel_rfl⟩
instance fi12 : FI Tryz.prog 12 := ⟨fun args w => by kernel_rfl⟩
instance fi13 : FI Tryz.prog 13 := ⟨fun args w => by kernel_rfl⟩
instance fi14 : FI Tryz.prog 14 := ⟨fun args w => by kernel_rfl⟩
instance fi17 : FI Tryz.prog 17 := ⟨fun args w => by kernel_rfl⟩
instance fi18 : FI Tryz.prog 18 := ⟨fun args w => by kernel_rfl⟩
instance fi19 : FI Tryz.prog 19 := ⟨fun args w => by kernel_rfl⟩
instance fi20 : FI Tryz.prog 20 := ⟨fun args w => by kernel_rfl⟩
instance fi21 : FI Tryz.prog 21 := ⟨fun args w => by kernel_rfl⟩
instance fi22 : FI Tryz.prog 22 := ⟨fun args w => by kernel_rfl⟩
instance fi23 : FI Tryz.prog 23 := ⟨fun args w => by kernel_rfl⟩
instance fi24 : FI Tryz.prog 24 := ⟨fun args w => by kernel_rfl⟩
instance fi25 : FI Tryz.prog 25 := ⟨fun args w => by kernel_rfl⟩
instance fi26 : FI Tryz.prog 26 := ⟨fun args w => by kernel_rfl⟩
instance fi27 : FI Tryz.prog 27 := ⟨fun args w => by kernel_rfl⟩
instance fi28 : FI Tryz.prog 28 := ⟨fun args w => by kernel_rfl⟩
instance fi29 : FI Tryz.prog 29 := ⟨fun args w => by kernel_rfl⟩
instance fi35 : FI Tryz.prog 35 := ⟨fun args w => by kernel_rfl⟩
instance fi36 : FI Tryz.prog 36 := ⟨fun args w => by kernel_rfl⟩
instance fi37 : FI Tryz.prog 37 := ⟨fun args w => by kernel_rfl⟩
instance fi38 : FI Tryz.prog 38 := ⟨fun args w => by kernel_rfl⟩
instance fi39 : FI Tryz.prog 39 := ⟨fun args w => by kernel_rfl⟩
instance fi40 : FI Tryz.prog 40 := ⟨fun args w => by kernel_rfl⟩
instance fi41 : FI Tryz.prog 41 := ⟨fun args w => by kernel_rfl⟩
instance fi42 : FI Tryz.prog 42 := ⟨fun args w => by kernel_rfl⟩
instance fi43 : FI Tryz.prog 43 := ⟨fun args w => by kernel_rfl⟩
instance fi44 : FI Tryz.prog 44 := ⟨fun args w => by kernel_rfl⟩
instance fi45 : FI Tryz.prog 45 := ⟨fun args w => by kernel_rfl⟩
instance fi46 : FI Tryz.prog 46 := ⟨fun args w => by kernel_rfl⟩
instance fi47 : FI Tryz.prog 47 := ⟨fun args w => by kernel_rfl⟩
instance fi48 : FI Tryz.prog 48 := ⟨fun args w => by kernel_rfl⟩
instance fi49 : FI Tryz.prog 49 := ⟨fun args w => by kernel_rfl⟩
instance fi50 : FI Tryz.prog 50 := ⟨fun args w => by kernel_rfl⟩
instance fi51 : FI Tryz.prog 51 := ⟨fun args w => by kernel_rfl⟩
instance fi52 : FI Tryz.prog 52 := ⟨fun args w => by kernel_rfl⟩
instance fi53 : FI Tryz.prog 53 := ⟨fun args w => by kernel_rfl⟩
instance fi54 : FI Tryz.prog 54 := ⟨fun args w => by kernel_rfl⟩
instance fi55 : FI Tryz.prog 55 := ⟨fun args w => by kernel_rfl⟩
instance fi56 : FI Tryz.prog 56 := ⟨fun args w => by kernel_rfl⟩
instance fi57 : FI Tryz.prog 57 := ⟨fun args w => by kernel_rfl⟩
instance fi58 : FI Tryz.prog 58 := ⟨fun args w => by kernel_rfl⟩
instance fi68 : FI Tryz.prog 68 := ⟨fun args w => by kernel_rfl⟩
instance fi69 : FI Tryz.prog 69 := ⟨fun args w => by kernel_rfl⟩
instance fi70 : FI Tryz.prog 70 := ⟨fun args w => by kernel_rfl⟩
instance fi71 : FI Tryz.prog 71 := ⟨fun args w => by kernel_rfl⟩
instance fi72 : FI Tryz.prog 72 := ⟨fun args w => by kernel_rfl⟩
instance fi73 : FI Tryz.prog 73 := ⟨fun args w => by kernel_rfl⟩
instance fi74 : FI Tryz.prog 74 := ⟨fun args w => by kernel_rfl⟩
instance fi75 : FI Tryz.prog 75 := ⟨fun args w => by kernel_rfl⟩
instance fi76 : FI Tryz.prog 76 := ⟨fun args w => by kernel_rfl⟩
instance fi77 : FI Tryz.prog 77 := ⟨fun args w => by kernel_rfl⟩
instance fi82 : FI Tryz.prog 82 := ⟨fun args w => by kernel_rfl⟩
instance fi83 : FI Tryz.prog 83 := ⟨fun args w => by kernel_rfl⟩
instance fi84 : FI Tryz.prog 84 := ⟨fun args w => by kernel_rfl⟩
instance fi85 : FI Tryz.prog 85 := ⟨fun args w => by kernel_rfl⟩
instance fi86 : FI Tryz.prog 86 := ⟨fun args w => by kernel_rfl⟩
instance fi87 : FI Tryz.prog 87 := ⟨fun args w => by kernel_rfl⟩
instance fi88 : FI Tryz.prog 88 := ⟨fun args w => by kernel_rfl⟩
instance fi89 : FI Tryz.prog 89 := ⟨fun args w => by kernel_rfl⟩
instance fi90 : FI Tryz.prog 90 := ⟨fun args w => by kernel_rfl⟩
instance fi100 : FI Tryz.prog 100 := ⟨fun args w => by kernel_rfl⟩
instance fi101 : FI Tryz.prog 101 := ⟨fun args w => by kernel_rfl⟩
instance fi102 : FI Tryz.prog 102 := ⟨fun args w => by kernel_rfl⟩
instance fi103 : FI Tryz.prog 103 := ⟨fun args w => by kernel_rfl⟩
instance fi104 : FI Tryz.prog 104 := ⟨fun args w => by kernel_rfl⟩
instance fi111 : FI Tryz.prog 111 := ⟨fun args w => by kernel_rfl⟩
instance fi112 : FI Tryz.prog 112 := ⟨fun args w => by kernel_rfl⟩
instance fi113 : FI Tryz.prog 113 := ⟨fun args w => by kernel_rfl⟩
instance fi114 : FI Tryz.prog 114 := ⟨fun args w => by kernel_rfl⟩
instance fi115 : FI Tryz.prog 115 := ⟨fun args w => by kernel_rfl⟩
instance fi116 : FI Tryz.prog 116 := ⟨fun args w => by kernel_rfl⟩
instance fi120 : FI Tryz.prog 120 := ⟨fun args w => by kernel_rfl⟩
instance fi121 : FI Tryz.prog 121 := ⟨fun args w => by kernel_rfl⟩
instance fi122 : FI Tryz.prog 122 := ⟨fun args w => by kernel_rfl⟩
instance fi123 : FI Tryz.prog 123 := ⟨fun args w => by kernel_rfl⟩
instance fi124 : FI Tryz.prog 124 := ⟨fun args w => by kernel_rfl⟩
instance fi125 : FI Tryz.prog 125 := ⟨fun args w => by kernel_rfl⟩
instance fi126 : FI Tryz.prog 126 := ⟨fun args w => by kernel_rfl⟩
instance fi127 : FI Tryz.prog 127 := ⟨fun args w => by kernel_rfl⟩
instance fi133 : FI Tryz.prog 133 := ⟨fun args w => by kernel_rfl⟩
instance fi138 : FI Tryz.prog 138 := ⟨fun args w => by kernel_rfl⟩
instance fi139 : FI Tryz.prog 139 := ⟨fun args w => by kernel_rfl⟩
instance fi140 : FI Tryz.prog 140 := ⟨fun args w => by kernel_rfl⟩
noncomputable instance ts31 : TS Tryz.prog 31 := ⟨#[(0, 1), (1, 1), (2, 1)], fun w => by kernel_rfl⟩
noncomputable instance ts41 : TS Tryz.prog 41 := ⟨#[(0, 1), (1, 1), (2, 1), (3, 1), (4, 1), (5, 1), (6, 1), (7, 1), (8, 1), (9, 1), (10, 1)], fun w => by kernel_rfl⟩
noncomputable instance ts43 : TS Tryz.prog 43 := ⟨#[(0, 1), (1, 1), (2, 1)], fun w => by kernel_rfl⟩
noncomputable instance ts45 : TS Tryz.prog 45 := ⟨#[(0, 1), (1, 1)], fun w => by kernel_rfl⟩
noncomputable instance ts47 : TS Tryz.prog 47 := ⟨#[(0, 1), (1, 1)], fun w => by kernel_rfl⟩
noncomputable instance ts51 : TS Tryz.prog 51 := ⟨#[(0, 1), (1, 1), (2, 1), (3, 1), (4, 1), (5, 1), (6, 1), (7, 1)], fun w => by kernel_rfl⟩
noncomputable instance ts53 : TS Tryz.prog 53 := ⟨#[(0, 1), (1, 1), (2, 1), (3, 1), (4, 1)], fun w => by kernel_rfl⟩
noncomputable instance ts67 : TS Tryz.prog 67 := ⟨#[(0, 1), (1, 1)], fun w => by kernel_rfl⟩
noncomputable instance ts75 : TS Tryz.prog 75 := ⟨#[(0, 1), (1, 1)], fun w => by kernel_rfl⟩
noncomputable instance ts77 : TS Tryz.prog 77 := ⟨#[(0, 2)], fun w => by kernel_rfl⟩
noncomputable instance ts80 : TS Tryz.prog 80 := ⟨#[(0, 2), (2, 1)], fun w => by kernel_rfl⟩
noncomputable instance ts86 : TS Tryz.prog 86 := ⟨#[(0, 1), (1, 1), (2, 1), (3, 1)], fun w => by kernel_rfl⟩
noncomputable instance ts134 : TS Tryz.prog 134 := ⟨#[(0, 1), (1, 1), (2, 1), (3, 1), (4, 1), (5, 1), (6, 1), (7, 1), (8, 1)], fun w => by kernel_rfl⟩
end Go.Proofs.YtlniadfidfmckaaGreatDoor
end

section
namespace Go.Vc
open Go.RowKit

/-- How a call ends: it returns (and what is known then), or it panics with a value. -/
inductive Fin : Type 1
  | ret (post : (S → List Ch → Prop) → Prop)
  | pan (v : Value)

section
variable {P : Program} [Gl P] {nt : Nat} {c : Cx P nt} {env : Env} {H : List Ch} {K : S → List Ch → Prop}
variable {d : Option Tmp} {ty t t' : TypeId} {pos : String} {af : Array Edge} {g : Option (Nat × Bool)} {x y : Operand}
/-- A test that is decided. -/
theorem jc_condT {Q : Exit → Act → World → Prop} {thn els : Code} {b : Bool} (hx : env.ev x = some (Bl b)) (hb : b = true) (h : JC c thn Q env H) : JC c (.cond x thn els) Q env H := jc_cond hx (fun _ => h) (fun h => by rw [hb] at h; cases h)
theorem jc_condF {Q : Exit → Act → World → Prop} {thn els : Code} {b : Bool} (hx : env.ev x = some (Bl b)) (hb : b = false) (h : JC c els Q env H) : JC c (.cond x thn els) Q env H := jc_cond hx (fun h => by rw [hb] at h; cases h) (fun _ => h)
/-- No result. -/
theorem jq_ret0 {fn : Func} {post : (S → List Ch → Prop) → Prop} {ex : Exit} (hex : ex = .ret ∨ ex = .normal) (hres : fn.results = #[]) (is : List Nat) {Hout Hr : List Ch} (hp : pick is H = some (Hout, Hr)) (hpost : ∀ K, post K → K (.tup []) Hout) : JQ c (bodyPost P fn (RR c post)) ex env H :=
  jq_retG (ss := []) hex (by rw [hres]; rfl) hp hpost
end
end Go.Vc
end

section
namespace Go.Vc
open Go.RowKit

def PanI (Q : Exit → Act → World → Prop) : Prop := ∀ ch a d v w, Q (.panic ch) (Act.put a d v) w → Q (.panic ch) a w
theorem pani_then {K : Act → World → Prop} {Q : Exit → Act → World → Prop} (h : PanI Q) : PanI (Exit.then K Q) := h
theorem pani_block {id : Nat} {Q : Exit → Act → World → Prop} (h : PanI Q) : PanI (Exit.inBlock id Q) := h
theorem pani_body {P : Program} {fn : Func} {R : Ending → World → Prop} : PanI (bodyPost P fn R) := by
  intro ch a d v w h
  cases d <;> exact h

theorem len3 {α : Type} {l : List α} (h : l.length = 3) : ∃ v0 v1 v2, l = [v0, v1, v2] := by
  match l, h with
  | [v0, v1, v2], _ => exact ⟨v0, v1, v2, rfl⟩
section
variable {P : Program} {ops : Array Oper} {Q : Exit → Act → World → Prop} {md : Region.Mode} {S : World → Prop} {m : Nat}
def anyX (P : Program) (md : Region.Mode) (ops : Array Oper) (Q : Exit → Act → World → Prop) (S : World → Prop) (m : Nat) : Nat → Array Bool → Act → World → Prop
  | 0, listed, a, w => Region.ready md ops listed = [] ∧ Q .normal a w
  | fuel + 1, listed, a, w => (Region.ready md ops listed = [] → Q .normal a w) ∧ ∀ i ∈ Region.ready md ops listed, wpOp P ops Q i (fun a' w' => (i < m → S w') ∧ anyX P md ops Q S m fuel (listed.setIfInBounds i true) a' w') a w
theorem any_of_x : ∀ (fuel : Nat) (listed : Array Bool) (a : Act) (w : World), anyX P md ops Q S m fuel listed a w → wpAny P md ops Q fuel listed a w
  | 0, _, _, _, h => h
  | fuel + 1, _, _, _, h => ⟨h.1, fun i hi => wpOp_mono (fun a' w' h' => any_of_x fuel _ a' w' h'.2) (h.2 i hi)⟩
/-- One that only looks is taken first; the later ones wait for it. -/
theorem anyX_first {i : Nat} {oi : Oper} {v : Value} (hi : ops[i]? = some oi) (hsel : ∀ (j : Nat) (o : Oper) cs b, ops[j]? = some o → o.op ≠ .select cs b) (hQ : ∀ c a w, Q (.panic c) (a.put oi.dst v) w → Q (.panic c) a w)
    (hlate : ∀ (j : Nat) (o : Oper), m ≤ j → ops[j]? = some o → j ≠ i → ∃ e ∈ o.after, Region.binds md e = true ∧ e.on = i) :
    ∀ (fuel : Nat) (listed : Array Bool) (a : Act) (w : World),
      (∀ j oj, ops[j]? = some oj → j ≠ i → listed.getD j true = false → (∀ e ∈ oj.after, Region.binds md e = true → e.on ≠ i) → oi.apart ops oj = true) →
      i ∈ Region.ready md ops listed → YieldsIf P ops S oi v a → S w →
      anyX P md ops Q S m fuel (listed.setIfInBounds i true) (a.put oi.dst v) w → anyX P md ops Q S m (fuel + 1) listed a w := by
  intro fuel
  induction fuel with
  | zero =>
    intro listed a w _ hr hy hS hX
    refine ⟨fun h => (by rw [h] at hr; cases hr), fun j hj => ?_⟩
    by_cases hji : j = i
    · subst hji; exact hy.wpOp hi hS ⟨fun _ => hS, hX⟩
    · have := ready_mono hj hji
      rw [hX.1] at this
      cases this
  | succ fuel ih =>
    intro listed a w hfree hr hy hS hX
    refine ⟨fun h => (by rw [h] at hr; cases hr), fun j hj => ?_⟩
    by_cases hji : j = i
    · subst hji; exact hy.wpOp hi hS ⟨fun _ => hS, hX⟩
    · obtain ⟨hjun, oj, hoj, hall⟩ := mem_ready.1 hj
      have hnot : ∀ e ∈ oj.after, Region.binds md e = true → e.on ≠ i := fun e he hbd heq => by
        have h1 := hall e he hbd
        have h0 := (mem_ready.1 hr).1
        rw [heq] at h1
        rw [Array.getD_eq_getD_getElem?] at h0 h1
        cases hl : listed[i]? with
        | none => rw [hl] at h1; cases h1
        | some bb => rw [hl] at h0 h1; simp only [Option.getD_some] at h0 h1; rw [h0] at h1; cases h1
      have hjm : j < m := by
        rcases Nat.lt_or_ge j m with h | h
        · exact h
        · obtain ⟨e, he, hbd, hon⟩ := hlate j oj h hoj hji
          exact absurd hon (hnot e he hbd)
      have h2 := wpOp_putIf hoj (hfree j oj hoj hji hjun hnot) (fun cs b => hsel i oi cs b hi) (fun cs b => hsel j oj cs b hoj) hQ hy (hX.2 j (ready_mono hj hji))
      refine wpOp_mono (fun a' w' h3 => ⟨fun _ => h3.2.1 hjm, ih (listed.setIfInBounds j true) a' w' ?_ (ready_mono hr (Ne.symm hji)) h3.1 (h3.2.1 hjm) ?_⟩) h2
      · intro k ok hk hki hun hno
        refine hfree k ok hk hki ?_ hno
        by_cases hjk : j = k
        · subst hjk; exact hjun
        · rw [getD_set_ne true hjk] at hun; exact hun
      · rw [Array.setIfInBounds_comm _ _ hji]
        exact h3.2.2
end

section
variable {P : Program} [Gl P] {nt : Nat} {c : Cx P nt} {env : Env} {H Hr : List Ch} {ops : Array Oper} {Q : Exit → Act → World → Prop} {Sw : World → Prop} {L : List (Nat × List Value × TypeId)}
variable {m fuel : Nat} {listed : Array Bool} {d ty t t' : TypeId} {pos : String} {af : Array Edge} {x y : Operand}

def HP (c : Cx P nt) (ops : Array Oper) (Q : Exit → Act → World → Prop) (Sw : World → Prop) (m fuel : Nat) (listed : Array Bool) (env : Env) (H : List Ch) : Prop :=
  ∀ a w, St c env H a w → Sw w → anyX P .any ops Q Sw m fuel listed a w
/-- From number m on each waits for this one. -/
def lateWait (ops : Array Oper) (m i : Nat) : Bool := ops.toList.zipIdx.all fun (o, j) => decide (j < m) || j == i || hasEdge o i
omit [Gl P] in
theorem late_spec {i : Nat} (h : lateWait ops m i = true) : ∀ (j : Nat) (o : Oper), m ≤ j → ops[j]? = some o → j ≠ i → ∃ e ∈ o.after, Region.binds .any e = true ∧ e.on = i := by
  intro j o hj ho hne
  have h1 := List.all_eq_true.1 h (o, j) (by rw [List.mem_zipIdx_iff_getElem?]; simpa using ho)
  have h2 : decide (j < m) = false := by simpa using hj
  have h3 : (j == i) = false := by simpa using hne
  simp only [h2, h3, Bool.false_or] at h1
  exact edge_spec h1
theorem hp_take {i : Nat} {op : Op} {s : S} (hi : ops[i]? = some ⟨some d, op, ty, pos, af, none⟩) (hs : (Region.noSelect ops && lateWait ops m i) = true) (hf : Region.free .any ops listed i = true) (hr : (Region.ready .any ops listed).contains i = true) (hd : d < nt) (hQ : PanI Q)
    (hop : HOk c Sw env H ⟨some d, op, ty, pos, af, none⟩ s) (h : HP c ops Q Sw m fuel (listed.setIfInBounds i true) ((d, s) :: env) H) : HP c ops Q Sw m (fuel + 1) listed env H := by
  intro a w hst hS
  obtain ⟨v, h1, h2⟩ := hop a w hst hS
  rw [Bool.and_eq_true] at hs
  exact anyX_first hi (Region.noSelect_spec hs.1) (fun ch a w h => hQ ch a _ _ w h) (late_spec hs.2) fuel listed a w (Region.free_spec hi hf) (by simpa using hr) (.inl ⟨rfl, h1⟩) hS (h _ _ (hst.next hd hst.heap h2 (fun _ _ h => h)) hS)
omit [Gl P] in
theorem anyX_all {rs : List Nat} {a : Act} {w : World} (hr : Region.ready .any ops listed = rs) (hne : rs ≠ []) (h : ∀ i ∈ rs, wpOp P ops Q i (fun a' w' => (i < m → Sw w') ∧ anyX P .any ops Q Sw m fuel (listed.setIfInBounds i true) a' w') a w) : anyX P .any ops Q Sw m (fuel + 1) listed a w :=
  ⟨fun h0 => absurd (hr ▸ h0) hne, hr ▸ h⟩
/-- The only one that may come up now. -/
theorem hp_op {i : Nat} {op : Op} (hi : ops[i]? = some ⟨some d, op, ty, pos, af, none⟩) (hr : Region.ready .any ops listed = [i]) (hd : d < nt)
    (h : OpWp c ⟨some d, op, ty, pos, af, none⟩ env H (fun s H' => (∀ w, StW c H' w → Sw w) ∧ HP c ops Q Sw m fuel (listed.setIfInBounds i true) ((d, s) :: env) H')) : HP c ops Q Sw m (fuel + 1) listed env H := by
  intro a w hst hS
  refine anyX_all hr (by simp) (fun j hj => ?_)
  obtain rfl : j = i := by simpa using hj
  unfold wpOp
  rw [hi]
  dsimp only
  rw [if_pos (show Region.wanted _ _ = true from rfl)]
  refine .inl (h a w hst _ _ ?_)
  intro s H' v w' hK hw' hv hk
  exact ⟨fun _ => hK.1 _ hw', hK.2 _ _ (hst.next hd hw' hv hk) (hK.1 _ hw')⟩
theorem hp_op0 {i : Nat} {op : Op} (hi : ops[i]? = some ⟨none, op, ty, pos, af, none⟩) (hr : Region.ready .any ops listed = [i])
    (h : OpWp c ⟨none, op, ty, pos, af, none⟩ env H (fun _ H' => (∀ w, StW c H' w → Sw w) ∧ HP c ops Q Sw m fuel (listed.setIfInBounds i true) env H')) : HP c ops Q Sw m (fuel + 1) listed env H := by
  intro a w hst hS
  refine anyX_all hr (by simp) (fun j hj => ?_)
  obtain rfl : j = i := by simpa using hj
  unfold wpOp
  rw [hi]
  dsimp only
  rw [if_pos (show Region.wanted _ _ = true from rfl)]
  refine .inl (h a w hst _ _ ?_)
  intro s H' v w' hK hw' hv hk
  exact ⟨fun _ => hK.1 _ hw', hK.2 _ _ (hst.next0 hw' hk) (hK.1 _ hw')⟩
theorem hp_done (hr : Region.ready .any ops listed = []) (h : JQ c Q .normal env H) : HP c ops Q Sw m fuel listed env H := by
  intro a w hst _
  cases fuel with
  | zero => exact ⟨hr, h a w hst⟩
  | succ fuel => exact ⟨fun _ => h a w hst, by rw [hr]; simp⟩
/-- What comes behind the first m, one after the other: nothing need hold any more. -/
def HT (c : Cx P nt) (ops : Array Oper) (Q : Exit → Act → World → Prop) (Sw : World → Prop) (m fuel : Nat) (listed : Array Bool) (env : Env) (H : List Ch) : Prop :=
  ∀ a w, St c env H a w → anyX P .any ops Q Sw m fuel listed a w
theorem hp_tail (h : HT c ops Q Sw m fuel listed env H) : HP c ops Q Sw m fuel listed env H := fun a w hst _ => h a w hst
theorem ht_op {i : Nat} {op : Op} (hi : ops[i]? = some ⟨some d, op, ty, pos, af, none⟩) (hr : Region.ready .any ops listed = [i]) (hd : d < nt) (hm : m ≤ i)
    (h : OpWp c ⟨some d, op, ty, pos, af, none⟩ env H (fun s H' => HT c ops Q Sw m fuel (listed.setIfInBounds i true) ((d, s) :: env) H')) : HT c ops Q Sw m (fuel + 1) listed env H := by
  intro a w hst
  refine anyX_all hr (by simp) (fun j hj => ?_)
  obtain rfl : j = i := by simpa using hj
  unfold wpOp
  rw [hi]
  dsimp only
  rw [if_pos (show Region.wanted _ _ = true from rfl)]
  refine .inl (h a w hst _ _ ?_)
  intro s H' v w' hK hw' hv hk
  exact ⟨fun hlt => absurd hlt (by omega), hK _ _ (hst.next hd hw' hv hk)⟩
theorem ht_op0 {i : Nat} {op : Op} (hi : ops[i]? = some ⟨none, op, ty, pos, af, none⟩) (hr : Region.ready .any ops listed = [i]) (hm : m ≤ i)
    (h : OpWp c ⟨none, op, ty, pos, af, none⟩ env H (fun _ H' => HT c ops Q Sw m fuel (listed.setIfInBounds i true) env H')) : HT c ops Q Sw m (fuel + 1) listed env H := by
  intro a w hst
  refine anyX_all hr (by simp) (fun j hj => ?_)
  obtain rfl : j = i := by simpa using hj
  unfold wpOp
  rw [hi]
  dsimp only
  rw [if_pos (show Region.wanted _ _ = true from rfl)]
  refine .inl (h a w hst _ _ ?_)
  intro s H' v w' hK hw' hv hk
  exact ⟨fun hlt => absurd hlt (by omega), hK _ _ (hst.next0 hw' hk)⟩
theorem ht_done (hr : Region.ready .any ops listed = []) (h : JQ c Q .normal env H) : HT c ops Q Sw m fuel listed env H := by
  intro a w hst
  cases fuel with
  | zero => exact ⟨hr, h a w hst⟩
  | succ fuel => exact ⟨fun _ => h a w hst, by rw [hr]; simp⟩
theorem hp_begin {id n : Nat} (m : Nat) (hn : ops.size = n) (hm : P.follows .mixedOrders = true) {a : Act} {w : World} (hs : St c env H a w) (hS : Sw { w with drawn := w.drawn + 1 }) (h : HP c ops Q Sw m n (Array.replicate n false) env H) : (Code.region id ops true).wp P Q a w := by
  subst hn
  refine wp_region_any hm (any_of_x (S := Sw) (m := m) _ _ _ _ ?_)
  obtain ⟨d1, d2⟩ := stw_drew hs.heap
  exact h a _ ⟨hs.size, hs.defers, fun t s hl => d2 _ _ (hs.slots t s hl), d1⟩ hS
/-- A block each of whose cells is known. -/
theorem jc_hpV {id n : Nat} (m : Nat) (hn : ops.size = n) {b1 : Nat} {t1 : TypeId} {r1 : List C} (j1 : Nat) (vs : List Value) (hm : P.follows .mixedOrders = true) (hp : pick [j1] H = some ([.blk b1 t1 r1], Hr)) (hv : r1 = vs.map C.val)
    (h : HP c ops Q (Keep [(b1, vs, t1)]) m n (Array.replicate n false) env H) : JC c (.region id ops true) Q env H := by
  intro a w hs
  obtain ⟨cs1, g1, g2⟩ := blk_ok hs hp
  subst hv
  obtain rfl := rdRow_vals g2
  refine hp_begin m hn hm hs ?_ h
  intro p hp
  obtain rfl := List.mem_singleton.1 hp
  exact g1
theorem keep0 : ∀ w, StW c H w → Keep [] w := by intro w _ p hp; cases hp
theorem keep1 {b1 : Nat} {t1 : TypeId} {cs1 : List Value} (j : Nat) (hp : H[j]? = some (.blk b1 t1 (cs1.map C.val))) : ∀ w, StW c H w → Keep [(b1, cs1, t1)] w :=
  keep_of (fun p hp2 => by
    obtain rfl := List.mem_singleton.1 hp2
    exact List.mem_of_getElem? hp)
theorem mem0 {α : Type} {x : α} {l : List α} : x ∈ x :: l := List.mem_cons_self ..
theorem hok_nilCheck {d : Option Tmp} {b o : Nat} {sp : Option Nat} (hx : env.ev x = some (.cell (.val (.pointer (some ⟨b, o, sp⟩))))) : HOk c Sw env H ⟨d, .nilCheck x, ty, pos, af, none⟩ (.cell (.val (.pointer (some ⟨b, o, sp⟩)))) :=
  fun _ _ hst _ => ⟨.pointer (some ⟨b, o, sp⟩), fun _ _ => by simp [execOp, ev_val hst hx], rfl, rfl⟩
end
end Go.Vc
end

section
namespace Go.Vc
open Go.RowKit

section
variable {P : Program} [Gl P] {nt : Nat} {c : Cx P nt} {env : Env} {H : List Ch} {K : S → List Ch → Prop}
variable {d : Option Tmp} {ty t t' : TypeId} {pos : String} {af : Array Edge} {g : Option (Nat × Bool)} {x y : Operand}
/-- A slice of one constant struct. -/
theorem ow_buildSliceC [SL P t] {z : Value} {arr : Array Value} {row : List C} (cs : List Value) (hc : arr.toList = cs) (h1 : cs.all Value.oneCell' = true) (hz : (TI.i P (SL.e P t)).zero = some z) (hrow : row = cs.map C.val)
    (hpos : 0 < (TI.i P (SL.e P t)).size) (hs : sliceRows (TI.i P (SL.e P t)).size 0 [(0, S.row row)] = some [row]) (hlim : (TI.i P (SL.e P t)).size ≤ 16777216) (hK : K (.cell (.list [row])) H) : OpWp c ⟨d, .buildSlice t 1 #[(0, .const (.agg arr))], ty, pos, af, g⟩ env H K := by
  intro a w h next Q hn
  have hparts : Parts w (c.av H) [(0, S.row row)] [(0, .agg arr)] := by
    refine ⟨.agg arr, [], rfl, ⟨arr, rfl, ?_⟩, rfl⟩
    rw [hc, hrow]
    exact rdRow_zero cs (List.all_eq_true.1 h1)
  obtain ⟨cs', g1, g2⟩ := run_buildSlice (P := P) (t := t) (len := 1) hz rfl hparts hs rfl (by omega)
  have hg : Grow (hb []) w (w.alloc (.cells cs'.toArray (SL.e P t))) := ⟨rfl, rfl, rfl, by simp, fun k hk _ => Below.heap_alloc _ _ _ hk⟩
  have h' : StW c ([] ++ H) w := h.heap
  obtain ⟨s1, s2⟩ := StW.step (H1' := []) h' hg (by simp [hb]) (by simp [hb]) (by simp)
  have hav : ¬ c.av H w.heap.size := fun hx => by have := h.heap.avlt _ hx; omega
  have hr := rdRows_up (hg.up (A := c.av H) (by simp [hb])) (fun b hb => Or.inl hb) _ _ _ g2
  unfold Oper.wp
  have hrun : (execOp a.eval ⟨d, .buildSlice t 1 #[(0, .const (.agg arr))], ty, pos, af, g⟩).run P w = .ok (.value (.slice (some ⟨w.heap.size, 0, none⟩) 1 1)) (w.alloc (.cells cs'.toArray (SL.e P t))) := by
    simp only [execOp, List.map_toArray, List.map_cons, List.map_nil, Act.eval, Sem.run_bind, g1, Result.andThen_ok, Sem.run_pure]
  rw [hrun]
  refine hn _ H _ _ hK s1 ?_ s2
  exact rdRows_cells (e := SL.e P t) hr hpos (by show (w.heap.push _)[w.heap.size]? = _; simp) hav _ (Nat.le_refl _) (by unfold maxLen; omega)
/-- Append of one row. -/
theorem ow_apRow {v : Value} {e : TypeId} {k : Nat} {rows : List (List C)} {row : List C} {Hr : List Ch} [SL P t] {z : Value} (j : Nat) (hx : env.ev x = some (.cell (.val v))) (hp : pick [j] H = some ([.own v e k rows], Hr)) (hy : env.ev y = some (.cell (.list [row])))
    (he : SL.e P t = e) (hz : (TI.i P (SL.e P t)).zero = some z) (hzs : z.cells.size = k) (hsz : (TI.i P (SL.e P t)).size = k)
    (hrow : row.length = k) (hlen : rows.length ≤ 2000000) (hb : (TI.i P (SL.e P t)).bytes ≤ 1000)
    (hK : ∀ v', v'.oneCell' = true → K (.cell (.val v')) (.own v' e k (rows ++ [row]) :: Hr)) :
    OpWp c ⟨d, .call { callee := .builtin .append, args := #[x, y], argTypes := #[t, t] }, ty, pos, af, g⟩ env H K :=
  ow_append j hx hp hy he hz hzs hsz (by intro r hr; obtain rfl := List.mem_singleton.1 hr; exact hrow) (by have := Nat.mul_le_mul (show rows.length + 1 ≤ 2000001 by omega) hb; simp only [List.length_singleton]; omega) (by simp only [List.length_singleton]; omega) hK
/-- What is owned becomes what is only read: where cell i of a block holds it. -/
theorem st_freezeBi {a : Act} {w : World} {v : Value} {e t : TypeId} {b k j j2 : Nat} {rows : List (List C)} {row : List C} {Hr Hr2 : List Ch} (i : Nat) (h : St c env H a w) (hp : pick [j] H = some ([.own v e k rows], Hr)) (hp2 : pick [j2] Hr = some ([.blk b t row], Hr2)) (hi : row[i]? = some (.val v)) (hX : ∀ b ∈ c.X, b ∈ hb Hr) :
    St c env (.blk b t (row.set i (.list rows)) :: Hr2) a w := by
  have h' : StW c (.own v e k rows :: Hr) w := h.heap.perm (pick_perm hp)
  have hav : c.av (.own v e k rows :: Hr) = c.av H := av_perm c (pick_perm hp)
  obtain ⟨f1, f2, f3⟩ := stw_freeze h' hX
  have hs : St c env Hr a w := ⟨h.size, h.defers, fun t s hl => f3 _ _ (by rw [hav]; exact h.slots t s hl), f1⟩
  obtain ⟨cs, g1, g2⟩ := blk_ok hs hp2
  refine st_row hs hp2 ⟨cs, g1, ?_⟩
  obtain ⟨u, hu, hr⟩ := rdRow_get g2 hi
  have := rdRow_set (i := i) g2 (c := .list rows) (v := u) (by rw [hr.1]; exact f2)
  obtain ⟨hlt, rfl⟩ := List.getElem?_eq_some_iff.1 hu
  rwa [List.set_getElem_self] at this
theorem jc_freezeBi {Q : Exit → Act → World → Prop} {code : Code} (j j2 i : Nat) {v : Value} {e t : TypeId} {b k : Nat} {rows : List (List C)} {row : List C} {Hr Hr2 : List Ch} (hp : pick [j] H = some ([.own v e k rows], Hr)) (hp2 : pick [j2] Hr = some ([.blk b t row], Hr2)) (hi : row[i]? = some (.val v)) (hX : ∀ b ∈ c.X, b ∈ hb Hr)
    (h : JC c code Q env (.blk b t (row.set i (.list rows)) :: Hr2)) : JC c code Q env H := fun a w hs => h a w (st_freezeBi i hs hp hp2 hi hX)
end
end Go.Vc
end

section
namespace Go.Vc
open Go.RowKit

section
variable {P : Program} [Gl P] {nt : Nat} {c : Cx P nt} {env : Env} {H : List Ch} {K : S → List Ch → Prop}
variable {d : Option Tmp} {ty t t' : TypeId} {pos : String} {af : Array Edge} {g : Option (Nat × Bool)} {x y : Operand}
end
end Go.Vc
end

section
namespace Go.Vc
open Go.RowKit

section
variable {P : Program} [Gl P] {nt : Nat} {c : Cx P nt} {env : Env} {H : List Ch} {K : S → List Ch → Prop}
variable {d : Option Tmp} {ty t t' : TypeId} {pos : String} {af : Array Edge} {g : Option (Nat × Bool)} {x y : Operand}
variable {ds : List Deferred} {ops : Array Oper} {Q : Exit → Act → World → Prop} {l : List Oper}
end
end Go.Vc
end

section
namespace Go.Vc
open Go.RowKit

section
variable {P : Program} [Gl P] {nt : Nat} {c : Cx P nt} {env : Env} {H Hr : List Ch} {ops : Array Oper} {Q : Exit → Act → World → Prop} {Sw : World → Prop}
variable {m fuel : Nat} {listed : Array Bool} {i j di dj : Nat} {opi opj : Op} {ti tj : TypeId} {pi pj : String} {afi afj : Array Edge} {s0 : S}
/-- What is left when the first m are done: nothing need stand any more. -/
def allDone (m : Nat) (listed : Array Bool) : Bool := (List.range m).all fun i => listed.getD i true
end
end Go.Vc
end

section
namespace Go.Vc
open Go.RowKit

section
variable {P : Program} [Gl P] {nt : Nat} {c : Cx P nt} {env : Env} {H Hr : List Ch} {F : List (S × Value)} {ops : Array Oper} {Q : Exit → Act → World → Prop}
variable {fuel : Nat} {listed : Array Bool} {i j d : Nat} {ty t : TypeId} {pos : String} {af : Array Edge} {x y : Operand}
@[reducible] def putE (d : Option Nat) (s : S) (env : Env) : Env := match d with
  | some d => (d, s) :: env
  | none => env
def okD (d : Option Nat) (nt : Nat) : Bool := match d with
  | some d => decide (d < nt)
  | none => true
end
end Go.Vc
end

section
namespace Go.Vc
open Go.RowKit
theorem r_.{u} {α : Sort u} {a : α} : a = a := rfl
theorem g_ {p : Prop} (h : p := by omega) : p := h
theorem h_ {p : Prop} (h : p := by assumption) : p := h
theorem k_ {p : Prop} (h : p := by kernel_rfl) : p := h
theorem t_ {p : Prop} [Decidable p] (h : p := by omega) : decide p = true := decide_eq_true h
theorem u_ {p : Prop} [Decidable p] (h : p := by assumption) : decide p = true := decide_eq_true h
theorem v_ {p : Prop} [Decidable p] (h : ¬ p := by omega) : decide p = false := decide_eq_false h
theorem w_ {p : Prop} [Decidable p] (h : ¬ p := by assumption) : decide p = false := decide_eq_false h
theorem x_ {α : Type} [DecidableEq α] {a : α} : decide (a = a) = true := decide_eq_true rfl
theorem p_ {s : S} {H : List Ch} : s = s ∧ H.Perm H := ⟨rfl, List.Perm.refl _⟩
theorem b_ {n m : Nat} (h : Nat.ble n m = true := by rfl) : n ≤ m := nb h
section
variable {P : Program} [Gl P] {nt : Nat} {c : Cx P nt} {env : Env} {H Hr : List Ch} {ops : Array Oper} {Q : Exit → Act → World → Prop} {l : List Oper} {d : Nat} {op : Op} {ty t : TypeId} {pos : String} {af : Array Edge} {x y : Operand}
theorem o_ (hd : Nat.ble (d + 1) nt = true) (h : OpWp c ⟨some d, op, ty, pos, af, none⟩ env H (fun s H' => JL c ops Q l ((d, s) :: env) H')) : JL c ops Q (⟨some d, op, ty, pos, af, none⟩ :: l) env H := jl_op h (nb hd)
theorem M_ {s : S} (h : (env.ev x, Nat.ble (d + 1) nt) = (some s, true)) (k : JL c ops Q l ((d, s) :: env) H) : JL c ops Q (⟨some d, .move x, ty, pos, af, none⟩ :: l) env H := jl_op (ow_move (Prod.mk.inj h).1 k) (nb (Prod.mk.inj h).2)
theorem E_ {s : S} (h : (env.ev x, Nat.ble (d + 1) nt) = (some s, true)) (k : JL c ops Q l ((d, s) :: env) H) : JL c ops Q (⟨some d, .assign x, ty, pos, af, none⟩ :: l) env H := jl_op (ow_assign (Prod.mk.inj h).1 k) (nb (Prod.mk.inj h).2)
theorem N_ {b o : Nat} {sp : Option Nat} (h : (env.ev x, Nat.ble (d + 1) nt) = (some (.cell (.val (.pointer (some ⟨b, o, sp⟩)))), true)) (k : JL c ops Q l ((d, .cell (.val (.pointer (some ⟨b, o, sp⟩)))) :: env) H) : JL c ops Q (⟨some d, .nilCheck x, ty, pos, af, none⟩ :: l) env H := jl_op (ow_nilCheck (Prod.mk.inj h).1 k) (nb (Prod.mk.inj h).2)
theorem F_ {b o f off size : Nat} [TI P t] [TS P t] (h : (structB (TI.u P t), env.ev x, (TS.pl P t)[f]?, Nat.ble 1 size, Nat.ble (d + 1) nt) = (true, some (.cell (.val (.pointer (some ⟨b, o, none⟩)))), some (off, size), true, true))
    (k : JL c ops Q l ((d, .cell (.val (.pointer (some ⟨b, o + off, none⟩)))) :: env) H) : JL c ops Q (⟨some d, .fieldAddr t x f, ty, pos, af, none⟩ :: l) env H := by
  simp only [Prod.mk.injEq] at h
  obtain ⟨h1, h2, h3, h4, h5⟩ := h
  exact jl_op (ow_fieldAddr h1 h2 h3 (nb h4) k) (nb h5)
theorem L_ {b o : Nat} {row : List C} {e : C} {bt : TypeId} [TI P t] (j : Nat) (h : (aggB (TI.u P t), env.ev x, pick [j] H, row[o]?, Nat.ble (d + 1) nt) = (false, some (.cell (.val (.pointer (some ⟨b, o, none⟩)))), some ([.blk b bt row], Hr), some e, true))
    (k : JL c ops Q l ((d, .cell e) :: env) H) : JL c ops Q (⟨some d, .load t x, ty, pos, af, none⟩ :: l) env H := by
  simp only [Prod.mk.injEq] at h
  obtain ⟨h1, h2, h3, h4, h5⟩ := h
  exact jl_op (ow_load j h1 h2 h3 h4 k) (nb h5)
theorem A_ {b : Nat} {row : List C} {bt : TypeId} [TI P t] (j : Nat) (h : (aggB (TI.u P t), env.ev x, pick [j] H, (TI.i P t).size, Nat.ble (d + 1) nt) = (true, some (.cell (.val (.pointer (some ⟨b, 0, none⟩)))), some ([.blk b bt row], Hr), row.length, true))
    (k : JL c ops Q l ((d, .row row) :: env) H) : JL c ops Q (⟨some d, .load t x, ty, pos, af, none⟩ :: l) env H := by
  simp only [Prod.mk.injEq] at h
  obtain ⟨h1, h2, h3, h4, h5⟩ := h
  exact jl_op (ow_loadAll j h1 h2 h3 h4 k) (nb h5)
theorem S_ {b : Nat} {row r : List C} {s : S} {bt : TypeId} [TI P t] (j : Nat) (h : (env.ev x, env.ev y, s.cells, pick [j] H, (TI.i P t).size, row.length) = (some (.cell (.val (.pointer (some ⟨b, 0, none⟩)))), some s, some r, some ([.blk b bt row], Hr), r.length, r.length))
    (k : JL c ops Q l env (.blk b bt r :: Hr)) : JL c ops Q (⟨none, .store t x y, ty, pos, af, none⟩ :: l) env H := by
  simp only [Prod.mk.injEq] at h
  obtain ⟨h1, h2, h3, h4, h5, h6⟩ := h
  exact jl_op0 (ow_storeAll j h1 h2 h3 h4 h5 h6 k)
theorem W_ {b o : Nat} {row : List C} {c1 : C} {bt : TypeId} [TI P t] (j : Nat) (h : (env.ev x, env.ev y, pick [j] H, (TI.i P t).size, Nat.ble (o + 1) row.length) = (some (.cell (.val (.pointer (some ⟨b, o, none⟩)))), some (.cell c1), some ([.blk b bt row], Hr), 1, true))
    (k : JL c ops Q l env (.blk b bt (row.set o c1) :: Hr)) : JL c ops Q (⟨none, .store t x y, ty, pos, af, none⟩ :: l) env H := by
  simp only [Prod.mk.injEq] at h
  obtain ⟨h1, h2, h3, h4, h5⟩ := h
  exact jl_op0 (ow_store1 j h1 h2 h3 h4 (nb h5) k)
theorem X_ {ss : List S} {i : Nat} {s : S} (h : (env.ev x, ss[i]?, Nat.ble (d + 1) nt) = (some (.tup ss), some s, true)) (k : JL c ops Q l ((d, s) :: env) H) : JL c ops Q (⟨some d, .extract x i, ty, pos, af, none⟩ :: l) env H := by
  simp only [Prod.mk.injEq] at h
  obtain ⟨h1, h2, h3⟩ := h
  exact jl_op (ow_extract h1 h2 k) (nb h3)
theorem R_ {id : Nat} {ls : List Oper} {z : Code} (h : JL c ls.toArray (Exit.then (fun a w => z.wp P Q a w) Q) ls env H) : JC c (.seq (.region id ls.toArray false) z) Q env H := jc_seq (jc_region h)
theorem T_ {z : Code} (h : JC c z Q env H) : JL c ops (Exit.then (fun a w => z.wp P Q a w) Q) [] env H := jl_nil (jq_then h)
theorem B_ {id : Nat} {z u : Code} (h : JC c u (Exit.inBlock id (Exit.then (fun a w => z.wp P Q a w) Q)) env H) : JC c (.seq (.block id u) z) Q env H := jc_seq (jc_block h)
end
section
variable {P : Program} [Gl P] {nt : Nat} {ops : Array Oper} {H : List Ch} {K : Env → Prop} {env : Env} {l : List Oper} {d : Nat} {ty t : TypeId} {pos : String} {af : Array Edge} {x y : Operand} {Hr : List Ch}
theorem yM_ {s : S} (h : (env.only (Oper.looksAt ops ⟨some d, .move x, ty, pos, af, none⟩)).ev x = some s) (k : AnyOk P nt ops H K l ((d, s) :: env)) : AnyOk P nt ops H K (⟨some d, .move x, ty, pos, af, none⟩ :: l) env := any_op (fun _ => ow_move h p_) k
theorem yE_ {s : S} (h : (env.only (Oper.looksAt ops ⟨some d, .assign x, ty, pos, af, none⟩)).ev x = some s) (k : AnyOk P nt ops H K l ((d, s) :: env)) : AnyOk P nt ops H K (⟨some d, .assign x, ty, pos, af, none⟩ :: l) env := any_op (fun _ => ow_assign h p_) k
theorem yN_ {b o : Nat} {sp : Option Nat} (h : (env.only (Oper.looksAt ops ⟨some d, .nilCheck x, ty, pos, af, none⟩)).ev x = some (.cell (.val (.pointer (some ⟨b, o, sp⟩))))) (k : AnyOk P nt ops H K l ((d, .cell (.val (.pointer (some ⟨b, o, sp⟩)))) :: env)) : AnyOk P nt ops H K (⟨some d, .nilCheck x, ty, pos, af, none⟩ :: l) env := any_op (fun _ => ow_nilCheck h p_) k
theorem yF_ {b o f off size : Nat} [TI P t] [TS P t] (h : (structB (TI.u P t), (env.only (Oper.looksAt ops ⟨some d, .fieldAddr t x f, ty, pos, af, none⟩)).ev x, (TS.pl P t)[f]?, Nat.ble 1 size) = (true, some (.cell (.val (.pointer (some ⟨b, o, none⟩)))), some (off, size), true))
    (k : AnyOk P nt ops H K l ((d, .cell (.val (.pointer (some ⟨b, o + off, none⟩)))) :: env)) : AnyOk P nt ops H K (⟨some d, .fieldAddr t x f, ty, pos, af, none⟩ :: l) env := by
  simp only [Prod.mk.injEq] at h
  obtain ⟨h1, h2, h3, h4⟩ := h
  exact any_op (fun _ => ow_fieldAddr h1 h2 h3 (nb h4) p_) k
theorem yL_ {b o : Nat} {row : List C} {e : C} {bt : TypeId} [TI P t] (j : Nat) (h : (aggB (TI.u P t), (env.only (Oper.looksAt ops ⟨some d, .load t x, ty, pos, af, none⟩)).ev x, pick [j] H, row[o]?) = (false, some (.cell (.val (.pointer (some ⟨b, o, none⟩)))), some ([.blk b bt row], Hr), some e))
    (k : AnyOk P nt ops H K l ((d, .cell e) :: env)) : AnyOk P nt ops H K (⟨some d, .load t x, ty, pos, af, none⟩ :: l) env := by
  simp only [Prod.mk.injEq] at h
  obtain ⟨h1, h2, h3, h4⟩ := h
  exact any_op (fun _ => ow_load j h1 h2 h3 h4 p_) k
end
abbrev aa_ := @any_op
abbrev ab_ := @any_guardY
abbrev ac_ := @any_guardN
abbrev ae_ := @any_nil
abbrev af_ := @any_alloc
abbrev ag_ := @jl_op0
abbrev ah_ := @jl_guardY
abbrev ai_ := @jl_guardN
abbrev aj_ := @jl_guardU
abbrev ak_ := @jl_nil
abbrev al_ := @jq_then
abbrev am_ := @jc_seq
abbrev an_ := @jc_region
abbrev ao_ := @jc_any
abbrev ap_ := @jc_condF
abbrev aq_ := @jc_condT
abbrev ar_ := @jc_ret
abbrev as_ := @jc_skip
abbrev au_ := @jc_block
abbrev av_ := @jc_exit
abbrev aw_ := @jq_then_ret
abbrev ax_ := @jq_then_exit
abbrev ay_ := @jq_block
abbrev az_ := @jq_block_ret
abbrev ba_ := @jq_block_exit
abbrev bb_ := @jq_block_other
abbrev bc_ := @sub_step
abbrev bd_ := @ow_move
abbrev be_ := @ow_assign
abbrev bf_ := @ow_fieldAddr
abbrev bg_ := @ow_load
abbrev bh_ := @ow_nilCheck
abbrev bi_ := @ow_call1
abbrev bj_ := @ow_add64
abbrev bl_ := @ow_alloc
abbrev bm_ := @ow_call0
abbrev bn_ := @ow_eql
abbrev bp_ := @ow_pickT
abbrev bq_ := @ow_buildSlice
abbrev br_ := @ow_len
abbrev bs_ := @ow_loadAll
abbrev bt_ := @ow_callP
abbrev bu_ := @ow_build
abbrev bv_ := @ow_pickF
abbrev bw_ := @ow_lss
abbrev bx_ := @ow_neq
abbrev bz_ := @ow_gtr
abbrev ca_ := @ow_store1
abbrev cb_ := @ow_loadPlace
abbrev cc_ := @ow_indexAddrMapE
abbrev cd_ := @ow_not
abbrev ce_ := @ow_notdec
abbrev cf_ := @ow_fieldAddrPlace
abbrev cg_ := @ow_sub64
abbrev ch_ := @ow_rem
abbrev ci_ := @ow_box
abbrev ck_ := @ow_max2
abbrev cl_ := @ow_min2
abbrev cn_ := @ow_geq
abbrev co_ := @ow_lenstr
abbrev cr_ := @ow_loadPlaceN
abbrev cs_ := @ow_streql
abbrev ct_ := @ow_strneq
abbrev cu_ := @ow_leq
abbrev cv_ := @ow_indexAddrMapI
abbrev cw_ := @ow_lenown
abbrev cy_ := @ow_neg64
abbrev cz_ := @ow_mul64
abbrev db_ := @ow_loadInn1
abbrev dc_ := @ow_indexOwn
abbrev dd_ := @ow_loadG
abbrev de_ := @ow_indexArr
abbrev df_ := @hp_take
abbrev dg_ := @hp_op
abbrev dh_ := @hp_op0
abbrev di_ := @ht_op
abbrev dj_ := @ht_op0
abbrev dk_ := @hok_move
abbrev dl_ := @hok_fieldAddr
abbrev dm_ := @hok_load
abbrev do_ := @hok_add
abbrev dr_ := @hok_nilCheck
end Go.Vc
end

section
namespace Go.Proofs.YtlniadfidfmckaaGreatDoor
open Go.Vc
attribute [local irreducible] JL JC JQ OpWp Con ConN

def isL (n : Int) : Bool := decide (97 ≤ n) && decide (n ≤ 122)
def isD (n : Int) : Bool := decide (48 ≤ n) && decide (n ≤ 57)
def isLD (n : Int) : Bool := isL n || isD n

theorem letter_c (n : Int) : Con Tryz.prog 115 [In .u8 n] [] (fun K => K (Bl (isL n)) []) := by
  by_cases h : (97 : Int) ≤ n
  · refine con_intro Tryz.func115 rfl rfl (Nat.le_of_ble_eq_true rfl) (fun c hc => R_ (E_ r_ (T_ (R_ (M_ r_ (o_ r_ (cn_ r_ r_ (M_ r_ (ah_ r_ u_ b_ (bd_ r_ (ah_ r_ u_ b_ (cu_ r_ r_ (o_ r_ (bp_ r_ u_ r_ (E_ r_ (T_ (ar_ (jq_ret1 rfl rfl [] rfl (fun K h' => by rw [show isL n = decide (n ≤ 122) by simp [isL, h]] at h'; exact h')))))))))))))))))))
  · refine con_intro Tryz.func115 rfl rfl (Nat.le_of_ble_eq_true rfl) (fun c hc => R_ (E_ r_ (T_ (R_ (M_ r_ (o_ r_ (cn_ r_ r_ (M_ r_ (ai_ r_ w_ b_ (ai_ r_ w_ b_ (o_ r_ (bv_ r_ w_ r_ (E_ r_ (T_ (ar_ (jq_ret1 rfl rfl [] rfl (fun K h' => by rw [show isL n = false by simp [isL, h]] at h'; exact h')))))))))))))))))
theorem digit_c (n : Int) : Con Tryz.prog 90 [In .u8 n] [] (fun K => K (Bl (isD n)) []) := by
  by_cases h : (48 : Int) ≤ n
  · refine con_intro Tryz.func90 rfl rfl (Nat.le_of_ble_eq_true rfl) (fun c hc => R_ (E_ r_ (T_ (R_ (M_ r_ (o_ r_ (cn_ r_ r_ (M_ r_ (ah_ r_ u_ b_ (bd_ r_ (ah_ r_ u_ b_ (cu_ r_ r_ (o_ r_ (bp_ r_ u_ r_ (E_ r_ (T_ (ar_ (jq_ret1 rfl rfl [] rfl (fun K h' => by rw [show isD n = decide (n ≤ 57) by simp [isD, h]] at h'; exact h')))))))))))))))))))
  · refine con_intro Tryz.func90 rfl rfl (Nat.le_of_ble_eq_true rfl) (fun c hc => R_ (E_ r_ (T_ (R_ (M_ r_ (o_ r_ (cn_ r_ r_ (M_ r_ (ai_ r_ w_ b_ (ai_ r_ w_ b_ (o_ r_ (bv_ r_ w_ r_ (E_ r_ (T_ (ar_ (jq_ret1 rfl rfl [] rfl (fun K h' => by rw [show isD n = false by simp [isD, h]] at h'; exact h')))))))))))))))))
theorem both_c (n : Int) : Con Tryz.prog 116 [In .u8 n] [] (fun K => K (Bl (isLD n)) []) := by
  cases h : isL n with
  | true =>
    refine con_intro Tryz.func116 rfl rfl (Nat.le_of_ble_eq_true rfl) (fun c hc => R_ (E_ r_ (T_ (R_ (M_ r_ (o_ r_ (bm_ r_ (letter_c _) (M_ r_ (ai_ r_ h_ b_ (ai_ r_ h_ b_ (o_ r_ (bp_ r_ h_ r_ (E_ r_ (T_ (ar_ (jq_ret1 rfl rfl [] rfl (fun K h' => by rw [show isLD n = true by simp [isLD, h]] at h'; exact h')))))))))))))))))
  | false =>
    refine con_intro Tryz.func116 rfl rfl (Nat.le_of_ble_eq_true rfl) (fun c hc => R_ (E_ r_ (T_ (R_ (M_ r_ (o_ r_ (bm_ r_ (letter_c _) (M_ r_ (ah_ r_ h_ b_ (bd_ r_ (ah_ r_ h_ b_ (bm_ r_ (digit_c _) (o_ r_ (bv_ r_ h_ r_ (E_ r_ (T_ (ar_ (jq_ret1 rfl rfl [] rfl (fun K h' => by rw [show isLD n = isD n by simp [isLD, h]] at h'; exact h')))))))))))))))))))

theorem run_c (p : Int → Bool) (f : FuncId) [FI Tryz.prog f] (hp : ∀ n, Con Tryz.prog f [In .u8 n] [] (fun K => K (Bl (p n)) [])) (s : ByteArray) (hs : s.size ≤ 1000000) :
    Con Tryz.prog 89 [Str s, .cell (.val (.func (.func f) #[] #[]))] [] (fun K => K (In .i64 (runLen p s : Int)) []) := by
  refine con_intro Tryz.func89 rfl rfl (Nat.le_of_ble_eq_true rfl) (fun c hc => R_ (E_ r_ (T_ (R_ (E_ r_ (T_ (B_ (jc_loopS [] (fun k : Nat => k ≤ s.size ∧ ∀ j, j < k → p (byteAt s j) = true) (fun k => [(0, Str s), (1, .cell (.val (.func (.func f) #[] #[]))), (5, In .i64 (k : Int))]) (fun _ => []) (fun k => s.size - k) 0 ⟨Nat.zero_le _, fun j h => by omega⟩ ?_ ?_ ?_))))))))
  · exact sub_end
  · (repeat (first | exact True.intro | refine ⟨rfl, ?_⟩))
  · rintro k ⟨hk, hall⟩
    by_cases hlt : (k : Int) < (s.size : Int)
    · refine am_ (R_ (M_ r_ (M_ r_ (o_ r_ (co_ r_ r_ (o_ r_ (bw_ r_ r_ (M_ r_ (ah_ r_ u_ b_ (bd_ r_ (ah_ r_ u_ b_ (bd_ r_ (ah_ r_ u_ b_ (bd_ r_ (ah_ r_ u_ b_ (ow_indexStr r_ r_ r_ g_ g_ (ah_ r_ u_ b_ (ow_callv0 r_ r_ (hp _) (o_ r_ (bp_ r_ u_ r_ (T_ (jc_cond rfl (fun hb => ?_) (fun hb => ?_)))))))))))))))))))))))
      · refine as_ (al_ (au_ (an_ (M_ r_ (o_ r_ (bj_ r_ r_ g_ (E_ r_ (ak_ (ay_ (jq_againS (k + 1) ⟨by omega, fun j hj => ?_⟩ g_ ?_ ?_))))))))))
        · by_cases hjk : j < k
          · exact hall j hjk
          · obtain rfl : j = k := by omega
            exact hb
        · exact sub_end
        · (repeat (first | exact True.intro | refine ⟨rfl, ?_⟩))
      · refine av_ (ax_ (ax_ (ba_ (al_ (R_ (M_ r_ (E_ r_ (T_ (ar_ ?_)))))))))
        have e : runLen p s = k := runLen_eq hall hk (fun _ => hb)
        refine jq_ret1 rfl rfl [] rfl (fun K h => by rw [e] at h; exact h)
    · refine am_ (R_ (M_ r_ (M_ r_ (o_ r_ (co_ r_ r_ (o_ r_ (bw_ r_ r_ (M_ r_ (ai_ r_ w_ b_ (ai_ r_ w_ b_ (ai_ r_ w_ b_ (ai_ r_ w_ b_ (ai_ r_ w_ b_ (o_ r_ (bv_ r_ w_ r_ (T_ (jc_cond rfl (fun h => by cases h) (fun _ => av_ ?_))))))))))))))))))
      refine ax_ (ax_ (ba_ (al_ (R_ (M_ r_ (E_ r_ (T_ (ar_ ?_))))))))
      have e : runLen p s = k := runLen_eq hall hk (fun h => by omega)
      refine jq_ret1 rfl rfl [] rfl (fun K h => by rw [e] at h; exact h)

/-- How many bytes a name has at the beginning. -/
def nameLen (s : ByteArray) : Nat := if 0 < s.size ∧ isL (byteAt s 0) = true then runLen isLD s else 0
theorem name_c (s : ByteArray) (hs : s.size ≤ 1000000) : Con Tryz.prog 88 [Str s] [] (fun K => K (In .i64 (nameLen s : Int)) []) := by
  refine con_intro Tryz.func88 rfl rfl (Nat.le_of_ble_eq_true rfl) (fun c hc => R_ (E_ r_ (T_ (am_ (am_ (jc_cut (ι := Bool) [] (fun b => b = !(decide (0 < s.size) && isL (byteAt s 0))) (fun b => [(0, Str s), (10, Bl b)]) (fun _ => []) ?_ ?_))))))
  · by_cases h0 : s = ⟨#[]⟩
    · refine an_ (M_ r_ (o_ r_ (cs_ r_ r_ (M_ r_ (ai_ r_ u_ b_ (ai_ r_ u_ b_ (ai_ r_ u_ b_ (ai_ r_ u_ b_ (o_ r_ (bp_ r_ u_ r_ (ak_ (jq_cutS true ?_ ?_ ?_))))))))))))
      · rw [h0]; rfl
      · exact sub_end
      · (repeat (first | exact True.intro | refine ⟨rfl, ?_⟩))
    · have hpos : 0 < s.size := by
        rcases Nat.eq_zero_or_pos s.size with h | h
        · exact absurd (by cases s; rename_i d; have : d = #[] := Array.eq_empty_of_size_eq_zero h; rw [this]) h0
        · exact h
      refine an_ (M_ r_ (o_ r_ (cs_ r_ r_ (M_ r_ (ah_ r_ w_ b_ (bd_ r_ (ah_ r_ w_ b_ (ow_indexStr r_ r_ r_ g_ g_ (ah_ r_ w_ b_ (bm_ r_ (letter_c _) (ah_ r_ w_ b_ (cd_ r_ (o_ r_ (bv_ r_ w_ r_ (ak_ (jq_cutS (!isL (byteAt s 0)) (by simp [hpos]) ?_ ?_))))))))))))))))
      · exact sub_end
      · (repeat (first | exact True.intro | refine ⟨rfl, ?_⟩))
  · intro b hb
    refine jc_cond rfl (fun h => ?_) (fun h => ?_)
    · refine R_ (E_ r_ (T_ (ar_ (aw_ ?_))))
      have e : nameLen s = 0 := by
        unfold nameLen
        rw [if_neg]
        rintro ⟨h1, h2⟩
        rw [hb] at h
        simp [h1, h2] at h
      refine jq_ret1 rfl rfl [] rfl (fun K h => by rw [e] at h; exact h)
    · refine as_ (al_ (R_ (M_ r_ (o_ r_ (bm_ r_ (run_c isLD _ both_c s hs) (E_ r_ (T_ (ar_ ?_))))))))
      have e : nameLen s = runLen isLD s := by
        unfold nameLen
        rw [if_pos]
        rw [hb] at h
        simpa using h
      refine jq_ret1 rfl rfl [] rfl (fun K h => by rw [e] at h; exact h)

/-- The number that digits say; 2^31 if it is that or more. -/
def numVal (l : List Int) : Int := l.foldl (fun n c => min (10 * n + (c - 48)) 2147483648) 0
/-- All signs. -/
def SG : List ByteArray := [⟨#[43]⟩, ⟨#[45]⟩, ⟨#[42]⟩, ⟨#[47]⟩, ⟨#[37]⟩, ⟨#[38]⟩, ⟨#[124]⟩, ⟨#[94]⟩, ⟨#[60, 60]⟩, ⟨#[62, 62]⟩, ⟨#[60]⟩, ⟨#[60, 61]⟩, ⟨#[61, 61]⟩, ⟨#[33, 61]⟩, ⟨#[61]⟩, ⟨#[40]⟩, ⟨#[41]⟩, ⟨#[91]⟩, ⟨#[93]⟩, ⟨#[123]⟩, ⟨#[125]⟩]
/-- How many bytes a sign has at the beginning. -/
def signLen (s : ByteArray) : Nat := if 2 ≤ s.size ∧ hasS SG (s.extract 0 2) = true then 2 else if 1 ≤ s.size ∧ hasS SG (s.extract 0 1) = true then 1 else 0
end Go.Proofs.YtlniadfidfmckaaGreatDoor
end

section
namespace Go.Proofs.YtlniadfidfmckaaGreatDoor
open Go.Vc
attribute [local irreducible] JL JC JQ OpWp Con ConN

/-- A token's row. -/
def tokC (k v l : Int) (t : ByteArray) : List C := [.val (.int .i64 k), .val (.int .i64 v), .val (.int .i64 l), .val (.string t)]
/-- The token at the beginning (kind, number, text) and its length. -/
def nextT (s : ByteArray) : (Int × Int × ByteArray) × Nat :=
  if 0 < nameLen s then (if 12 < nameLen s then ((0, 0, ⟨#[]⟩), 0) else ((1, 0, s.extract 0 (nameLen s)), nameLen s))
  else if 0 < runLen isD s then (if 2147483647 < numVal (bytesI (s.extract 0 (runLen isD s))) then ((0, 0, ⟨#[]⟩), 0) else ((2, numVal (bytesI (s.extract 0 (runLen isD s))), ⟨#[]⟩), runLen isD s))
  else ((3, 0, s.extract 0 (signLen s)), signLen s)
end Go.Proofs.YtlniadfidfmckaaGreatDoor
end

section
namespace Go.Proofs.YtlniadfidfmckaaGreatDoor
open Go.Vc
attribute [local irreducible] JL JC JQ OpWp Con ConN

/-- A token: kind, number, line, text. -/
structure Tok where
  kind : Int
  num : Int
  line : Int
  text : ByteArray
def Tok.row (t : Tok) : List C := tokC t.kind t.num t.line t.text
/-- The rest of a scan. -/
def scanGo (s : ByteArray) (at_ : Nat) (line : Int) (out : List Tok) : List Tok × Int × Int :=
  if h : at_ < s.size then
    if byteAt s at_ = 10 then scanGo s (at_ + 1) (line + 1) out
    else if byteAt s at_ = 32 ∨ byteAt s at_ = 9 then scanGo s (at_ + 1) line out
    else if hn : (nextT (s.extract at_ s.size)).2 = 0 then ([], line, 1)
    else scanGo s (at_ + (nextT (s.extract at_ s.size)).2) line (out ++ [⟨(nextT (s.extract at_ s.size)).1.1, (nextT (s.extract at_ s.size)).1.2.1, line, (nextT (s.extract at_ s.size)).1.2.2⟩])
  else (out, 0, 0)
termination_by s.size - at_
decreasing_by all_goals omega
def scan (s : ByteArray) : List Tok × Int × Int := if 8192 < s.size then ([], 0, 4) else scanGo s 0 1 []
attribute [local irreducible] nextT scan byteAt
end Go.Proofs.YtlniadfidfmckaaGreatDoor
end

section
namespace Go.Proofs.YtlniadfidfmckaaGreatDoor
open Go.Vc
attribute [local irreducible] JL JC JQ OpWp Con ConN

/-- Whether a text is a name. -/
def isName (s : ByteArray) : Bool := decide (0 < s.size) && decide (s.size ≤ 12) && decide (nameLen s = s.size)
theorem empty_iff (s : ByteArray) : s = ⟨#[]⟩ ↔ s.size = 0 := by
  constructor
  · rintro rfl; rfl
  · intro h; cases s; rename_i d; have : d = #[] := Array.eq_empty_of_size_eq_zero h; rw [this]
theorem Name_c (s : ByteArray) : Con Tryz.prog 73 [Str s] [] (fun K => K (Bl (isName s)) []) := by
  refine con_intro Tryz.func73 rfl rfl (Nat.le_of_ble_eq_true rfl) (fun c hc => ?_)
  by_cases h0 : s = ⟨#[]⟩
  · have e : isName s = false := by simp [isName, (empty_iff s).1 h0]
    have h0n : ¬ ¬ s = ⟨#[]⟩ := fun h => h h0
    refine R_ (E_ r_ (T_ (R_ (M_ r_ (o_ r_ (ct_ r_ r_ (M_ r_ (ai_ r_ w_ b_ (ai_ r_ w_ b_ (ai_ r_ w_ b_ (o_ r_ (bv_ r_ w_ r_ (M_ r_ (ai_ r_ r_ b_ (ai_ r_ r_ b_ (ai_ r_ r_ b_ (ai_ r_ r_ b_ ?_)))))))))))))))))
    refine ai_ r_ r_ b_ (o_ r_ (bv_ r_ r_ r_ (E_ r_ (T_ (ar_ (jq_ret1 rfl rfl [] rfl (fun K h => by rw [e] at h; exact h)))))))
  · have hp : 0 < s.size := by have := mt (empty_iff s).2 h0; omega
    by_cases h12 : (s.size : Int) ≤ 12
    · have e : isName s = decide ((nameLen s : Int) = (s.size : Int)) := by
        unfold isName
        rw [decide_eq_true hp, decide_eq_true (show s.size ≤ 12 by omega)]
        simp only [Bool.true_and, Int.ofNat_inj]
      refine R_ (E_ r_ (T_ (R_ (M_ r_ (o_ r_ (ct_ r_ r_ (M_ r_ (ah_ r_ u_ b_ (bd_ r_ (ah_ r_ u_ b_ (co_ r_ r_ (ah_ r_ u_ b_ (cu_ r_ r_ (o_ r_ (bp_ r_ u_ r_ (M_ r_ (ah_ r_ u_ b_ (bd_ r_ (ah_ r_ u_ b_ (bm_ r_ (name_c s g_) (ah_ r_ u_ b_ (bd_ r_ (ah_ r_ u_ b_ (co_ r_ r_ ?_))))))))))))))))))))))))
      refine ah_ r_ u_ b_ (bn_ r_ r_ (o_ r_ (bp_ r_ u_ r_ (E_ r_ (T_ (ar_ (jq_ret1 rfl rfl [] rfl (fun K h => by rw [e] at h; exact h))))))))
    · have e : isName s = false := by
        unfold isName
        rw [decide_eq_false (show ¬ s.size ≤ 12 by omega)]
        simp
      refine R_ (E_ r_ (T_ (R_ (M_ r_ (o_ r_ (ct_ r_ r_ (M_ r_ (ah_ r_ u_ b_ (bd_ r_ (ah_ r_ u_ b_ (co_ r_ r_ (ah_ r_ u_ b_ (cu_ r_ r_ (o_ r_ (bp_ r_ u_ r_ (M_ r_ (ai_ r_ w_ b_ (ai_ r_ w_ b_ (ai_ r_ w_ b_ (ai_ r_ w_ b_ ?_))))))))))))))))))))
      refine ai_ r_ w_ b_ (o_ r_ (bv_ r_ w_ r_ (E_ r_ (T_ (ar_ (jq_ret1 rfl rfl [] rfl (fun K h => by rw [e] at h; exact h)))))))

theorem rletter_c (n : Int) : Con Tryz.prog 111 [In .u8 n] [] (fun K => K (Bl (isL n)) []) := by
  by_cases h : (97 : Int) ≤ n
  · refine con_intro Tryz.func111 rfl rfl (Nat.le_of_ble_eq_true rfl) (fun c hc => R_ (E_ r_ (T_ (R_ (M_ r_ (o_ r_ (cn_ r_ r_ (M_ r_ (ah_ r_ u_ b_ (bd_ r_ (ah_ r_ u_ b_ (cu_ r_ r_ (o_ r_ (bp_ r_ u_ r_ (E_ r_ (T_ (ar_ (jq_ret1 rfl rfl [] rfl (fun K h' => by rw [show isL n = decide (n ≤ 122) by simp [isL, h]] at h'; exact h')))))))))))))))))))
  · refine con_intro Tryz.func111 rfl rfl (Nat.le_of_ble_eq_true rfl) (fun c hc => R_ (E_ r_ (T_ (R_ (M_ r_ (o_ r_ (cn_ r_ r_ (M_ r_ (ai_ r_ w_ b_ (ai_ r_ w_ b_ (o_ r_ (bv_ r_ w_ r_ (E_ r_ (T_ (ar_ (jq_ret1 rfl rfl [] rfl (fun K h' => by rw [show isL n = false by simp [isL, h]] at h'; exact h')))))))))))))))))
theorem rdigit_c (n : Int) : Con Tryz.prog 112 [In .u8 n] [] (fun K => K (Bl (isD n)) []) := by
  by_cases h : (48 : Int) ≤ n
  · refine con_intro Tryz.func112 rfl rfl (Nat.le_of_ble_eq_true rfl) (fun c hc => R_ (E_ r_ (T_ (R_ (M_ r_ (o_ r_ (cn_ r_ r_ (M_ r_ (ah_ r_ u_ b_ (bd_ r_ (ah_ r_ u_ b_ (cu_ r_ r_ (o_ r_ (bp_ r_ u_ r_ (E_ r_ (T_ (ar_ (jq_ret1 rfl rfl [] rfl (fun K h' => by rw [show isD n = decide (n ≤ 57) by simp [isD, h]] at h'; exact h')))))))))))))))))))
  · refine con_intro Tryz.func112 rfl rfl (Nat.le_of_ble_eq_true rfl) (fun c hc => R_ (E_ r_ (T_ (R_ (M_ r_ (o_ r_ (cn_ r_ r_ (M_ r_ (ai_ r_ w_ b_ (ai_ r_ w_ b_ (o_ r_ (bv_ r_ w_ r_ (E_ r_ (T_ (ar_ (jq_ret1 rfl rfl [] rfl (fun K h' => by rw [show isD n = false by simp [isD, h]] at h'; exact h')))))))))))))))))
end Go.Proofs.YtlniadfidfmckaaGreatDoor
end

section
namespace Go.Proofs.YtlniadfidfmckaaGreatDoor
open Go.Vc
attribute [local irreducible] JL JC JQ OpWp Con ConN

/-- All signs, longer ones first. -/
def SL2 : List ByteArray := [⟨#[60, 60]⟩, ⟨#[62, 62]⟩, ⟨#[60, 61]⟩, ⟨#[61, 61]⟩, ⟨#[33, 61]⟩]
def SL1 : List ByteArray := [⟨#[43]⟩, ⟨#[45]⟩, ⟨#[42]⟩, ⟨#[47]⟩, ⟨#[37]⟩, ⟨#[38]⟩, ⟨#[124]⟩, ⟨#[94]⟩, ⟨#[60]⟩, ⟨#[61]⟩, ⟨#[40]⟩, ⟨#[41]⟩, ⟨#[91]⟩, ⟨#[93]⟩, ⟨#[123]⟩, ⟨#[125]⟩]
/-- Whether a text begins with another. -/
def begins (s t : ByteArray) : Bool := decide (t.size ≤ s.size) && decide (s.extract 0 t.size = t)
def rsign (s : ByteArray) : ByteArray := ((SL2 ++ SL1).find? (begins s)).getD ⟨#[]⟩
end Go.Proofs.YtlniadfidfmckaaGreatDoor
end

section
namespace Go.Proofs.YtlniadfidfmckaaGreatDoor
open Go.Vc
attribute [local irreducible] JL JC JQ OpWp Con ConN

end Go.Proofs.YtlniadfidfmckaaGreatDoor
end

section
namespace Go.Proofs.YtlniadfidfmckaaGreatDoor
open Go.Vc
attribute [local irreducible] JL JC JQ OpWp Con ConN
attribute [local irreducible] nextT scan byteAt rsign runLen nameLen signLen numVal

end Go.Proofs.YtlniadfidfmckaaGreatDoor
end

section
namespace Go.Proofs.YtlniadfidfmckaaGreatDoor
open Go.Vc
attribute [local irreducible] JL JC JQ OpWp Con ConN
set_option maxHeartbeats 4000000

end Go.Proofs.YtlniadfidfmckaaGreatDoor
end

section
namespace Go.Proofs.YtlniadfidfmckaaGreatDoor
open Go.Vc
attribute [local irreducible] JL JC JQ OpWp Con ConN

end Go.Proofs.YtlniadfidfmckaaGreatDoor
end

section
namespace Go.Proofs.YtlniadfidfmckaaGreatDoor
open Go.Vc
attribute [local irreducible] JL JC JQ OpWp Con ConN
attribute [local irreducible] nextT scan byteAt rsign runLen signLen numVal isL isD

theorem isName_eq {s : ByteArray} (h0 : 0 < s.size) (h12 : s.size ≤ 12) (hl : isL (byteAt s 0) = true) : isName s = decide (runLen isLD s = s.size) := by
  unfold isName nameLen
  rw [decide_eq_true h0, decide_eq_true h12, if_pos ⟨h0, hl⟩]
  rfl
theorem rName_c (s : ByteArray) : Con Tryz.prog 82 [Str s] [] (fun K => K (Bl (isName s)) []) := by
  refine con_intro Tryz.func82 rfl rfl (Nat.le_of_ble_eq_true rfl) (fun c hc => ?_)
  by_cases h1 : (s.size : Int) < 1
  · have e : isName s = false := by unfold isName; rw [decide_eq_false (by omega)]; rfl
    refine R_ (E_ r_ (T_ (am_ (R_ (M_ r_ (o_ r_ (co_ r_ r_ (o_ r_ (bw_ r_ r_ (M_ r_ (ai_ r_ u_ b_ (ai_ r_ u_ b_ (ai_ r_ u_ b_ (o_ r_ (bp_ r_ u_ r_ (M_ r_ (ai_ r_ r_ b_ (ai_ r_ r_ b_ ?_))))))))))))))))))
    refine ai_ r_ r_ b_ (ai_ r_ r_ b_ (o_ r_ (bp_ r_ r_ r_ (T_ (jc_cond rfl (fun _ => R_ (E_ r_ (T_ (ar_ (aw_ (jq_ret1 rfl rfl [] rfl (fun K h => by rw [e] at h; exact h))))))) (fun h => by cases h))))))
  · by_cases h2 : (12 : Int) < (s.size : Int)
    · have e : isName s = false := by unfold isName; rw [decide_eq_false (show ¬ s.size ≤ 12 by omega), Bool.and_false]; rfl
      refine R_ (E_ r_ (T_ (am_ (R_ (M_ r_ (o_ r_ (co_ r_ r_ (o_ r_ (bw_ r_ r_ (M_ r_ (ah_ r_ w_ b_ (bd_ r_ (ah_ r_ w_ b_ (co_ r_ r_ (ah_ r_ w_ b_ (bz_ r_ r_ (o_ r_ (bv_ r_ w_ r_ (M_ r_ (ai_ r_ u_ b_ (ai_ r_ u_ b_ ?_)))))))))))))))))))))
      refine ai_ r_ u_ b_ (ai_ r_ u_ b_ (o_ r_ (bp_ r_ u_ r_ (T_ (jc_cond rfl (fun _ => R_ (E_ r_ (T_ (ar_ (aw_ (jq_ret1 rfl rfl [] rfl (fun K h => by rw [e] at h; exact h))))))) (fun h => by cases h))))))
    · refine R_ (E_ r_ (T_ (am_ (R_ (M_ r_ (o_ r_ (co_ r_ r_ (o_ r_ (bw_ r_ r_ (M_ r_ (ah_ r_ w_ b_ (bd_ r_ (ah_ r_ w_ b_ (co_ r_ r_ (ah_ r_ w_ b_ (bz_ r_ r_ (o_ r_ (bv_ r_ w_ r_ (M_ r_ (ah_ r_ w_ b_ (bd_ r_ (ah_ r_ w_ b_ (ow_indexStr r_ r_ r_ g_ g_ ?_)))))))))))))))))))))))
      refine ah_ r_ w_ b_ (bm_ r_ (rletter_c _) (ah_ r_ w_ b_ (cd_ r_ (o_ r_ (bv_ r_ w_ r_ (T_ (jc_cond rfl (fun hb => ?_) (fun hb => ?_))))))))
      · have hl : isL (byteAt s 0) = false := by simpa using hb
        have e : isName s = false := by
          unfold isName nameLen
          rw [if_neg (fun h => by rw [hl] at h; cases h.2), decide_eq_false (show ¬ 0 = s.size by omega), Bool.and_false]
        refine R_ (E_ r_ (T_ (ar_ (aw_ (jq_ret1 rfl rfl [] rfl (fun K h => by rw [e] at h; exact h))))))
      · have hl : isL (byteAt s 0) = true := by simpa using hb
        have e := isName_eq (s := s) (by omega) (by omega) hl
        refine as_ (al_ (am_ (R_ (E_ r_ (T_ (au_ (jc_loopS [] (fun k : Nat => k ≤ s.size ∧ ∀ j, j < k → isLD (byteAt s j) = true) (fun k => [(0, Str s), (3, In .i64 (k : Int))]) (fun _ => []) (fun k => s.size - k) 0 ⟨Nat.zero_le _, fun j h => by omega⟩ ?_ ?_ ?_)))))))
        · exact sub_end
        · (repeat (first | exact True.intro | refine ⟨rfl, ?_⟩))
        · rintro k ⟨hk, hall⟩
          refine am_ (R_ (M_ r_ (M_ r_ (o_ r_ (co_ r_ r_ (o_ r_ (bw_ r_ r_ (T_ (jc_condd rfl (fun hlt => ?_) (fun hge => ?_))))))))))
          · have hlt' : k < s.size := by omega
            cases hl0 : isL (byteAt s (k : Int).toNat) with
            | true =>
              have hn0 : (!isL (byteAt s (k : Int).toNat)) = false := by rw [hl0]; rfl
              refine as_ (al_ (B_ (R_ (M_ r_ (M_ r_ (o_ r_ (ow_indexStr r_ r_ r_ g_ g_ (o_ r_ (bm_ r_ (rletter_c _) (o_ r_ (cd_ r_ (M_ r_ (ai_ r_ h_ b_ (ai_ r_ h_ b_ (ai_ r_ h_ b_ (ai_ r_ h_ b_ (ai_ r_ h_ b_ (o_ r_ (bv_ r_ h_ r_ ?_)))))))))))))))))))
              refine T_ (jc_cond rfl (fun h => by cases h) (fun _ => as_ (ay_ (al_ (an_ (M_ r_ (o_ r_ (bj_ r_ r_ g_ (E_ r_ (ak_ (jq_againS (k + 1) ⟨by omega, fun i hi => ?_⟩ g_ ?_ ?_)))))))))))
              · by_cases hik : i < k
                · exact hall i hik
                · obtain rfl : i = k := by omega
                  unfold isLD
                  rw [show isL (byteAt s i) = true from hl0]; rfl
              · exact sub_end
              · (repeat (first | exact True.intro | refine ⟨rfl, ?_⟩))
            | false =>
              have hn0 : (!isL (byteAt s (k : Int).toNat)) = true := by rw [hl0]; rfl
              refine as_ (al_ (B_ (R_ (M_ r_ (M_ r_ (o_ r_ (ow_indexStr r_ r_ r_ g_ g_ (o_ r_ (bm_ r_ (rletter_c _) (o_ r_ (cd_ r_ (M_ r_ (ah_ r_ h_ b_ (bd_ r_ (ah_ r_ h_ b_ (bd_ r_ (ah_ r_ h_ b_ (ow_indexStr r_ r_ r_ g_ g_ (ah_ r_ h_ b_ (bm_ r_ (rdigit_c _) (ah_ r_ h_ b_ (cd_ r_ (o_ r_ (bp_ r_ h_ r_ ?_))))))))))))))))))))))))
              refine T_ (jc_cond rfl (fun hd => ?_) (fun hd => ?_))
              · have hd' : isD (byteAt s k) = false := by simpa using hd
                have hf : isLD (byteAt s k) = false := by unfold isLD; rw [show isL (byteAt s k) = false from hl0, hd']; rfl
                have hr : runLen isLD s = k := runLen_eq hall hk (fun _ => hf)
                have e2 : isName s = false := by rw [e, hr]; exact decide_eq_false (by omega)
                refine R_ (E_ r_ (T_ (ar_ (az_ (aw_ (aw_ (az_ (aw_ (jq_ret1 rfl rfl [] rfl (fun K h => by rw [e2] at h; exact h))))))))))
              · have hd' : isD (byteAt s k) = true := by simpa using hd
                refine as_ (ay_ (al_ (an_ (M_ r_ (o_ r_ (bj_ r_ r_ g_ (E_ r_ (ak_ (jq_againS (k + 1) ⟨by omega, fun i hi => ?_⟩ g_ ?_ ?_)))))))))
                · by_cases hik : i < k
                  · exact hall i hik
                  · obtain rfl : i = k := by omega
                    unfold isLD
                    rw [hd', Bool.or_true]
                · exact sub_end
                · (repeat (first | exact True.intro | refine ⟨rfl, ?_⟩))
          · have hr : runLen isLD s = s.size := runLen_eq (fun j hj => hall j (by omega)) (Nat.le_refl _) (fun h => by omega)
            have e2 : isName s = true := by rw [e, hr]; exact decide_eq_true rfl
            refine av_ (ax_ (ax_ (ba_ (al_ (R_ (E_ r_ (T_ (ar_ (jq_ret1 rfl rfl [] rfl (fun K h => by rw [e2] at h; exact h))))))))))

/-- The decimal digits of a number, as a text. -/
def decS (u : Nat) : ByteArray := ⟨(Lib.decDigits u).toArray⟩
theorem nDigits_le : ∀ (k u : Nat), 1 ≤ k → u < 10 ^ k → Lib.nDigits u ≤ k
  | 0, _, h, _ => by omega
  | k + 1, u, _, h => by
    by_cases hu : u < 10
    · rw [Lib.nDigits_small hu]; omega
    · rw [Lib.nDigits_big hu]
      have hk : 1 ≤ k := by
        rcases Nat.eq_zero_or_pos k with rfl | h'
        · omega
        · exact h'
      have := nDigits_le k (u / 10) hk (by rw [Nat.pow_succ] at h; omega)
      omega
theorem decS_size (u : Nat) : (decS u).size = Lib.nDigits u := by
  rw [← Lib.decDigits_length]
  simp [decS, ByteArray.size]
theorem decS_le (u : Nat) (h : u ≤ 2147483647) : (decS u).size ≤ 10 := by
  rw [decS_size]
  exact nDigits_le 10 u g_ g_
theorem decS_small (u : Nat) (h : u < 10) : decS u = bytesOf [48 + (u : Int)] := by
  unfold decS
  rw [Lib.decDigits, dif_pos h]
  show _ = ByteArray.empty.push (UInt8.ofNat (48 + (u : Int)).toNat)
  rw [show (48 + (u : Int)).toNat = 48 + u by omega]
  rfl
theorem decS_big (u : Nat) (h : ¬ u < 10) : decS u = decS (u / 10) ++ bytesOf [48 + (u : Int) % 10] := by
  unfold decS
  rw [Lib.decDigits, dif_neg h]
  show _ = _ ++ ByteArray.empty.push (UInt8.ofNat (48 + (u : Int) % 10).toNat)
  rw [show (48 + (u : Int) % 10).toNat = 48 + u % 10 by omega]
  apply ByteArray.ext
  simp
attribute [local irreducible] decS

theorem Decimal_c (u : Nat) (hu : u ≤ 2147483647) : Con Tryz.prog 57 [In .i64 (u : Int)] [] (fun K => K (Str (decS u)) []) := by
  induction u using Nat.strongRecOn with
  | _ u ih =>
    refine con_intro Tryz.func57 rfl rfl (Nat.le_of_ble_eq_true rfl) (fun c hc => R_ (E_ r_ (T_ (am_ (R_ (M_ r_ (o_ r_ (bw_ r_ r_ (T_ (jc_condd rfl (fun hlt => ?_) (fun hge => ?_)))))))))))
    · have e := decS_small u (by omega)
      refine R_ (M_ r_ (o_ r_ (bj_ r_ r_ g_ (o_ r_ (ow_convU8 r_ r_ r_ g_ (o_ r_ (bq_ r_ r_ b_ r_ r_ b_ (o_ r_ (ow_bytesToString (l := [_]) r_ r_ r_ (E_ r_ (T_ (ar_ (aw_ (jq_ret1 rfl rfl [] rfl (fun K h => by rw [e] at h; exact h)))))))))))))))
    · have e := decS_big u (by omega)
      have h0 := ih (u / 10) (by omega) (by omega)
      rw [show ((u / 10 : Nat) : Int) = (u : Int) / 10 by omega] at h0
      have h1 := decS_le (u / 10) (by omega)
      have h2 : (bytesOf [48 + (u : Int) % 10]).size = 1 := rfl
      refine as_ (al_ (am_ (ao_ r_ r_ k_ k_ (yM_ r_ (aa_ (fun c => ow_quo64 r_ r_ g_ g_ p_) (aa_ (fun c => bm_ r_ (h0) p_) (yM_ r_ (aa_ (fun c => ow_rem64 r_ r_ g_ g_ p_) (aa_ (fun c => bj_ r_ r_ g_ p_) (aa_ (fun c => ow_convU8 r_ r_ r_ g_ p_) (aa_ (fun c => bq_ r_ r_ b_ r_ r_ b_ p_) (aa_ (fun c => ow_bytesToString (l := [_]) r_ r_ r_ p_) (aa_ (fun c => ow_strcat r_ r_ g_ p_) (yE_ r_ (ae_ ?_)))))))))))))))
      refine al_ (ar_ (jq_ret1 rfl rfl [] rfl (fun K h => by rw [e] at h; exact h)))
end Go.Proofs.YtlniadfidfmckaaGreatDoor
end

section
namespace Go.Proofs.YtlniadfidfmckaaGreatDoor
open Go.Vc
attribute [local irreducible] JL JC JQ OpWp Con ConN
set_option maxHeartbeats 4000000

inductive T where
  | nu (n : Int)
  | nm (s : ByteArray)
  | ix (s : ByteArray) (t : T)
  | bn (o : Int) (a b : T)
def T.kind : T → Int
  | .nu _ => 1
  | .nm _ => 2
  | .ix _ _ => 3
  | .bn _ _ _ => 4
def T.num : T → Int
  | .nu n => n
  | _ => 0
def T.name : T → ByteArray
  | .nm s => s
  | .ix s _ => s
  | _ => ⟨#[]⟩
def T.op : T → Int
  | .bn o _ _ => o
  | _ => 0
def T.args : T → List T
  | .ix _ t => [t]
  | .bn _ a b => [a, b]
  | _ => []
def T.row : T → List C
  | .nu n => [.val (.int .i64 1), .val (.int .i64 n), .val (.string ⟨#[]⟩), .val (.int .i64 0), .list []]
  | .nm s => [.val (.int .i64 2), .val (.int .i64 0), .val (.string s), .val (.int .i64 0), .list []]
  | .ix s t => [.val (.int .i64 3), .val (.int .i64 0), .val (.string s), .val (.int .i64 0), .list [t.row]]
  | .bn o a b => [.val (.int .i64 4), .val (.int .i64 0), .val (.string ⟨#[]⟩), .val (.int .i64 o), .list [a.row, b.row]]
abbrev T.row' (t : T) : List C := [.val (.int .i64 t.kind), .val (.int .i64 t.num), .val (.string t.name), .val (.int .i64 t.op), .list (t.args.map T.row)]
theorem T.row_eq (t : T) : t.row = t.row' := by cases t <;> rfl
def T.dep : T → Nat
  | .nu _ => 1
  | .nm _ => 1
  | .ix _ t => t.dep + 1
  | .bn _ a b => max a.dep b.dep + 1
theorem T.dep_args (t : T) : t.dep = (t.args.map T.dep).foldl max 0 + 1 := by cases t <;> simp [T.dep, T.args]
/-- The greatest of the first depths, each at most one more than a limit. -/
def mx (f : T → Nat) (l : List T) : Nat := l.foldl (fun m t => max m (f t)) 0
theorem mx_snoc (f : T → Nat) (l : List T) (t : T) : mx f (l ++ [t]) = max (mx f l) (f t) := by simp [mx]
def dl : Nat → T → Nat
  | 0, _ => 1
  | L + 1, t => mx (dl L) t.args + 1
theorem dl_eq : ∀ (L : Nat) (t : T), dl L t = min t.dep (L + 1)
  | 0, t => by have : 1 ≤ t.dep := by rw [T.dep_args]; omega
               simp only [dl]; omega
  | L + 1, t => by
    have h := dl_eq L
    cases t <;> simp only [dl, T.args, mx, List.foldl_nil, List.foldl_cons, T.dep, h] <;> omega
theorem dl_le (L : Nat) (t : T) : dl L t ≤ L + 1 := by rw [dl_eq]; omega
theorem mx_le {f : T → Nat} {B : Nat} (h : ∀ t, f t ≤ B) : ∀ l : List T, mx f l ≤ B := by
  intro l
  unfold mx
  have : ∀ (l : List T) (m : Nat), m ≤ B → l.foldl (fun m t => max m (f t)) m ≤ B := by
    intro l
    induction l with
    | nil => intro m hm; exact hm
    | cons t l ih => intro m hm; exact ih _ (by have := h t; show max m (f t) ≤ B; omega)
  exact this l 0 (Nat.zero_le _)
theorem Depth_c : ∀ (L : Nat) (t : T), L ≤ 1000 → Con Tryz.prog 35 [.row t.row', In .i64 (L : Int)] [] (fun K => K (In .i64 (dl L t : Int)) []) := by
  intro L
  induction L with
  | zero =>
    intro t _
    refine con_intro Tryz.func35 rfl rfl (Nat.le_of_ble_eq_true rfl) (fun c hc => R_ (o_ r_ (ci_ r_ (fun bx => E_ r_ (T_ (R_ (E_ r_ (T_ (am_ (R_ (M_ r_ (o_ r_ (bz_ r_ r_ (T_ (jc_condd rfl (fun h => by omega) (fun _ => as_ (al_ ?_)))))))))))))))))
    refine R_ (M_ r_ (o_ r_ (bj_ r_ r_ g_ (E_ r_ (T_ (ar_ (jq_ret1 rfl rfl [] rfl (fun K h => h))))))))
  | succ L ih =>
    intro t hL
    have eA : (t.args.map T.row).length = t.args.length := List.length_map _
    refine con_intro Tryz.func35 rfl rfl (Nat.le_of_ble_eq_true rfl) (fun c hc => R_ (o_ r_ (ci_ r_ (fun bx => E_ r_ (T_ (R_ (E_ r_ (T_ (am_ (R_ (M_ r_ (o_ r_ (bz_ r_ r_ (T_ (jc_condd rfl (fun _ => R_ (F_ r_ ?_)) (fun h => by omega))))))))))))))))
    refine L_ 0 r_ (o_ r_ (br_ r_ (fun hlen => M_ r_ (T_ (au_ (jc_loopS (ι := Nat) [] (fun k => k ≤ t.args.length) (fun k => [(1, In .i64 ((L + 1 : Nat) : Int)), (5, In .i64 (mx (dl L) (t.args.take k) : Int)), (11, .cell (.list (t.args.map T.row))), (12, In .i64 ((t.args.map T.row).length : Int)), (13, In .i64 (k : Int))]) (fun _ => []) (fun k => t.args.length - k) 0 (Nat.zero_le _) ?_ ?_ ?_))))))
    · exact sub_end
    · (repeat (first | exact True.intro | refine ⟨rfl, ?_⟩))
    · intro k hk
      refine jc_reset [(1, In .i64 ((L + 1 : Nat) : Int)), (5, In .i64 (mx (dl L) (t.args.take k) : Int)), (11, .cell (.list (t.args.map T.row))), (12, In .i64 ((t.args.map T.row).length : Int)), (13, In .i64 (k : Int))] [] ?_ ⟨[], [], rfl⟩ ?_
      · (repeat (first | exact True.intro | refine ⟨rfl, ?_⟩))
      refine R_ (o_ r_ (bw_ r_ r_ (T_ (am_ (jc_condd rfl (fun hlt => ?_) (fun hge => ?_))))))
      · have hlt' : k < t.args.length := by omega
        have hI : Con Tryz.prog 35 [.row (t.args[k]).row', In .i64 (((L + 1 : Nat) : Int) - 1)] [] (fun K => K (In .i64 (dl L t.args[k] : Int)) []) := by
          rw [show (((L + 1 : Nat) : Int) - 1) = (L : Int) by omega]
          exact ih _ g_
        refine as_ (al_ (B_ (R_ (o_ r_ (cc_ r_ r_ g_ (T.row_eq _) r_ b_ (o_ r_ (cr_ r_ r_ r_ (o_ r_ (bl_ r_ r_ (fun bl => S_ 0 r_ (T_ (an_ (M_ r_ (A_ 0 r_ (M_ r_ (o_ r_ (cg_ r_ r_ g_ (o_ r_ (bm_ r_ (hI) (o_ r_ (ck_ r_ r_ ?_)))))))))))))))))))))
        refine E_ r_ (ak_ (ay_ (al_ (an_ (o_ r_ (bj_ r_ r_ g_ (M_ r_ (ak_ (jq_againS (k + 1) g_ g_ ?_ ?_)))))))))
        · exact sub_end
        · rw [List.take_succ_eq_append_getElem hlt', mx_snoc, show ((max (mx (dl L) (t.args.take k)) (dl L t.args[k]) : Nat) : Int) = max (mx (dl L) (t.args.take k) : Int) (dl L t.args[k] : Int) by omega]
          (repeat (first | exact True.intro | refine ⟨rfl, ?_⟩))
      · obtain rfl : k = t.args.length := by omega
        have hm := mx_le (dl_le L) t.args
        rw [List.take_length]
        refine av_ (ax_ (ax_ (ba_ (al_ (R_ (M_ r_ (o_ r_ (bj_ r_ r_ g_ (E_ r_ (T_ (ar_ (jq_ret1 rfl rfl [] rfl (fun K h => h)))))))))))))

/-- The reference's: from a depth on, 21 where it is deeper than 20. -/
def rd : Nat → T → Nat
  | 0, _ => 21
  | F + 1, t => max (20 - F) (mx (rd F) t.args)
theorem rd_eq : ∀ (F : Nat) (t : T), F ≤ 20 → rd F t = min (t.dep + (20 - F)) 21
  | 0, t, _ => by have : 1 ≤ t.dep := by rw [T.dep_args]; omega
                  simp only [rd]; omega
  | F + 1, t, hF => by
    have h := fun t => rd_eq F t (by omega)
    cases t <;> simp only [rd, T.args, mx, List.foldl_nil, List.foldl_cons, T.dep, h] <;> omega
end Go.Proofs.YtlniadfidfmckaaGreatDoor
end

section
namespace Go.Proofs.YtlniadfidfmckaaGreatDoor
open Go.Vc
attribute [local irreducible] JL JC JQ OpWp Con ConN
set_option maxHeartbeats 4000000

theorem Rdepth_c : ∀ (F : Nat) (t : T), F ≤ 20 → Con Tryz.prog 114 [.row t.row', In .i64 (21 - (F : Int))] [] (fun K => K (In .i64 (rd F t : Int)) []) := by
  intro F
  induction F with
  | zero =>
    intro t _
    refine con_intro Tryz.func114 rfl rfl (Nat.le_of_ble_eq_true rfl) (fun c hc => R_ (o_ r_ (ci_ r_ (fun bx => E_ r_ (T_ (am_ (R_ (M_ r_ (o_ r_ (bz_ r_ r_ (T_ (jc_condd rfl (fun _ => R_ (E_ r_ (T_ (ar_ (aw_ ?_))))) (fun h => by omega)))))))))))))
    refine jq_ret1 rfl rfl [] rfl (fun K h => h)
  | succ F ih =>
    intro t hF
    have eA : (t.args.map T.row).length = t.args.length := List.length_map _
    refine con_intro Tryz.func114 rfl rfl (Nat.le_of_ble_eq_true rfl) (fun c hc => R_ (o_ r_ (ci_ r_ (fun bx => E_ r_ (T_ (am_ (R_ (M_ r_ (o_ r_ (bz_ r_ r_ (T_ (jc_condd rfl (fun h => by omega) (fun _ => as_ (al_ (R_ (M_ r_ (E_ r_ ?_)))))))))))))))))
    refine T_ (am_ (R_ (E_ r_ (T_ (au_ ?_)))))
    have e0 : (21 - ((F + 1 : Nat) : Int)) = ((max (20 - F) (mx (rd F) (t.args.take 0)) : Nat) : Int) := by rw [List.take_zero]; simp only [mx, List.foldl_nil]; omega
    refine jc_loopS (ι := Nat) [] (fun k => k ≤ t.args.length) (fun k => [(1, In .i64 (21 - ((F + 1 : Nat) : Int))), (2, .cell (.val (.pointer (some ⟨bx, 0, none⟩)))), (5, In .i64 ((max (20 - F) (mx (rd F) (t.args.take k)) : Nat) : Int)), (6, In .i64 (k : Int))]) (fun _ => [.blk bx 53 t.row']) (fun k => t.args.length - k) 0 (Nat.zero_le _) ?_ ?_ ?_
    · exact bc_ 0 r_ sub_end
    · rw [← e0]
      (repeat (first | exact True.intro | refine ⟨rfl, ?_⟩))
    · intro k hk
      refine jc_reset [(1, In .i64 (21 - ((F + 1 : Nat) : Int))), (2, .cell (.val (.pointer (some ⟨bx, 0, none⟩)))), (5, In .i64 ((max (20 - F) (mx (rd F) (t.args.take k)) : Nat) : Int)), (6, In .i64 (k : Int))] [.blk bx 53 t.row'] ?_ ⟨[0], [], rfl⟩ ?_
      · (repeat (first | exact True.intro | refine ⟨rfl, ?_⟩))
      refine am_ (R_ (M_ r_ (F_ r_ (L_ 0 r_ (o_ r_ (br_ r_ (fun hlen => o_ r_ (bw_ r_ r_ (T_ (jc_condd rfl (fun hlt => ?_) (fun hge => ?_)))))))))))
      · have hlt' : k < t.args.length := by omega
        have hI : Con Tryz.prog 114 [.row (t.args[k]).row', In .i64 (21 - ((F + 1 : Nat) : Int) + 1)] [] (fun K => K (In .i64 (rd F t.args[k] : Int)) []) := by
          rw [show (21 - ((F + 1 : Nat) : Int) + 1) = 21 - (F : Int) by omega]
          exact ih _ g_
        refine as_ (al_ (B_ (an_ (M_ r_ (F_ r_ (L_ 0 r_ (M_ r_ (o_ r_ (cc_ r_ r_ g_ (T.row_eq _) r_ b_ (o_ r_ (cr_ r_ r_ r_ (M_ r_ (o_ r_ (bj_ r_ r_ g_ (o_ r_ (bm_ r_ (hI) (o_ r_ (ck_ r_ r_ (E_ r_ (ak_ ?_))))))))))))))))))))
        refine ay_ (al_ (an_ (M_ r_ (o_ r_ (bj_ r_ r_ g_ (E_ r_ (ak_ (jq_againS (k + 1) g_ g_ ?_ ?_))))))))
        · exact bc_ 0 r_ sub_end
        · rw [List.take_succ_eq_append_getElem hlt', mx_snoc, show ((max (20 - F) (max (mx (rd F) (t.args.take k)) (rd F t.args[k])) : Nat) : Int) = max ((max (20 - F) (mx (rd F) (t.args.take k)) : Nat) : Int) (rd F t.args[k] : Int) by omega]
          (repeat (first | exact True.intro | refine ⟨rfl, ?_⟩))
      · obtain rfl : k = t.args.length := by omega
        rw [List.take_length]
        refine av_ (ax_ (ax_ (ba_ (al_ (R_ (M_ r_ (E_ r_ (T_ (ar_ (jq_ret1 rfl rfl [] rfl (fun K h => h)))))))))))
theorem RDepth_c (t : T) : Con Tryz.prog 86 [.row t.row'] [] (fun K => K (In .i64 (rd 20 t : Int)) []) := by
  have h := Rdepth_c 20 t (by omega)
  rw [show (21 - ((20 : Nat) : Int)) = 1 by omega] at h
  refine con_intro Tryz.func86 rfl rfl (Nat.le_of_ble_eq_true rfl) (fun c hc => R_ (o_ r_ (ci_ r_ (fun bx => E_ r_ (T_ (R_ (A_ 0 r_ (o_ r_ (bm_ r_ (h) (E_ r_ (T_ (ar_ (jq_ret1 rfl rfl [] rfl (fun K h => h))))))))))))))

def hasW (s : ByteArray) : Bool := words.any (fun w => decide (w = s))
def idxW (L : List ByteArray) (s : ByteArray) : Int := match L.findIdx? (fun w => decide (w = s)) with | some i => (i : Int) | none => -1
theorem Index_c (L : List ByteArray) (s : ByteArray) : Con Tryz.prog 127 [.cell (.list (L.map Wrow)), Str s] [] (fun K => K (In .i64 (idxW L s)) []) := by
  have eL : (L.map Wrow).length = L.length := List.length_map _
  refine con_intro Tryz.func127 rfl rfl (Nat.le_of_ble_eq_true rfl) (fun c hc => R_ (E_ r_ (T_ (am_ (R_ (M_ r_ (o_ r_ (br_ r_ (fun hlen => M_ r_ (T_ (au_ ?_)))))))))))
  refine jc_loopS [] (fun k : Nat => k ≤ L.length ∧ ∀ j (hj : j < L.length), j < k → decide (L[j] = s) = false) (fun k => [(0, .cell (.list (L.map Wrow))), (1, Str s), (7, In .i64 ((L.map Wrow).length : Int)), (8, In .i64 (k : Int))]) (fun _ => []) (fun k => L.length - k) 0 ⟨Nat.zero_le _, fun j _ h => by omega⟩ ?_ ?_ ?_
  · exact sub_end
  · (repeat (first | exact True.intro | refine ⟨rfl, ?_⟩))
  · rintro k ⟨hk, hno⟩
    refine jc_reset [(0, .cell (.list (L.map Wrow))), (1, Str s), (7, In .i64 ((L.map Wrow).length : Int)), (8, In .i64 (k : Int))] [] ?_ ⟨[], [], rfl⟩ ?_
    · (repeat (first | exact True.intro | refine ⟨rfl, ?_⟩))
    refine R_ (o_ r_ (bw_ r_ r_ (T_ (am_ (jc_condd rfl (fun hlt => ?_) (fun hge => ?_))))))
    · have hlt' : k < L.length := by omega
      refine as_ (al_ (B_ (R_ (M_ r_ (E_ r_ (T_ (R_ (M_ r_ (M_ r_ (M_ r_ (o_ r_ (cc_ r_ r_ g_ r_ r_ b_ (o_ r_ (cb_ r_ r_ (o_ r_ (cs_ r_ r_ (T_ (jc_condd rfl (fun hb => ?_) (fun hb => ?_)))))))))))))))))))
      · have e : idxW L s = (k : Int) := by
          unfold idxW
          rw [List.findIdx?_eq_some_iff_getElem.2 ⟨hlt', decide_eq_true hb.symm, fun j hj => by rw [hno j (by omega) hj]; simp⟩]
        refine R_ (M_ r_ (E_ r_ (T_ (ar_ (az_ (aw_ (aw_ (az_ (aw_ (jq_ret1 rfl rfl [] rfl (fun K h => by rw [e] at h; exact h)))))))))))
      · refine as_ (ay_ (al_ (an_ (o_ r_ (bj_ r_ r_ g_ (M_ r_ (ak_ (jq_againS (k + 1) ⟨by omega, fun j hj hjk => ?_⟩ g_ ?_ ?_))))))))
        · by_cases e : j < k
          · exact hno j hj e
          · obtain rfl : j = k := by omega
            exact decide_eq_false (fun e => hb e.symm)
        · exact sub_end
        · (repeat (first | exact True.intro | refine ⟨rfl, ?_⟩))
    · have e : idxW L s = -1 := by
        unfold idxW
        rw [List.findIdx?_eq_none_iff.2 (fun x hx => by
          obtain ⟨j, hj, rfl⟩ := List.mem_iff_getElem.1 hx
          exact hno j hj (by omega))]
      refine av_ (ax_ (ax_ (ba_ (al_ (R_ (E_ r_ (T_ (ar_ (jq_ret1 rfl rfl [] rfl (fun K h => by rw [e] at h; exact h))))))))))
theorem idxW_any (L : List ByteArray) (s : ByteArray) : decide (0 ≤ idxW L s) = L.any (fun w => decide (w = s)) := by
  unfold idxW
  cases h : L.findIdx? (fun w => decide (w = s)) with
  | none =>
    have := List.findIdx?_eq_none_iff.1 h
    rw [List.any_eq_false.2 (fun x hx => by rw [this x hx]; decide)]
    rfl
  | some i =>
    obtain ⟨hi, hp, _⟩ := List.findIdx?_eq_some_iff_getElem.1 h
    rw [List.any_eq_true.2 ⟨L[i], List.getElem_mem hi, hp⟩]
    show decide (0 ≤ (i : Int)) = true
    exact decide_eq_true g_
theorem Contains_c (L : List ByteArray) (s : ByteArray) : Con Tryz.prog 103 [.cell (.list (L.map Wrow)), Str s] [] (fun K => K (Bl (L.any (fun w => decide (w = s)))) []) := by
  refine con_intro Tryz.func103 rfl rfl (Nat.le_of_ble_eq_true rfl) (fun c hc => R_ (E_ r_ (T_ (R_ (M_ r_ (M_ r_ (o_ r_ (bm_ r_ (Index_c L s) (o_ r_ (cn_ r_ r_ (E_ r_ (T_ (ar_ (jq_ret1 rfl rfl [] rfl (fun K h => by rw [← idxW_any] at h; exact h)))))))))))))))
theorem Keyword_c (s : ByteArray) : Con Tryz.prog 74 [Str s] [] (fun K => K (Bl (hasW s)) []) := by
  refine con_intro Tryz.func74 rfl rfl (Nat.le_of_ble_eq_true rfl) (fun c hc => R_ (E_ r_ (T_ (R_ (o_ r_ (dd_ gl_words r_ r_ r_ (M_ r_ (o_ r_ (bm_ r_ (Contains_c words s) (E_ r_ (T_ (ar_ (jq_ret1 rfl rfl [] rfl (fun K h => h))))))))))))))
def signT (op : Int) : ByteArray := signL.getD (op.toNat - 1) ⟨#[]⟩
theorem op14 {op : Int} (h : 1 ≤ op ∧ op ≤ 14) : op = 1 ∨ op = 2 ∨ op = 3 ∨ op = 4 ∨ op = 5 ∨ op = 6 ∨ op = 7 ∨ op = 8 ∨ op = 9 ∨ op = 10 ∨ op = 11 ∨ op = 12 ∨ op = 13 ∨ op = 14 := by omega
theorem Sign_c (op : Int) (h : 1 ≤ op ∧ op ≤ 14) : Con Tryz.prog 69 [In .i64 op] [] (fun K => K (Str (signT op)) []) := by
  refine con_intro Tryz.func69 rfl rfl (Nat.le_of_ble_eq_true rfl) (fun c hc => ?_)
  have h0 : ¬ op < 1 := by omega
  refine R_ (E_ r_ (T_ (am_ (R_ (M_ r_ (o_ r_ (bw_ r_ r_ (M_ r_ (ah_ r_ w_ b_ (bd_ r_ (ah_ r_ w_ b_ (bz_ r_ r_ (o_ r_ (bv_ r_ w_ r_ (T_ (jc_condd rfl (fun h2 => by omega) (fun _ => as_ (al_ (R_ ?_)))))))))))))))))))
  refine M_ r_ (o_ r_ (cg_ r_ r_ g_ (o_ r_ (de_ (n := 14) (e := 9) r_ r_ r_ g_ g_ (o_ r_ (dd_ (e := .val (.string (signT op))) gl_signs rfl rfl (by rcases op14 h with rfl | rfl | rfl | rfl | rfl | rfl | rfl | rfl | rfl | rfl | rfl | rfl | rfl | rfl <;> rfl) (E_ r_ (T_ (ar_ (jq_ret1 rfl rfl [] rfl (fun K h => h)))))))))))
theorem RSign_c (op : Int) (h : 1 ≤ op ∧ op ≤ 14) : Con Tryz.prog 87 [In .i64 op] [] (fun K => K (Str (signT op)) []) := by
  refine con_intro Tryz.func87 rfl rfl (Nat.le_of_ble_eq_true rfl) (fun c hc => ?_)
  have h0 : ¬ op < 1 := by omega
  refine R_ (E_ r_ (T_ (R_ (o_ r_ (ow_buildArr (n := 15) (e := 9) r_ r_ r_ r_ r_ (o_ r_ (bl_ r_ r_ (fun bl => S_ 0 r_ (T_ (am_ (R_ (M_ r_ (o_ r_ (bw_ r_ r_ (M_ r_ (ah_ r_ w_ b_ (bd_ r_ (ah_ r_ w_ b_ (bz_ r_ r_ (o_ r_ (bv_ r_ w_ r_ ?_)))))))))))))))))))))
  refine T_ (jc_condd rfl (fun h2 => by omega) (fun _ => as_ (al_ (R_ (M_ r_ (o_ r_ (de_ (n := 15) (e := 9) r_ r_ r_ g_ g_ (o_ r_ (bg_ 0 (e := .val (.string (signT op))) rfl rfl rfl (by rcases op14 h with rfl | rfl | rfl | rfl | rfl | rfl | rfl | rfl | rfl | rfl | rfl | rfl | rfl | rfl <;> rfl) (E_ r_ (T_ (ar_ (jq_ret1 rfl rfl [] rfl (fun K h => h))))))))))))))
end Go.Proofs.YtlniadfidfmckaaGreatDoor
end

section
namespace Go.Proofs.YtlniadfidfmckaaGreatDoor
open Go.Vc
set_option maxHeartbeats 1000000

abbrev Ptr (b : Nat) : S := .cell (.val (.pointer (some ⟨b, 0, none⟩)))
abbrev Irow (n : Int) : List C := [.val (.int .i64 n)]
inductive Sm where
  | mk (kind : Int) (name : ByteArray) (index value : List T) (max label : Int) (thn els : List Sm)
mutual
def Sm.row : Sm → List C
  | .mk k n i v m l t e => [.val (.int .i64 k), .val (.string n), .list (i.map T.row), .list (v.map T.row), .val (.int .i64 m), .val (.int .i64 l), .list (Sm.rows t), .list (Sm.rows e)]
def Sm.rows : List Sm → List (List C)
  | [] => []
  | s :: l => s.row :: Sm.rows l
end
theorem Sm.rows_map : ∀ l : List Sm, Sm.rows l = l.map Sm.row
  | [] => rfl
  | s :: l => by simp [Sm.rows, Sm.rows_map l]
def Sm.kind : Sm → Int | .mk k _ _ _ _ _ _ _ => k
def Sm.name : Sm → ByteArray | .mk _ n _ _ _ _ _ _ => n
def Sm.index : Sm → List T | .mk _ _ i _ _ _ _ _ => i
def Sm.value : Sm → List T | .mk _ _ _ v _ _ _ _ => v
def Sm.max : Sm → Int | .mk _ _ _ _ m _ _ _ => m
def Sm.label : Sm → Int | .mk _ _ _ _ _ l _ _ => l
def Sm.thn : Sm → List Sm | .mk _ _ _ _ _ _ t _ => t
def Sm.els : Sm → List Sm | .mk _ _ _ _ _ _ _ e => e
abbrev Sm.row' (s : Sm) : List C := [.val (.int .i64 s.kind), .val (.string s.name), .list (s.index.map T.row), .list (s.value.map T.row), .val (.int .i64 s.max), .val (.int .i64 s.label), .list (s.thn.map Sm.row), .list (s.els.map Sm.row)]
theorem Sm.row_eq (s : Sm) : s.row = s.row' := by
  cases s
  simp [Sm.row, Sm.row', Sm.rows_map, Sm.kind, Sm.name, Sm.index, Sm.value, Sm.max, Sm.label, Sm.thn, Sm.els]
abbrev Inp := ByteArray × Int × Int
abbrev Shd := ByteArray × Int × ByteArray
abbrev Arr := ByteArray × Int
abbrev Md := ByteArray × ByteArray × Int × Int
abbrev Clm := Int × Int
abbrev InRow (x : Inp) : List C := [.val (.string x.1), .val (.int .i64 x.2.1), .val (.int .i64 x.2.2)]
abbrev ShRow (x : Shd) : List C := [.val (.string x.1), .val (.int .i64 x.2.1), .val (.string x.2.2)]
abbrev ArRow (x : Arr) : List C := [.val (.string x.1), .val (.int .i64 x.2)]
abbrev MdRow (x : Md) : List C := [.val (.string x.1), .val (.string x.2.1), .val (.int .i64 x.2.2.1), .val (.int .i64 x.2.2.2)]
abbrev ClRow (x : Clm) : List C := [.val (.int .i64 x.1), .val (.int .i64 x.2)]
structure Tk where
  name : ByteArray
  period : Int
  deadline : Int
  priority : Int
  jitter : Int
  inputs : List Inp
  vars : List ByteArray
  arrays : List Arr
  modes : List Md
  claims : List Clm
  body : List Sm
abbrev Tk.row (t : Tk) : List C := [.val (.string t.name), .val (.int .i64 t.period), .val (.int .i64 t.deadline), .val (.int .i64 t.priority), .val (.int .i64 t.jitter), .list (t.inputs.map InRow), .list (t.vars.map Wrow), .list (t.arrays.map ArRow), .list (t.modes.map MdRow), .list (t.claims.map ClRow), .list (t.body.map Sm.row)]
structure Pg where
  res : List ByteArray
  shared : List Shd
  tasks : List Tk
abbrev Pg.row (p : Pg) : List C := [.list (p.res.map Wrow), .list (p.shared.map ShRow), .list (p.tasks.map Tk.row)]
end Go.Proofs.YtlniadfidfmckaaGreatDoor
end

section
namespace Go.Proofs.YtlniadfidfmckaaGreatDoor
open Go.Vc
attribute [local irreducible] JL JC JQ OpWp Con ConN
attribute [local irreducible] hasW
set_option maxHeartbeats 4000000

theorem RKeyword_c (s : ByteArray) : Con Tryz.prog 83 [Str s] [] (fun K => K (Bl (hasW s)) []) := by
  refine con_intro Tryz.func83 rfl rfl (Nat.le_of_ble_eq_true rfl) (fun c hc => R_ (E_ r_ (T_ (R_ (o_ r_ (bq_ r_ r_ b_ r_ r_ b_ (E_ r_ (T_ (am_ (R_ (E_ r_ (T_ (au_ (jc_reset [(0, Str s), (3, .cell (.list (words.map Wrow))), (4, In .i64 0)] [] ?_ ⟨[], [], rfl⟩ ?_))))))))))))))
  · (repeat (first | exact True.intro | refine ⟨rfl, ?_⟩))
  have hk : hasW s = words.any (fun w => decide (w = s)) := by unfold hasW; rfl
  rw [hk]
  clear hk
  generalize words = L
  have eL : (L.map Wrow).length = L.length := List.length_map _
  refine jc_loopS [] (fun k : Nat => k ≤ L.length ∧ (L.take k).any (fun w => decide (w = s)) = false) (fun k => [(0, Str s), (3, .cell (.list (L.map Wrow))), (4, In .i64 (k : Int))]) (fun _ => []) (fun k => L.length - k) 0 ⟨Nat.zero_le _, by rw [List.take_zero]; rfl⟩ ?_ ?_ ?_
  · exact sub_end
  · (repeat (first | exact True.intro | refine ⟨rfl, ?_⟩))
  · rintro k ⟨hk, hno⟩
    refine jc_reset [(0, Str s), (3, .cell (.list (L.map Wrow))), (4, In .i64 (k : Int))] [] ?_ ⟨[], [], rfl⟩ ?_
    · (repeat (first | exact True.intro | refine ⟨rfl, ?_⟩))
    refine am_ (R_ (M_ r_ (M_ r_ (o_ r_ (br_ r_ (fun hlen => o_ r_ (bw_ r_ r_ (T_ (jc_condd rfl (fun hlt => ?_) (fun hge => ?_))))))))))
    · have hlt' : k < L.length := by omega
      refine as_ (al_ (B_ (R_ (M_ r_ (M_ r_ (o_ r_ (cc_ r_ r_ g_ r_ r_ b_ (o_ r_ (cb_ r_ r_ (M_ r_ (o_ r_ (cs_ r_ r_ (T_ (jc_condd rfl (fun hb => ?_) (fun hb => ?_)))))))))))))))
      · have e : L.any (fun w => decide (w = s)) = true := List.any_eq_true.2 ⟨L[k], List.getElem_mem hlt', decide_eq_true hb⟩
        refine R_ (E_ r_ (T_ (ar_ (az_ (aw_ (aw_ (az_ (aw_ (jq_ret1 rfl rfl [] rfl (fun K h => by rw [e] at h; exact h))))))))))
      · refine as_ (ay_ (al_ (an_ (M_ r_ (o_ r_ (bj_ r_ r_ g_ (E_ r_ (ak_ (jq_againS (k + 1) ⟨by omega, ?_⟩ g_ ?_ ?_)))))))))
        · rw [List.take_succ_eq_append_getElem hlt', List.any_append, hno]
          simp only [List.any_cons, List.any_nil, Bool.or_false, Bool.false_or]
          exact decide_eq_false hb
        · exact sub_end
        · (repeat (first | exact True.intro | refine ⟨rfl, ?_⟩))
    · obtain rfl : k = L.length := by omega
      rw [List.take_length] at hno
      refine av_ (ax_ (ax_ (ba_ (al_ (R_ (E_ r_ (T_ (ar_ (jq_ret1 rfl rfl [] rfl (fun K h => by rw [hno] at h; exact h))))))))))
end Go.Proofs.YtlniadfidfmckaaGreatDoor
end

section
namespace Go.Vc
open Go.RowKit

section
variable {P : Program} [Gl P] {nt : Nat} {c : Cx P nt} {env : Env} {H Hr : List Ch} {ops : Array Oper} {Q : Exit → Act → World → Prop} {Sw : World → Prop}
variable {m fuel : Nat} {listed : Array Bool} {i j k di dj dk : Nat} {opi opj : Op} {ti tj tk : TypeId} {pi pj pk : String} {afi afj afk : Array Edge} {s0 : S}
theorem hp_list (js : List Nat) (hr : Region.ready .any ops listed = js) (hne : js ≠ []) (h : ∀ i ∈ js, ∃ o, ops[i]? = some o ∧ (o.guard.isNone && okD o.dst nt) = true ∧ OpWp c o env H (fun s H' => (∀ w, StW c H' w → Sw w) ∧ HP c ops Q Sw m fuel (listed.setIfInBounds i true) (putE o.dst s env) H')) : HP c ops Q Sw m (fuel + 1) listed env H := by
  intro a w hst hS
  refine anyX_all hr hne (fun i hi => ?_)
  obtain ⟨o, ho, hg, h1⟩ := h i hi
  rw [Bool.and_eq_true, Option.isNone_iff_eq_none] at hg
  obtain ⟨dst, op, ty, pos, af, g⟩ := o
  obtain ⟨hg1, hg2⟩ := hg
  obtain rfl : g = none := hg1
  unfold wpOp
  rw [ho]
  dsimp only
  rw [if_pos (show Region.wanted _ _ = true from rfl)]
  refine .inl (h1 a w hst _ _ ?_)
  rintro s H' v w' ⟨hk1, hk2⟩ hw' hv hk
  refine ⟨fun _ => hk1 _ hw', hk2 _ _ ?_ (hk1 _ hw')⟩
  cases dst with
  | none => exact hst.next0 hw' hk
  | some d => exact hst.next (by simpa [okD] using hg2) hw' hv hk
/-- A block some of whose cells are known exactly. -/
theorem rdRow_val {w : World} {A : Nat → Prop} {row : List C} {cs : List Value} (h : RdRow w A row cs) (i : Nat) (v : Value) (hi : row[i]? = some (C.val v)) : cs[i]? = some v := by
  obtain ⟨u, hu, hr⟩ := rdRow_get h hi
  obtain ⟨rfl, _⟩ := hr
  exact hu
theorem jc_hpM {id n : Nat} (m : Nat) (hn : ops.size = n) {b1 : Nat} {t1 : TypeId} {r1 : List C} (j1 : Nat) (hm : P.follows .mixedOrders = true) (hp : pick [j1] H = some ([.blk b1 t1 r1], Hr))
    (h : ∀ cs1 : List Value, cs1.length = r1.length → (∀ (i : Nat) (v : Value), r1[i]? = some (C.val v) → cs1[i]? = some v) → HP c ops Q (Keep [(b1, cs1, t1)]) m n (Array.replicate n false) env H) : JC c (.region id ops true) Q env H := by
  intro a w hs
  obtain ⟨cs1, g1, k1⟩ := blk_ok hs hp
  refine hp_begin m hn hm hs ?_ (h cs1 (rdRow_length k1) (rdRow_val k1))
  intro p hp
  obtain rfl := List.mem_singleton.1 hp
  exact g1
end
end Go.Vc
end

section
namespace Go.Vc
open Go.RowKit

section
variable {P : Program} [Gl P] {nt : Nat} {c : Cx P nt} {env : Env} {H Hr : List Ch} {ops : Array Oper} {Q : Exit → Act → World → Prop}
variable {x : Operand} {t : TypeId} {ty : TypeId} {pos : String} {af : Array Edge}
end
end Go.Vc
end
