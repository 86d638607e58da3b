import Derived.Test.YtjnfamgjffnfiaaDoorVc2
namespace Go.Vc
open Go.RowKit

/-- What is known of a type of the program. -/
class TI (P : Program) (t : TypeId) where
  u : TypeDesc
  hu : P.underlying t = some u
  i : TypeInfo
  hi : P.info? t = some i

def aggB : TypeDesc → Bool
  | .struct _ | .array _ _ => true
  | _ => false
def elemB : TypeDesc → TypeId
  | .slice e | .array _ e => e
  | _ => 0
def sliceB : TypeDesc → Bool
  | .slice _ => true
  | _ => false
def fieldsB : TypeDesc → Array Field
  | .struct fs => fs
  | _ => #[]
def structB : TypeDesc → Bool
  | .struct _ => true
  | _ => false

/-- A slice type, and its elements' type. -/
class SL (P : Program) (t : TypeId) where
  e : TypeId
  ie : TI P e
  hs : P.underlying t = some (.slice e)
instance SL.inst {P : Program} {t : TypeId} [h : SL P t] : TI P (SL.e P t) := h.ie

/-- What is known of a type of maps whose keys are strings. -/
class MP (P : Program) (t : TypeId) where
  k : TypeId
  e : TypeId
  hm : P.underlying t = some (.map k e)
  hk : P.underlying k = some .string

theorem u_of_struct {u : TypeDesc} (h : structB u = true) : u = .struct (fieldsB u) := by cases u <;> simp_all [structB, fieldsB]

theorem run_isAgg {P : Program} (t : TypeId) [TI P t] (w : World) : (isAgg t).run P w = .ok (aggB (TI.u P t)) w := by
  unfold isAgg
  simp only [Sem.run_bind, run_underlying (TI.hu (P := P) (t := t)), Result.andThen_ok]
  cases TI.u P t <;> rfl

theorem run_sizeOf {P : Program} (t : TypeId) [TI P t] (w : World) : (sizeOf t).run P w = .ok (TI.i P t).size w := by
  simp [sizeOf, typeInfo, TI.hi (P := P) (t := t)]

theorem run_zeroValue {P : Program} (t : TypeId) [TI P t] {z : Value} (hz : (TI.i P t).zero = some z) (w : World) : (zeroValue t).run P w = .ok z w := by
  simp [zeroValue, typeInfo, TI.hi (P := P) (t := t), hz]

theorem run_elem {P : Program} (t : TypeId) [SL P t] (w : World) : (underlying t).run P w = .ok (.slice (SL.e P t)) w := run_underlying SL.hs w

theorem run_fields {P : Program} (t : TypeId) [TI P t] (hs : structB (TI.u P t) = true) (w : World) : (underlying t).run P w = .ok (.struct (fieldsB (TI.u P t))) w := by
  rw [run_underlying (TI.hu (P := P) (t := t)), ← u_of_struct hs]

/-- The places of a struct's fields. -/
class TS (P : Program) (t : TypeId) [TI P t] where
  pl : Array (Nat × Nat)
  hpl : ∀ w, ((fieldsB (TI.u P t)).mapM fun f => do pure (f.offset, ← sizeOf f.type) : Sem (Array (Nat × Nat))).run P w = .ok pl w

theorem run_sizeOf_cases {P : Program} (t : TypeId) (w : World) : (∃ n, (sizeOf t).run P w = .ok n w) ∨ ∃ h, (sizeOf t).run P w = .halt h w := by
  simp only [sizeOf, typeInfo, Sem.run_bind, run_program, Result.andThen_ok]
  cases P.info? t <;> simp

theorem places_get {P : Program} : ∀ (l : List Field) (pl : List (Nat × Nat)) (w w' : World), (l.mapM fun f => do pure (f.offset, ← sizeOf f.type) : Sem (List (Nat × Nat))).run P w = .ok pl w' →
    w' = w ∧ ∀ (i off size : Nat), pl[i]? = some (off, size) → ∃ fl : Field, l[(i : Nat)]? = some fl ∧ fl.offset = off ∧ (sizeOf fl.type).run P w = .ok size w
  | [], pl, w, w', h => by
    simp only [List.mapM_nil, Sem.run_pure, Result.ok.injEq] at h
    obtain ⟨rfl, rfl⟩ := h
    exact ⟨rfl, by simp⟩
  | f :: l, pl, w, w', h => by
    simp only [List.mapM_cons, Sem.run_bind] at h
    rcases run_sizeOf_cases (P := P) f.type w with ⟨n, hn⟩ | ⟨x, hn⟩
    · simp only [hn, Result.andThen_ok, Sem.run_pure] at h
      generalize hr : (l.mapM fun f => do pure (f.offset, ← sizeOf f.type) : Sem (List (Nat × Nat))).run P w = r at h
      cases r with
      | ok pl' w1 =>
        simp only [Result.andThen_ok, Result.ok.injEq] at h
        obtain ⟨rfl, rfl⟩ := h
        obtain ⟨rfl, h2⟩ := places_get l pl' w w1 hr
        refine ⟨rfl, fun i off size hi => ?_⟩
        cases i with
        | zero => simp only [List.getElem?_cons_zero, Option.some.injEq, Prod.mk.injEq] at hi; obtain ⟨rfl, rfl⟩ := hi; exact ⟨f, rfl, rfl, hn⟩
        | succ i => exact h2 i off size hi
      | halt x w1 => simp at h
    · simp [hn] at h

theorem ts_get {P : Program} {t : TypeId} [TI P t] [TS P t] {f off size : Nat} (h : (TS.pl P t)[f]? = some (off, size)) (w : World) : ∃ fl : Field, (fieldsB (TI.u P t))[f]? = some fl ∧ fl.offset = off ∧ (sizeOf fl.type).run P w = .ok size w := by
  have h0 := TS.hpl (P := P) (t := t) w
  rw [Array.mapM_eq_mapM_toList, Sem.run_map] at h0
  generalize hr : ((fieldsB (TI.u P t)).toList.mapM fun f => do pure (f.offset, ← sizeOf f.type) : Sem (List (Nat × Nat))).run P w = r at h0
  cases r with
  | ok pl w1 =>
    simp only [Result.andThen_ok, Result.ok.injEq] at h0
    obtain ⟨h1, _⟩ := h0
    obtain ⟨_, h2⟩ := places_get _ pl w w1 hr
    obtain ⟨fl, g1, g2, g3⟩ := h2 f off size (by rw [← h1] at h; simpa using h)
    exact ⟨fl, by simpa using g1, g2, g3⟩
  | halt x w1 => simp at h0

theorem add_at (b off n : Nat) : (⟨b, off, none⟩ : Addr).add n = ⟨b, off + n, none⟩ := by
  unfold Addr.add
  split
  · rename_i h; subst h; rfl
  · rfl

theorem cells_load {w : World} {b off : Nat} {vs : List Value} (h : Cells w b off vs) (P : Program) : (loadCells ⟨b, off, none⟩ vs.length).run P w = .ok vs.toArray w :=
  run_loadCells_list w ⟨b, off, none⟩ vs (fun j v hj => by rw [add_at]; exact h j v hj)

theorem cells_of_blk {w : World} {b : Nat} {cs : List Value} {t : TypeId} {f : Nat × Nat} (h : w.heap[b]? = some (.cells cs.toArray t f)) (o : Nat) : Cells w b o (cs.drop o) := by
  intro j v hj
  rw [List.getElem?_drop] at hj
  simp [World.cell?, h, hj]

theorem cells_take {w : World} {b off : Nat} {vs : List Value} (h : Cells w b off vs) (n : Nat) : Cells w b off (vs.take n) := by
  intro j v hj
  rw [List.getElem?_take] at hj
  split at hj
  · exact h j v hj
  · cases hj
theorem cells_drop {w : World} {b off : Nat} {vs : List Value} (h : Cells w b off vs) (n : Nat) : Cells w b (off + n) (vs.drop n) := by
  intro j v hj
  rw [List.getElem?_drop] at hj
  rw [Nat.add_assoc]
  exact h (n + j) v hj

/-- A load of one cell. -/
theorem run_loadVar1 {P : Program} (t : TypeId) [TI P t] (ha : aggB (TI.u P t) = false) {w : World} {a : Addr} {v : Value} (h : w.cell? a = some v) : (loadVar t a).run P w = .ok v w := by
  unfold loadVar
  simp only [Sem.run_bind, run_isAgg, ha, Result.andThen_ok, Bool.false_eq_true, if_false, run_load, h]
/-- A load of a struct. -/
theorem run_loadVarN {P : Program} (t : TypeId) [TI P t] (ha : aggB (TI.u P t) = true) {w : World} {b off : Nat} {vs : List Value} (hs : (TI.i P t).size = vs.length) (h : Cells w b off vs) :
    (loadVar t ⟨b, off, none⟩).run P w = .ok (.agg vs.toArray) w := by
  unfold loadVar
  simp only [Sem.run_bind, run_isAgg, ha, Result.andThen_ok, if_true, run_sizeOf, hs, cells_load h, Sem.run_pure]

section
variable {P : Program} [Gl P] {nt : Nat} {c : Cx P nt} {env : Env} {H : List Ch} {K : S → List Ch → Prop}

theorem ow_val {o : Oper} {s : S} (hrun : ∀ a w, St c env H a w → ∃ v, (execOp a.eval o).run P w = .ok (.value v) w ∧ SOk w (c.av H) s v) (hK : K s H) : OpWp c o env H K := by
  intro a w hs next Q hn
  obtain ⟨v, hr, hv⟩ := hrun a w hs
  unfold Oper.wp
  rw [hr]
  exact hn s H v w hK hs.heap hv (fun _ _ h => h)

theorem ow_valx {o : Oper} {v : Value} (h1 : v.oneCell' = true) (hrun : ∀ a w, St c env H a w → (execOp a.eval o).run P w = .ok (.value v) w) (hK : K (.cell (.val v)) H) : OpWp c o env H K :=
  ow_val (s := .cell (.val v)) (fun a w hs => ⟨v, hrun a w hs, ⟨rfl, h1⟩⟩) hK

variable {d : Option Tmp} {ty t t' : TypeId} {pos : String} {af : Array Edge} {g : Option (Nat × Bool)} {x y : Operand}

theorem ow_move {s : S} (hx : env.ev x = some s) (hK : K s H) : OpWp c ⟨d, .move x, ty, pos, af, g⟩ env H K :=
  ow_val (fun _ _ hs => ⟨_, rfl, ev_ok hs hx⟩) hK
theorem ow_assign {s : S} (hx : env.ev x = some s) (hK : K s H) : OpWp c ⟨d, .assign x, ty, pos, af, g⟩ env H K :=
  ow_val (fun _ _ hs => ⟨_, rfl, ev_ok hs hx⟩) hK

/-! Integers -/
abbrev In (k : IntKind) (n : Int) : S := .cell (.val (.int k n))
abbrev Bl (b : Bool) : S := .cell (.val (.bool b))
abbrev Str (s : ByteArray) : S := .cell (.val (.string s))

section ints
variable {k : IntKind} {m n : Int}
theorem ow_add (hx : env.ev x = some (In k m)) (hy : env.ev y = some (In k n)) (hK : K (In k (k.wrap (m + n))) H) : OpWp c ⟨d, .binOp .add t x y t', ty, pos, af, g⟩ env H K :=
  ow_valx rfl (fun _ _ hs => by simp [execOp, ev_val hs hx, ev_val hs hy, eqGuard, binOp, Op.intArith]) hK
theorem ow_sub (hx : env.ev x = some (In k m)) (hy : env.ev y = some (In k n)) (hK : K (In k (k.wrap (m - n))) H) : OpWp c ⟨d, .binOp .sub t x y t', ty, pos, af, g⟩ env H K :=
  ow_valx rfl (fun _ _ hs => by simp [execOp, ev_val hs hx, ev_val hs hy, eqGuard, binOp, Op.intArith]) hK
theorem ow_mul (hx : env.ev x = some (In k m)) (hy : env.ev y = some (In k n)) (hK : K (In k (k.wrap (m * n))) H) : OpWp c ⟨d, .binOp .mul t x y t', ty, pos, af, g⟩ env H K :=
  ow_valx rfl (fun _ _ hs => by simp [execOp, ev_val hs hx, ev_val hs hy, eqGuard, binOp, Op.intArith]) hK
theorem ow_add64 (hx : env.ev x = some (In .i64 m)) (hy : env.ev y = some (In .i64 n)) (hr : -9223372036854775808 ≤ m + n ∧ m + n ≤ 9223372036854775807) (hK : K (In .i64 (m + n)) H) : OpWp c ⟨d, .binOp .add t x y t', ty, pos, af, g⟩ env H K :=
  ow_add hx hy (by rw [IntWalk.i64_in _ hr]; exact hK)
theorem ow_sub64 (hx : env.ev x = some (In .i64 m)) (hy : env.ev y = some (In .i64 n)) (hr : -9223372036854775808 ≤ m - n ∧ m - n ≤ 9223372036854775807) (hK : K (In .i64 (m - n)) H) : OpWp c ⟨d, .binOp .sub t x y t', ty, pos, af, g⟩ env H K :=
  ow_sub hx hy (by rw [IntWalk.i64_in _ hr]; exact hK)
theorem ow_mul64 (hx : env.ev x = some (In .i64 m)) (hy : env.ev y = some (In .i64 n)) (hr : -9223372036854775808 ≤ m * n ∧ m * n ≤ 9223372036854775807) (hK : K (In .i64 (m * n)) H) : OpWp c ⟨d, .binOp .mul t x y t', ty, pos, af, g⟩ env H K :=
  ow_mul hx hy (by rw [IntWalk.i64_in _ hr]; exact hK)
theorem ow_rem (hx : env.ev x = some (In k m)) (hy : env.ev y = some (In k n)) (h0 : n ≠ 0) (hK : K (In k (m.tmod n)) H) : OpWp c ⟨d, .binOp .rem t x y t', ty, pos, af, g⟩ env H K :=
  ow_valx rfl (fun _ _ hs => by simp [execOp, ev_val hs hx, ev_val hs hy, eqGuard, binOp, Op.intDiv, h0]) hK
theorem ow_quo (hx : env.ev x = some (In k m)) (hy : env.ev y = some (In k n)) (h0 : n ≠ 0) (hK : K (In k (k.wrap (m.tdiv n))) H) : OpWp c ⟨d, .binOp .quo t x y t', ty, pos, af, g⟩ env H K :=
  ow_valx rfl (fun _ _ hs => by simp [execOp, ev_val hs hx, ev_val hs hy, eqGuard, binOp, Op.intDiv, h0]) hK
theorem ow_shl (hx : env.ev x = some (In k m)) {k' : IntKind} (hy : env.ev y = some (In k' n)) (h0 : 0 ≤ n) (hK : K (In k (k.wrap (m * 2 ^ (min n.toNat k.bits)))) H) : OpWp c ⟨d, .binOp .shl t x y t', ty, pos, af, g⟩ env H K :=
  ow_valx rfl (fun _ _ hs => by simp [execOp, ev_val hs hx, ev_val hs hy, eqGuard, binOp, Op.shift, show ¬ n < 0 by omega]) hK
theorem ow_shr (hx : env.ev x = some (In k m)) {k' : IntKind} (hy : env.ev y = some (In k' n)) (h0 : 0 ≤ n) (hK : K (In k (m.fdiv (2 ^ (min n.toNat k.bits)))) H) : OpWp c ⟨d, .binOp .shr t x y t', ty, pos, af, g⟩ env H K :=
  ow_valx rfl (fun _ _ hs => by simp [execOp, ev_val hs hx, ev_val hs hy, eqGuard, binOp, Op.shift, show ¬ n < 0 by omega]) hK
theorem ow_lss (hx : env.ev x = some (In k m)) (hy : env.ev y = some (In k n)) (hK : K (Bl (decide (m < n))) H) : OpWp c ⟨d, .binOp .lss t x y t', ty, pos, af, g⟩ env H K :=
  ow_valx rfl (fun _ _ hs => by simp [execOp, ev_val hs hx, ev_val hs hy, eqGuard, binOp, Op.intCmp]) hK
theorem ow_leq (hx : env.ev x = some (In k m)) (hy : env.ev y = some (In k n)) (hK : K (Bl (decide (m ≤ n))) H) : OpWp c ⟨d, .binOp .leq t x y t', ty, pos, af, g⟩ env H K :=
  ow_valx rfl (fun _ _ hs => by simp [execOp, ev_val hs hx, ev_val hs hy, eqGuard, binOp, Op.intCmp]) hK
theorem ow_gtr (hx : env.ev x = some (In k m)) (hy : env.ev y = some (In k n)) (hK : K (Bl (decide (n < m))) H) : OpWp c ⟨d, .binOp .gtr t x y t', ty, pos, af, g⟩ env H K :=
  ow_valx rfl (fun _ _ hs => by simp [execOp, ev_val hs hx, ev_val hs hy, eqGuard, binOp, Op.intCmp]) hK
theorem ow_geq (hx : env.ev x = some (In k m)) (hy : env.ev y = some (In k n)) (hK : K (Bl (decide (n ≤ m))) H) : OpWp c ⟨d, .binOp .geq t x y t', ty, pos, af, g⟩ env H K :=
  ow_valx rfl (fun _ _ hs => by simp [execOp, ev_val hs hx, ev_val hs hy, eqGuard, binOp, Op.intCmp]) hK
theorem ow_eql (hx : env.ev x = some (In k m)) (hy : env.ev y = some (In k n)) (hK : K (Bl (decide (m = n))) H) : OpWp c ⟨d, .binOp .eql t x y t', ty, pos, af, g⟩ env H K :=
  ow_valx rfl (fun _ _ hs => by simp [execOp, ev_val hs hx, ev_val hs hy, eqGuard, binOp, Op.intCmp]; rfl) hK
theorem ow_neq (hx : env.ev x = some (In k m)) (hy : env.ev y = some (In k n)) (hK : K (Bl (decide (¬ m = n))) H) : OpWp c ⟨d, .binOp .neq t x y t', ty, pos, af, g⟩ env H K :=
  ow_valx rfl (fun _ _ hs => by simp [execOp, ev_val hs hx, ev_val hs hy, eqGuard, binOp, Op.intCmp]; by_cases h : m = n <;> simp [h]) hK
theorem ow_neg (hx : env.ev x = some (In k m)) (hK : K (In k (k.wrap (0 - m))) H) : OpWp c ⟨d, .unOp .neg t x, ty, pos, af, g⟩ env H K :=
  ow_valx rfl (fun _ _ hs => by simp [execOp, ev_val hs hx, Op.unary, Op.intArith]) hK
theorem ow_neg64 (hx : env.ev x = some (In .i64 m)) (hr : -9223372036854775808 ≤ -m ∧ -m ≤ 9223372036854775807) (hK : K (In .i64 (-m)) H) : OpWp c ⟨d, .unOp .neg t x, ty, pos, af, g⟩ env H K :=
  ow_neg hx (by rw [show (0 - m) = -m by omega, IntWalk.i64_in _ hr]; exact hK)
theorem ow_convInt [TI P t'] (hu : TI.u P t' = .int k) [TI P t] {k' : IntKind} (hs : TI.u P t = .int k') (hx : env.ev x = some (In k' m)) (hK : K (In k (k.wrap m)) H) : OpWp c ⟨d, .convert t t' x, ty, pos, af, g⟩ env H K :=
  ow_valx rfl (fun _ _ h => by simp [execOp, ev_val h hx, convert, run_underlying (TI.hu (P := P) (t := t')), run_underlying (TI.hu (P := P) (t := t)), hu, hs, Conv.intToInt]) hK
theorem wrap_u64 (n : Int) (h : 0 ≤ n ∧ n ≤ 18446744073709551615) : IntKind.u64.wrap n = n := by
  have e : IntKind.u64.wrap n = n % 18446744073709551616 := by simp [IntKind.wrap, IntKind.signed, IntKind.bits]
  rw [e]; omega
theorem ow_convU64 [TI P t'] [TI P t] {k' : IntKind} (hu : TI.u P t' = .int .u64) (hs : TI.u P t = .int k') (hx : env.ev x = some (In k' m)) (hr : 0 ≤ m ∧ m ≤ 18446744073709551615) (hK : K (In .u64 m) H) : OpWp c ⟨d, .convert t t' x, ty, pos, af, g⟩ env H K :=
  ow_convInt hu hs hx (by rw [wrap_u64 _ hr]; exact hK)
theorem ow_convI64 [TI P t'] [TI P t] {k' : IntKind} (hu : TI.u P t' = .int .i64) (hs : TI.u P t = .int k') (hx : env.ev x = some (In k' m)) (hr : -9223372036854775808 ≤ m ∧ m ≤ 9223372036854775807) (hK : K (In .i64 m) H) : OpWp c ⟨d, .convert t t' x, ty, pos, af, g⟩ env H K :=
  ow_convInt hu hs hx (by rw [IntWalk.i64_in _ hr]; exact hK)
theorem ow_shl64 (hx : env.ev x = some (In .i64 m)) {k' : IntKind} (hy : env.ev y = some (In k' n)) (h0 : 0 ≤ n ∧ n ≤ 63) (hr : -9223372036854775808 ≤ m * 2 ^ n.toNat ∧ m * 2 ^ n.toNat ≤ 9223372036854775807) (hK : K (In .i64 (m * 2 ^ n.toNat)) H) : OpWp c ⟨d, .binOp .shl t x y t', ty, pos, af, g⟩ env H K :=
  ow_shl hx hy h0.1 (by
    rw [show min n.toNat IntKind.i64.bits = n.toNat by simp [IntKind.bits]; omega, IntWalk.i64_in _ hr]; exact hK)
end ints

/-! Bools, strings -/
theorem ow_not {b : Bool} (hx : env.ev x = some (Bl b)) (hK : K (Bl (!b)) H) : OpWp c ⟨d, .unOp .not t x, ty, pos, af, g⟩ env H K :=
  ow_valx rfl (fun _ _ hs => by simp [execOp, ev_val hs hx, Op.unary]) hK
theorem ow_notdec {p : Prop} [Decidable p] (hx : env.ev x = some (Bl (decide p))) (hK : K (Bl (decide (¬ p))) H) : OpWp c ⟨d, .unOp .not t x, ty, pos, af, g⟩ env H K :=
  ow_not hx (by simpa using hK)
theorem ow_pick {z : Operand} {b : Bool} {sx sy : S} (hz : env.ev z = some (Bl b)) (hx : b = true → env.ev x = some sx) (hy : b = false → env.ev y = some sy) (h1 : b = true → K sx H) (h2 : b = false → K sy H) :
    OpWp c ⟨d, .pick z x y, ty, pos, af, g⟩ env H K := by
  cases b with
  | true => exact ow_val (fun a w hs => ⟨a.eval x, by simp [execOp, ev_val hs hz, asBool], ev_ok hs (hx rfl)⟩) (h1 rfl)
  | false => exact ow_val (fun a w hs => ⟨a.eval y, by simp [execOp, ev_val hs hz, asBool], ev_ok hs (hy rfl)⟩) (h2 rfl)

theorem ow_pickT {z : Operand} {b : Bool} {sx : S} (hz : env.ev z = some (Bl b)) (hb : b = true) (hx : env.ev x = some sx) (h1 : K sx H) : OpWp c ⟨d, .pick z x y, ty, pos, af, g⟩ env H K := by
  subst hb
  exact ow_val (fun a w hs => ⟨a.eval x, by simp [execOp, ev_val hs hz, asBool], ev_ok hs hx⟩) h1
theorem ow_pickF {z : Operand} {b : Bool} {sy : S} (hz : env.ev z = some (Bl b)) (hb : b = false) (hy : env.ev y = some sy) (h1 : K sy H) : OpWp c ⟨d, .pick z x y, ty, pos, af, g⟩ env H K := by
  subst hb
  exact ow_val (fun a w hs => ⟨a.eval y, by simp [execOp, ev_val hs hz, asBool], ev_ok hs hy⟩) h1

theorem bytes_beq (a b : ByteArray) : (a.toList == b.toList) = decide (a = b) := by
  rw [← beq_toListBytes]
  cases a; cases b
  rename_i x y
  show (x == y) = _
  by_cases h : x = y
  · subst h; simp
  · simp [h]
theorem ow_streql {a b : ByteArray} (hx : env.ev x = some (Str a)) (hy : env.ev y = some (Str b)) (hK : K (Bl (decide (a = b))) H) : OpWp c ⟨d, .binOp .eql t x y t', ty, pos, af, g⟩ env H K :=
  ow_valx rfl (fun _ _ hs => by simp [execOp, ev_val hs hx, ev_val hs hy, eqGuard, binOp, Op.stringOp, bytes_beq]) hK
theorem ow_strneq {a b : ByteArray} (hx : env.ev x = some (Str a)) (hy : env.ev y = some (Str b)) (hK : K (Bl (decide (¬ a = b))) H) : OpWp c ⟨d, .binOp .neq t x y t', ty, pos, af, g⟩ env H K :=
  ow_valx rfl (fun _ _ hs => by simp [execOp, ev_val hs hx, ev_val hs hy, eqGuard, binOp, Op.stringOp, bytes_beq]) hK
theorem ow_strcat {a b : ByteArray} (hx : env.ev x = some (Str a)) (hy : env.ev y = some (Str b)) (hl : a.size + b.size ≤ 9223372036854775807) (hK : K (Str (a ++ b)) H) : OpWp c ⟨d, .binOp .add t x y t', ty, pos, af, g⟩ env H K :=
  ow_valx rfl (fun _ _ hs => by
    have : ¬ ((a.size + b.size : Nat) : Int) > IntKind.i64.max := by
      have : IntKind.i64.max = 9223372036854775807 := by rfl
      rw [this]; omega
    simp only [execOp, ev_val hs hx, ev_val hs hy, eqGuard, binOp, Op.stringOp, if_neg this]
    simp) hK

/-! Lengths -/
theorem ow_len [SL P t] {rows : List (List C)} (hx : env.ev x = some (.cell (.list rows))) (hK : rows.length ≤ 9223372036854775807 → K (In .i64 rows.length) H) :
    OpWp c ⟨d, .call { callee := .builtin .len, args := #[x], argTypes := #[t] }, ty, pos, af, g⟩ env H K := by
  by_cases hm : rows.length ≤ 9223372036854775807
  · exact ow_valx rfl (fun a w hs => by
      obtain ⟨ad, cap, hv, _⟩ := ev_ok hs hx
      simp [execOp, resolve, invoke, builtin, Builtin.len_, run_elem t, hv, goInt]) (hK hm)
  · intro a w hs
    obtain ⟨ad, cap, hv, h1, h2, _⟩ := ev_ok hs hx
    unfold maxLen at h2
    omega
theorem ow_lenstr [TI P t] (ht : TI.u P t = .string) {s : ByteArray} (hx : env.ev x = some (Str s)) (hK : K (In .i64 s.size) H) :
    OpWp c ⟨d, .call { callee := .builtin .len, args := #[x], argTypes := #[t] }, ty, pos, af, g⟩ env H K :=
  ow_valx rfl (fun a w hs => by
    simp [execOp, resolve, invoke, builtin, Builtin.len_, run_underlying (TI.hu (P := P) (t := t)), ht, ev_val hs hx, goInt]) hK
theorem own_len {w : World} {v : Value} {e : TypeId} {k n : Nat} {vs : List Value} (h : w.ownsRow 0 e k v n vs) : ∃ a cap, v = .slice a n cap := by
  rcases h.2 with ⟨rfl, rfl⟩ | ⟨g, cap, cur, rfl, _⟩
  · exact ⟨_, _, rfl⟩
  · exact ⟨_, _, rfl⟩
theorem ow_lenown [SL P t] {v : Value} {e : TypeId} {k : Nat} {rows : List (List C)} {Hr : List Ch} (j : Nat) (hx : env.ev x = some (.cell (.val v))) (hp : pick [j] H = some ([.own v e k rows], Hr)) (hK : rows.length ≤ 9223372036854775807 → K (In .i64 rows.length) H) :
    OpWp c ⟨d, .call { callee := .builtin .len, args := #[x], argTypes := #[t] }, ty, pos, af, g⟩ env H K := by
  by_cases hm : rows.length ≤ 9223372036854775807
  · exact ow_valx rfl (fun a w hs => by
      obtain ⟨vs, ho, _⟩ := hs.heap.ok (.own v e k rows) ((pick_perm hp).mem_iff.2 (by simp))
      obtain ⟨ad, cap, hv⟩ := own_len ho
      simp [execOp, resolve, invoke, builtin, Builtin.len_, run_elem t, ev_val hs hx, hv, goInt]) (hK hm)
  · intro a w hs
    obtain ⟨vs, ho, _⟩ := hs.heap.ok (.own v e k rows) ((pick_perm hp).mem_iff.2 (by simp))
    rcases ho.2 with ⟨_, h0⟩ | ⟨g, cap, cur, _, _, _, h1, h2, _⟩
    · omega
    · unfold maxLen at h2
      omega
theorem ow_min2 {m n : Int} {k : IntKind} {at_ : Array TypeId} (hx : env.ev x = some (In k m)) (hy : env.ev y = some (In k n)) (hK : K (In k (min m n)) H) :
    OpWp c ⟨d, .call { callee := .builtin .min, args := #[x, y], argTypes := at_ }, ty, pos, af, g⟩ env H K :=
  ow_valx rfl (fun a w hs => by
    have : (if n < m then n else m) = min m n := by simp only [Int.min_def]; split <;> split <;> omega
    simp [execOp, resolve, invoke, builtin, Builtin.min_, Builtin.min2, ev_val hs hx, ev_val hs hy, this]) hK
theorem ow_max2 {m n : Int} {k : IntKind} {at_ : Array TypeId} (hx : env.ev x = some (In k m)) (hy : env.ev y = some (In k n)) (hK : K (In k (max m n)) H) :
    OpWp c ⟨d, .call { callee := .builtin .max, args := #[x, y], argTypes := at_ }, ty, pos, af, g⟩ env H K :=
  ow_valx rfl (fun a w hs => by
    have : (if n > m then n else m) = max m n := by simp only [Int.max_def]; split <;> split <;> omega
    simp [execOp, resolve, invoke, builtin, Builtin.max_, Builtin.max2, ev_val hs hx, ev_val hs hy, this]) hK

/-! Pointers, fields, loads -/
theorem ow_nilCheck {b o : Nat} {sp : Option Nat} (hx : env.ev x = some (.cell (.val (.pointer (some ⟨b, o, sp⟩))))) (hK : K (.cell (.val (.pointer (some ⟨b, o, sp⟩)))) H) : OpWp c ⟨d, .nilCheck x, ty, pos, af, g⟩ env H K :=
  ow_valx rfl (fun _ _ hs => by simp [execOp, ev_val hs hx]) hK
theorem ow_nilCheckPlace {row : List C} (hx : env.ev x = some (.cell (.place row))) (hK : K (.cell (.place row)) H) : OpWp c ⟨d, .nilCheck x, ty, pos, af, g⟩ env H K :=
  ow_val (fun a w hs => by
    have hv := ev_ok hs hx
    obtain ⟨b, off, vs, he, _⟩ := id hv
    exact ⟨a.eval x, by simp [execOp, he], hv⟩) hK

theorem run_fieldAt {P : Program} (s : TypeId) [TI P s] [TS P s] (hs : structB (TI.u P s) = true) {f off size : Nat} (hf : (TS.pl P s)[f]? = some (off, size)) (hz : 0 < size) (b o : Nat) (w : World) :
    (Instr.fieldAt s (.pointer (some ⟨b, o, none⟩)) f).run P w = .ok (.pointer (some ⟨b, o + off, none⟩)) w := by
  obtain ⟨fl, h1, rfl, h3⟩ := ts_get hf w
  unfold Instr.fieldAt
  simp only [Sem.run_bind, run_fields s hs, Result.andThen_ok, h1, Instr.sureAddr, fieldPlace, Sem.run_pure, h3, if_neg (show ¬ size = 0 by omega), add_at]

/-- The field of a block of its own. -/
theorem ow_fieldAddr {b o f off size : Nat} [TI P t] [TS P t] (hs : structB (TI.u P t) = true) (hx : env.ev x = some (.cell (.val (.pointer (some ⟨b, o, none⟩))))) (hf : (TS.pl P t)[f]? = some (off, size))
    (hz : 0 < size) (hK : K (.cell (.val (.pointer (some ⟨b, o + off, none⟩)))) H) : OpWp c ⟨d, .fieldAddr t x f, ty, pos, af, g⟩ env H K :=
  ow_valx rfl (fun a w h => by simp only [execOp, ev_val h hx, Sem.run_bind, run_fieldAt t hs hf hz, Result.andThen_ok, Sem.run_pure]) hK

theorem place_sub {w : World} {A : Nat → Prop} {row : List C} {b off : Nat} {vs : List Value} (hb : ¬ A b) (hc : Cells w b off vs) (hr : RdRow w A row vs) (o n : Nat) (hp : 0 < ((row.drop o).take n).length) : Rd1 w A (.place ((row.drop o).take n)) (.pointer (some ⟨b, off + o, none⟩)) :=
  ⟨b, off + o, _, rfl, hb, hp, cells_take (cells_drop hc o) n, rdRow_take n (rdRow_drop o hr)⟩

theorem ow_fieldAddrPlace {row r : List C} {f off size : Nat} [TI P t] [TS P t] (hs : structB (TI.u P t) = true) (hx : env.ev x = some (.cell (.place row))) (hf : (TS.pl P t)[f]? = some (off, size))
    (hz : 0 < size) (hr : (row.drop off).take size = r) (hp : 0 < r.length) (hK : K (.cell (.place r)) H) : OpWp c ⟨d, .fieldAddr t x f, ty, pos, af, g⟩ env H K :=
  ow_val (fun a w h => by
    obtain ⟨b, o, vs, he, hb, _, hc, hrow⟩ := ev_ok h hx
    subst hr
    refine ⟨.pointer (some ⟨b, o + off, none⟩), ?_, place_sub hb hc hrow _ _ hp⟩
    simp only [execOp, he, Sem.run_bind, run_fieldAt t hs hf hz, Result.andThen_ok, Sem.run_pure]) hK

/-- Loads: of a place. -/
theorem ow_loadPlace [TI P t] (ha : aggB (TI.u P t) = false) {e : C} {r : List C} (hx : env.ev x = some (.cell (.place (e :: r)))) (hK : K (.cell e) H) : OpWp c ⟨d, .load t x, ty, pos, af, g⟩ env H K :=
  ow_val (fun a w h => by
    obtain ⟨b, off, vs, he, hb, _, hc, v, r', rfl, hv, _⟩ := ev_ok h hx
    have h0 := hc 0 v (by simp)
    refine ⟨v, ?_, hv⟩
    simp only [execOp, he, Instr.loadAt, Instr.sureAddr, Sem.run_bind, Sem.run_pure, Result.andThen_ok, run_loadVar1 t ha (by simpa using h0)]) hK
theorem ow_loadPlaceN [TI P t] (ha : aggB (TI.u P t) = true) {row : List C} (hx : env.ev x = some (.cell (.place row))) (hz : (TI.i P t).size = row.length) (hK : K (.row row) H) : OpWp c ⟨d, .load t x, ty, pos, af, g⟩ env H K :=
  ow_val (fun a w h => by
    obtain ⟨b, off, vs, he, hb, _, hc, hr⟩ := ev_ok h hx
    refine ⟨.agg vs.toArray, ?_, vs.toArray, rfl, by simpa using hr⟩
    simp only [execOp, he, Instr.loadAt, Instr.sureAddr, Sem.run_bind, Sem.run_pure, Result.andThen_ok, run_loadVarN t ha (by rw [hz, rdRow_length hr]) hc]) hK

theorem blk_ok {a : Act} {w : World} (h : St c env H a w) {is : List Nat} {ch : Ch} {Hr : List Ch} (hp : pick is H = some ([ch], Hr)) : ch.ok w (c.av H) :=
  h.heap.ok ch ((pick_perm hp).mem_iff.2 (by simp))

/-- Loads: of a block of its own, number j among those owned. -/
theorem ow_load {b o : Nat} {row : List C} {e : C} {bt : TypeId} {Hr : List Ch} [TI P t] (j : Nat) (ha : aggB (TI.u P t) = false) (hx : env.ev x = some (.cell (.val (.pointer (some ⟨b, o, none⟩))))) (hp : pick [j] H = some ([.blk b bt row], Hr))
    (he : row[o]? = some e) (hK : K (.cell e) H) : OpWp c ⟨d, .load t x, ty, pos, af, g⟩ env H K :=
  ow_val (fun a w h => by
    obtain ⟨cs, hh, hr⟩ := blk_ok h hp
    obtain ⟨v, hv, hrd⟩ := rdRow_get hr he
    refine ⟨v, ?_, hrd⟩
    simp only [execOp, ev_val h hx, Instr.loadAt, Instr.sureAddr, Sem.run_bind, Sem.run_pure, Result.andThen_ok, run_loadVar1 t ha (show w.cell? ⟨b, o, none⟩ = some v by simp [World.cell?, hh, hv])]) hK
theorem ow_loadN {b o : Nat} {row r : List C} {bt : TypeId} {Hr : List Ch} [TI P t] (j : Nat) (ha : aggB (TI.u P t) = true) (hx : env.ev x = some (.cell (.val (.pointer (some ⟨b, o, none⟩))))) (hp : pick [j] H = some ([.blk b bt row], Hr))
    (hr : (row.drop o).take (TI.i P t).size = r) (hz : (TI.i P t).size = r.length) (hK : K (.row r) H) : OpWp c ⟨d, .load t x, ty, pos, af, g⟩ env H K :=
  ow_val (fun a w h => by
    obtain ⟨cs, hh, hrd⟩ := blk_ok h hp
    have h1 := rdRow_take (TI.i P t).size (rdRow_drop o hrd)
    rw [hr] at h1
    have hc := cells_take (cells_of_blk hh o) (TI.i P t).size
    refine ⟨.agg ((cs.drop o).take (TI.i P t).size).toArray, ?_, _, rfl, by simpa using h1⟩
    simp only [execOp, ev_val h hx, Instr.loadAt, Instr.sureAddr, Sem.run_bind, Sem.run_pure, Result.andThen_ok, run_loadVarN t ha (hz.trans (rdRow_length h1).symm) hc]) hK

theorem ow_loadAll {b : Nat} {row : List C} {bt : TypeId} {Hr : List Ch} [TI P t] (j : Nat) (ha : aggB (TI.u P t) = true) (hx : env.ev x = some (.cell (.val (.pointer (some ⟨b, 0, none⟩))))) (hp : pick [j] H = some ([.blk b bt row], Hr))
    (hz : (TI.i P t).size = row.length) (hK : K (.row row) H) : OpWp c ⟨d, .load t x, ty, pos, af, g⟩ env H K :=
  ow_loadN (r := row) j ha hx hp (by simp [hz]) hz hK

/-! Indices -/
theorem ow_indexAddr [SL P t] {rows : List (List C)} {m : Int} {row : List C} (hx : env.ev x = some (.cell (.list rows))) (hy : env.ev y = some (In .i64 m))
    (h0 : 0 ≤ m) (hrow : rows[m.toNat]? = some row) (hz : (TI.i P (SL.e P t)).size = row.length) (hp : 0 < row.length) (hK : K (.cell (.place row)) H) : OpWp c ⟨d, .indexAddr t x y, ty, pos, af, g⟩ env H K :=
  ow_val (fun a w h => by
    obtain ⟨hlt, _⟩ := List.getElem?_eq_some_iff.1 hrow
    obtain ⟨ad, cap, he, _, _, hb⟩ := ev_ok h hx
    rcases hb with hb | ⟨b, off, vs, k, rfl, hA, hc, hk, hr⟩
    · omega
    · obtain ⟨cs, h1, h2, h3⟩ := rdRows_get hr hc hrow
      have hkl : k = row.length := by rw [← h2, rdRow_length h1]
      refine ⟨.pointer (some ⟨b, off + m.toNat * k, none⟩), ?_, b, _, cs, rfl, hA, hp, h3, h1⟩
      have : 0 ≤ m ∧ m < ↑rows.length := ⟨h0, by omega⟩
      simp [execOp, he, ev_val h hy, Instr.indexAt, asIntOf, run_elem t, this, run_sizeOf, add_at, hz, hkl]) hK
/-- An element of a list that is a map of another one. -/
theorem ow_indexAddrMap [SL P t] {α : Type} {f : α → List C} {l : List α} {k : Nat} (hx : env.ev x = some (.cell (.list (l.map f)))) (hy : env.ev y = some (In .i64 (k : Int)))
    (hlt : k < l.length) (hz : (TI.i P (SL.e P t)).size = (f l[k]).length) (hp : 0 < (f l[k]).length) (hK : K (.cell (.place (f l[k]))) H) : OpWp c ⟨d, .indexAddr t x y, ty, pos, af, g⟩ env H K :=
  ow_indexAddr hx hy (by omega) (by simp [hlt]) hz hp hK

theorem ow_indexAddrMapE [SL P t] {α : Type} {f : α → List C} {l : List α} {k : Nat} {row : List C} (hx : env.ev x = some (.cell (.list (l.map f)))) (hy : env.ev y = some (In .i64 (k : Int)))
    (hlt : k < l.length) (hrow : f l[k] = row) (hz : (TI.i P (SL.e P t)).size = row.length) (hp : 0 < row.length) (hK : K (.cell (.place row)) H) : OpWp c ⟨d, .indexAddr t x y, ty, pos, af, g⟩ env H K := by
  subst hrow
  exact ow_indexAddrMap hx hy hlt hz hp hK

theorem ow_indexAddrMapI [SL P t] {α : Type} {f : α → List C} {l : List α} {m : Int} {row : List C} (hx : env.ev x = some (.cell (.list (l.map f)))) (hy : env.ev y = some (In .i64 m))
    (h0 : 0 ≤ m) (hlt : m.toNat < l.length) (hrow : f l[m.toNat] = row) (hz : (TI.i P (SL.e P t)).size = row.length) (hp : 0 < row.length) (hK : K (.cell (.place row)) H) : OpWp c ⟨d, .indexAddr t x y, ty, pos, af, g⟩ env H K := by
  subst hrow
  exact ow_indexAddr hx hy h0 (by simp [hlt]) hz hp hK

/-! New blocks -/
theorem hb_cons (ch : Ch) (H : List Ch) : hb (ch :: H) = ch.bs ++ hb H := rfl
theorem ch_rot (ch : Ch) (H : List Ch) : (ch :: H) = [ch] ++ H := rfl

theorem stw_alloc {w : World} (h : StW c H w) (row : List C) (cs : List Value) (bt : TypeId) (hr : RdRow w (c.av H) row cs) :
    StW c (.blk w.heap.size bt row :: H) (w.alloc (.cells cs.toArray bt)) ∧ (∀ s v, SOk w (c.av H) s v → SOk (w.alloc (.cells cs.toArray bt)) (c.av (.blk w.heap.size bt row :: H)) s v) := by
  have h' : StW c ([] ++ H) w := h
  have hg : Grow (hb []) w (w.alloc (.cells cs.toArray bt)) := ⟨rfl, rfl, rfl, by simp, fun k hk _ => Below.heap_alloc _ _ _ hk⟩
  have := StW.step (H1' := [.blk w.heap.size bt row]) h' hg (by simp [hb, Ch.bs]) (by simp [hb, Ch.bs]) ?_
  · exact this
  · intro ch hch
    simp only [List.mem_singleton] at hch
    subst hch
    refine ⟨cs, by show (w.heap.push _)[w.heap.size]? = _; simp, ?_⟩
    refine rdRow_up (A := c.av H) (hg.up (by simp [hb])) ?_ row cs hr
    intro b hb'
    rcases hb' with hb' | hb'
    · exact .inl (.inl hb')
    · simp only [List.singleton_append, hb_cons, Ch.bs, List.mem_cons] at hb'
      rcases hb' with rfl | hb'
      · exact .inr (Nat.le_refl _)
      · exact .inl (.inr hb')

theorem ow_new {o : Oper} (row : List C) (bt : TypeId) (hrun : ∀ a w, St c env H a w → ∃ cs : List Value, (execOp a.eval o).run P w = .ok (.value (.pointer (some ⟨w.heap.size, 0, none⟩))) (w.alloc (.cells cs.toArray bt)) ∧ RdRow w (c.av H) row cs)
    (hK : ∀ b, K (.cell (.val (.pointer (some ⟨b, 0, none⟩)))) (.blk b bt row :: H)) : OpWp c o env H K := by
  intro a w hs next Q hn
  obtain ⟨cs, hr, hv⟩ := hrun a w hs
  unfold Oper.wp
  rw [hr]
  obtain ⟨h1, h2⟩ := stw_alloc hs.heap row cs bt hv
  exact hn _ _ _ _ (hK w.heap.size) h1 ⟨rfl, rfl⟩ h2

def zeroRow (z : Value) : List C := z.cells.toList.map .val
theorem rdRow_zero {w : World} {A : Nat → Prop} : ∀ (l : List Value), (∀ v ∈ l, v.oneCell' = true) → RdRow w A (l.map .val) l
  | [], _ => rfl
  | v :: l, h => ⟨v, l, rfl, ⟨rfl, h v (by simp)⟩, rdRow_zero l (fun u hu => h u (by simp [hu]))⟩

theorem ow_alloc {e : TypeId} [TI P e] {z : Value} (hz : (TI.i P e).zero = some z) (h1 : z.cells.toList.all Value.oneCell' = true) (hK : ∀ b, K (.cell (.val (.pointer (some ⟨b, 0, none⟩)))) (.blk b e (zeroRow z) :: H)) : OpWp c ⟨d, .alloc e, ty, pos, af, g⟩ env H K :=
  ow_new (zeroRow z) e (fun a w _ => ⟨z.cells.toList, by
    simp [execOp, Instr.alloc, run_zeroValue e hz, newVar, newRow], rdRow_zero _ (List.all_eq_true.1 h1)⟩) hK
theorem ow_box {e : TypeId} {row : List C} (hx : env.ev x = some (.row row)) (hK : ∀ b, K (.cell (.val (.pointer (some ⟨b, 0, none⟩)))) (.blk b e row :: H)) : OpWp c ⟨d, .box e x, ty, pos, af, g⟩ env H K :=
  ow_new row e (fun a w h => by
    obtain ⟨cs, he, hr⟩ := ev_ok h hx
    exact ⟨cs.toList, by simp [execOp, Instr.box, he, newVar, newRow, Value.cells], hr⟩) hK
theorem cells_one {v : Value} (h : v.oneCell' = true) : v.cells = #[v] := by cases v <;> simp_all [Value.oneCell', Value.cells]
theorem ow_box1 {e : TypeId} {c1 : C} (hx : env.ev x = some (.cell c1)) (hK : ∀ b, K (.cell (.val (.pointer (some ⟨b, 0, none⟩)))) (.blk b e [c1] :: H)) : OpWp c ⟨d, .box e x, ty, pos, af, g⟩ env H K :=
  ow_new [c1] e (fun a w h => by
    have hr := ev_ok h hx
    exact ⟨[a.eval x], by simp [execOp, Instr.box, cells_one (rd1_one _ _ hr), newVar, newRow], _, _, rfl, hr, rfl⟩) hK
end
end Go.Vc
