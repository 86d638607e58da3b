import Derived.Test.YtjnfamgjffnfiaaDoorVcg
import Derived.Laws.StructEq
namespace Go.Vc
open Go.RowKit
section
variable {P : Program} [Gl P] {nt : Nat} {c : Cx P nt} {env : Env} {H : List Ch} {K : S → List Ch → Prop}
variable {d : Option Tmp} {ty t t' : TypeId} {pos : String} {af : Array Edge} {g : Option (Nat × Bool)} {x y z : Operand}
theorem ow_addU8 {m n : Int} (hx : env.ev x = some (In .u8 m)) (hy : env.ev y = some (In .u8 n)) (hr : 0 ≤ m + n ∧ m + n ≤ 255) (hK : K (In .u8 (m + n)) H) : OpWp c ⟨d, .binOp .add t x y t', ty, pos, af, g⟩ env H K :=
  ow_add hx hy (by rw [wrap_u8 _ hr]; exact hK)
theorem ow_rem64 {m n : Int} (hx : env.ev x = some (In .i64 m)) (hy : env.ev y = some (In .i64 n)) (hm : 0 ≤ m) (h0 : 0 < n) (hK : K (In .i64 (m % n)) H) : OpWp c ⟨d, .binOp .rem t x y t', ty, pos, af, g⟩ env H K :=
  ow_rem hx hy (by omega) (by rw [Int.tmod_eq_emod_of_nonneg hm]; exact hK)
theorem ow_booleql [TI P t] (ht : TI.u P t = .bool) {a b : Bool} (hx : env.ev x = some (Bl a)) (hy : env.ev y = some (Bl b)) (hK : K (Bl (decide (a = b))) H) : OpWp c ⟨d, .binOp .eql t x y t', ty, pos, af, g⟩ env H K :=
  ow_valx rfl (fun _ w hs => by
    have hu : P.underlying t = some .bool := by rw [TI.hu (P := P) (t := t), ht]
    have e : (Op.equal t (.bool a) (.bool b)).run P w = .ok (a == b) w := run_equalIn_bool' w _ t a b hu
    simp [execOp, ev_val hs hx, ev_val hs hy, eqGuard, binOp, e]
    try (cases a <;> cases b <;> rfl)) hK
theorem ow_boolneq [TI P t] (ht : TI.u P t = .bool) {a b : Bool} (hx : env.ev x = some (Bl a)) (hy : env.ev y = some (Bl b)) (hK : K (Bl (decide (¬ a = b))) H) : OpWp c ⟨d, .binOp .neq t x y t', ty, pos, af, g⟩ env H K :=
  ow_valx rfl (fun _ w hs => by
    have hu : P.underlying t = some .bool := by rw [TI.hu (P := P) (t := t), ht]
    have e : (Op.equal t (.bool a) (.bool b)).run P w = .ok (a == b) w := run_equalIn_bool' w _ t a b hu
    simp [execOp, ev_val hs hx, ev_val hs hy, eqGuard, binOp, e]
    try (cases a <;> cases b <;> rfl)) hK
theorem ow_remU8 {m n : Int} (hx : env.ev x = some (In .u8 m)) (hy : env.ev y = some (In .u8 n)) (hm : 0 ≤ m) (h0 : 0 < n) (hK : K (In .u8 (m % n)) H) : OpWp c ⟨d, .binOp .rem t x y t', ty, pos, af, g⟩ env H K :=
  ow_rem hx hy (by omega) (by rw [Int.tmod_eq_emod_of_nonneg hm]; exact hK)
theorem ow_shr1 {m : Int} (hx : env.ev x = some (In .u64 m)) (hy : env.ev y = some (In .u64 1)) (_hm : 0 ≤ m) (hK : K (In .u64 (m / 2)) H) : OpWp c ⟨d, .binOp .shr t x y t', ty, pos, af, g⟩ env H K :=
  ow_shr hx hy (by omega) (by
    rw [show (2 : Int) ^ (min (1 : Int).toNat IntKind.u64.bits) = 2 from rfl, Int.fdiv_eq_ediv_of_nonneg m (by omega)]
    exact hK)
/-- An element at an index that is known, of whatever kind of integer. -/
theorem ow_indexAddrN [SL P t] {rows : List (List C)} {k : IntKind} {m : Int} {row : List C} (i : Nat) (hx : env.ev x = some (.cell (.list rows))) (hy : env.ev y = some (In k m)) (hm : m = (i : Int)) (hrow : rows[i]? = some row)
    (hz : (TI.i P (SL.e P t)).size = row.length) (hp : 0 < row.length) (hK : K (.cell (.place row)) H) : OpWp c ⟨d, .indexAddr t x y, ty, pos, af, g⟩ env H K :=
  ow_val (fun a w h => by
    subst hm
    obtain ⟨hlt, _⟩ := List.getElem?_eq_some_iff.1 hrow
    obtain ⟨ad, cap, he, _, _, hb⟩ := ev_ok h hx
    rcases hb with hb | ⟨b, off, vs, k, rfl, hA, hc, hk, hr⟩
    · omega
    · obtain ⟨cs, h1, h2, h3⟩ := rdRows_get hr hc hrow
      have hkl : k = row.length := by rw [← h2, rdRow_length h1]
      refine ⟨.pointer (some ⟨b, off + i * k, none⟩), ?_, b, _, cs, rfl, hA, hp, h3, h1⟩
      have : (0 : Int) ≤ (i : Int) ∧ (i : Int) < ↑rows.length := ⟨by omega, by omega⟩
      simp [execOp, he, ev_val h hy, Instr.indexAt, asIntOf, run_elem t, this, run_sizeOf, add_at, hz, hkl]
      intro hle
      exact absurd hle (by omega)) hK
end
end Go.Vc
