import Derived.Test.YtccojifhaoadbaaDoorVcg
import Derived.Laws.StructEq
namespace Go.Vc
open Go.RowKit
section
variable {P : Program} [Gl P] {nt : Nat} {c : Cx P nt} {env : Env} {H : List Ch} {K : S → List Ch → Prop}
variable {d : Option Tmp} {ty t t' : TypeId} {pos : String} {af : Array Edge} {g : Option (Nat × Bool)} {x y z : Operand}
theorem ow_addU8 {m n : Int} (hx : env.ev x = some (In .u8 m)) (hy : env.ev y = some (In .u8 n)) (hr : 0 ≤ m + n ∧ m + n ≤ 255) (hK : K (In .u8 (m + n)) H) : OpWp c ⟨d, .binOp .add t x y t', ty, pos, af, g⟩ env H K :=
  ow_add hx hy (by rw [wrap_u8 _ hr]; exact hK)
theorem ow_rem64 {m n : Int} (hx : env.ev x = some (In .i64 m)) (hy : env.ev y = some (In .i64 n)) (hm : 0 ≤ m) (h0 : 0 < n) (hK : K (In .i64 (m % n)) H) : OpWp c ⟨d, .binOp .rem t x y t', ty, pos, af, g⟩ env H K :=
  ow_rem hx hy (by omega) (by rw [Int.tmod_eq_emod_of_nonneg hm]; exact hK)
theorem ow_booleql [TI P t] (ht : TI.u P t = .bool) {a b : Bool} (hx : env.ev x = some (Bl a)) (hy : env.ev y = some (Bl b)) (hK : K (Bl (decide (a = b))) H) : OpWp c ⟨d, .binOp .eql t x y t', ty, pos, af, g⟩ env H K :=
  ow_valx rfl (fun _ w hs => by
    have hu : P.underlying t = some .bool := by rw [TI.hu (P := P) (t := t), ht]
    have e : (Op.equal t (.bool a) (.bool b)).run P w = .ok (a == b) w := run_equalIn_bool' w _ t a b hu
    simp [execOp, ev_val hs hx, ev_val hs hy, eqGuard, binOp, e]
    try (cases a <;> cases b <;> rfl)) hK
theorem ow_boolneq [TI P t] (ht : TI.u P t = .bool) {a b : Bool} (hx : env.ev x = some (Bl a)) (hy : env.ev y = some (Bl b)) (hK : K (Bl (decide (¬ a = b))) H) : OpWp c ⟨d, .binOp .neq t x y t', ty, pos, af, g⟩ env H K :=
  ow_valx rfl (fun _ w hs => by
    have hu : P.underlying t = some .bool := by rw [TI.hu (P := P) (t := t), ht]
    have e : (Op.equal t (.bool a) (.bool b)).run P w = .ok (a == b) w := run_equalIn_bool' w _ t a b hu
    simp [execOp, ev_val hs hx, ev_val hs hy, eqGuard, binOp, e]
    try (cases a <;> cases b <;> rfl)) hK
end
end Go.Vc
