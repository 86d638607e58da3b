import Derived.Test.YtjnfamgjffnfiaaDoorVcc
namespace Go.Vc
open Go.RowKit
section
variable {P : Program} [Gl P] {nt : Nat} {c : Cx P nt} {env : Env} {H : List Ch} {K : S → List Ch → Prop}
variable {d : Option Tmp} {ty t t' : TypeId} {pos : String} {af : Array Edge} {g : Option (Nat × Bool)} {x y : Operand}
/-- A field, of one cell, of a struct by value. -/
theorem ow_field1 {row : List C} {f off : Nat} {c1 : C} (ft : TypeId) [TI P t] [TI P ft] (hs : structB (TI.u P t) = true) (hx : env.ev x = some (.row row)) (hf : ((fieldsB (TI.u P t))[f]?).map (fun fl => (fl.type, fl.offset)) = some (ft, off)) (ha : aggB (TI.u P ft) = false)
    (hc : row[off]? = some c1) (hK : K (.cell c1) H) : OpWp c ⟨d, .field t x f, ty, pos, af, g⟩ env H K :=
  ow_val (fun a w h => by
    obtain ⟨cs, he, hr⟩ := ev_ok h hx
    obtain ⟨v, hv, hrd⟩ := rdRow_get hr hc
    refine ⟨v, ?_, hrd⟩
    cases hfl : (fieldsB (TI.u P t))[f]? with
    | none => rw [hfl] at hf; cases hf
    | some fl =>
      rw [hfl] at hf
      simp only [Option.map_some, Option.some.injEq, Prod.mk.injEq] at hf
      obtain ⟨rfl, rfl⟩ := hf
      have hv' : cs[fl.offset]? = some v := by simpa using hv
      simp only [execOp, he, Instr.field, Sem.run_bind, run_fields t hs, Result.andThen_ok, hfl, asAgg, Sem.run_pure, part, run_isAgg, ha, Bool.false_eq_true, if_false, hv']) hK
/-- No more is looked at. -/
theorem jc_reset {Q : Exit → Act → World → Prop} {code : Code} (env' : Env) (H' : List Ch) (hE : Env.le env' env) (hp : Sub H H') (h : JC c code Q env' H') : JC c code Q env H := fun a w hs => by
  obtain ⟨is, Hr, hp⟩ := hp
  have h1 := (hs.perm (pick_perm hp)).perm List.perm_append_comm
  exact h a w ((h1.drop).weaken hE)
end
end Go.Vc
