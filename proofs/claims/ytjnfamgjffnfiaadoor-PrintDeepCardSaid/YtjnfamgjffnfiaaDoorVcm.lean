import Derived.Test.YtjnfamgjffnfiaaDoorVcl
import Derived.Laws.StructEq
namespace Go.Vc
open Go.RowKit

section
variable {P : Program} [Gl P] {nt : Nat} {c : Cx P nt} {env : Env} {H : List Ch} {K : S → List Ch → Prop}
variable {d : Option Tmp} {ty t t' : TypeId} {pos : String} {af : Array Edge} {g : Option (Nat × Bool)} {x y : Operand}

/-- What is asked of a type of two integers, to compare its values. -/
structure Two (P : Program) (t : TypeId) (u : TypeId) (k : IntKind) : Prop where
  ht : P.underlying t = some (.struct (P.fieldsOf t))
  hp : P.stoodInHeld t = false
  hm : P.eqGuardType P.depth t = false
  hf : ∃ f0 f1, (P.fieldsOf t).toList = [f0, f1] ∧ f0.name ≠ "_" ∧ f1.name ≠ "_" ∧ f0.offset = 0 ∧ f1.offset = 1 ∧ f0.type = u ∧ f1.type = u
  hu : P.underlying u = some (.int k)
omit [Gl P] in
theorem run_eq_two {u : TypeId} [TI P u] {k : IntKind} (h : Two P t u k) (ha : aggB (TI.u P u) = false) (w : World) (a b a' b' : Int) : (Op.equalIn 10000 t (.agg #[.int k a, .int k b]) (.agg #[.int k a', .int k b'])).run P w = .ok (decide (a = a' ∧ b = b')) w := by
  obtain ⟨f0, f1, e, n0, n1, o0, o1, t0, t1⟩ := h.hf
  have hi : ∀ (x y : Int) (w : World), (Op.equalIn 9999 u (.int k x) (.int k y)).run P w = .ok (x == y) w := fun x y w => run_equalIn_int w 9998 u k k x y h.hu
  have p0 : ∀ (cs : Array Value) (v : Value) (i : Nat) (w : World), cs[i]? = some v → (part u cs i).run P w = .ok v w := by
    intro cs v i w hv
    simp only [part, Sem.run_bind, run_isAgg, ha, Result.andThen_ok, Bool.false_eq_true, if_false, hv, Sem.run_pure]
  rw [run_equalIn_agg w 9999 t _ _ h.ht h.hp, e]
  simp only [Op.eqFields, if_pos n0, if_pos n1, t0, t1, o0, o1, Sem.run_bind]
  rw [p0 #[.int k a, .int k b] (.int k a) 0 w rfl, Result.andThen_ok, p0 #[.int k a', .int k b'] (.int k a') 0 w rfl, Result.andThen_ok, hi, Result.andThen_ok]
  by_cases h1 : a = a'
  · subst h1
    simp only [beq_self_eq_true, Bool.not_true, Bool.false_eq_true, if_false, Sem.run_bind]
    rw [p0 #[.int k a, .int k b] (.int k b) 1 w rfl, Result.andThen_ok, p0 #[.int k a, .int k b'] (.int k b') 1 w rfl, Result.andThen_ok, hi, Result.andThen_ok]
    by_cases h2 : b = b'
    · subst h2
      simp
    · have : (b == b') = false := by simpa using h2
      simp [this, h2]
  · have : (a == a') = false := by simpa using h1
    simp [this, h1]
theorem ow_neqTwo {u : TypeId} [TI P u] {k : IntKind} {a b a' b' : Int} (h2 : Two P t u k) (ha : aggB (TI.u P u) = false) (hx : env.ev x = some (.row [.val (.int k a), .val (.int k b)])) (hy : env.ev y = some (.row [.val (.int k a'), .val (.int k b')]))
    (hK : K (Bl (decide (¬ (a = a' ∧ b = b')))) H) : OpWp c ⟨d, .binOp .neq t x y t', ty, pos, af, g⟩ env H K :=
  ow_valx rfl (fun ac w h => by
    have two : ∀ {z : Operand} {p q : Int}, env.ev z = some (.row [.val (.int k p), .val (.int k q)]) → ac.eval z = .agg #[.int k p, .int k q] := by
      intro z p q hz
      obtain ⟨cs, he, v0, r0, e0, ⟨rfl, _⟩, v1, r1, rfl, ⟨rfl, _⟩, hr⟩ := ev_ok h hz
      simp only [RdRow] at hr
      subst hr
      rw [he]
      congr 1
      apply Array.ext'
      rw [e0]
    have e := run_eq_two h2 ha w a b a' b'
    simp only [execOp, two hx, two hy, Sem.run_bind, run_eqGuard_agg w _ _ _ _ _ _ h2.hm, Result.andThen_ok, run_neq_struct, e, Sem.run_pure]
    simp) hK
end
end Go.Vc
