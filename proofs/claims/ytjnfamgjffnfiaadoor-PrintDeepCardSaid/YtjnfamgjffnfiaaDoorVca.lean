import Derived.Test.YtjnfamgjffnfiaaDoorVc9
namespace Go.Vc
open Go.RowKit
def RowsLe : List (List C) → List (List C) → Prop
  | [], rs => rs = []
  | r :: q, rs => ∃ r' q', rs = r' :: q' ∧ RowLe r r' ∧ RowsLe q q'
theorem RowsLe.nil : RowsLe [] [] := rfl
theorem RowsLe.cons {r r' : List C} {q q' : List (List C)} (h : RowLe r r') (hq : RowsLe q q') : RowsLe (r :: q) (r' :: q') := ⟨_, _, rfl, h, hq⟩
theorem RowsLe.len : ∀ {q q' : List (List C)}, RowsLe q q' → q'.length = q.length
  | [], _, h => by cases h; rfl
  | _ :: _, _, ⟨_, _, e, _, h⟩ => by subst e; simp [h.len]
theorem RowsLe.rd {w : World} {A : Nat → Prop} {k : Nat} : ∀ {q q' : List (List C)} {vs : List Value}, RowsLe q q' → RdRows w A k q vs → RdRows w A k q' vs
  | [], _, _, h, hr => by cases h; exact hr
  | _ :: _, _, _, ⟨_, _, e, h1, h2⟩, ⟨c, r, e2, g1, g2, g3⟩ => by subst e; exact ⟨c, r, e2, g1, h1 w A c g2, h2.rd g3⟩
theorem CLe.list {q q' : List (List C)} (h : RowsLe q q') : CLe (.list q) (.list q') := by
  intro w A v hv
  unfold Rd1 at hv ⊢
  rw [h.len]
  obtain ⟨ad, cap, g1, g2, g3, g4⟩ := hv
  refine ⟨ad, cap, g1, g2, g3, ?_⟩
  rcases g4 with g4 | ⟨b, off, vs, k, e1, e2, e3, e4, e5⟩
  · exact .inl g4
  · exact .inr ⟨b, off, vs, k, e1, e2, e3, e4, h.rd e5⟩
theorem SLe.cell {c c' : C} (h : CLe c c') : SLe (.cell c) (.cell c') := fun w A v hv => h w A v hv

section
variable {P : Program} [Gl P] {nt : Nat} {c : Cx P nt} {env : Env} {H : List Ch} {K : S → List Ch → Prop}
variable {d : Option Tmp} {ty t t' : TypeId} {pos : String} {af : Array Edge} {g : Option (Nat × Bool)} {x y : Operand}
/-- A call that leaves what it is lent, in a region whose order is drawn. -/
theorem ow_callA {Hin Hr : List Ch} {f : FuncId} [FI P f] {xs : Array Operand} {at_ : Array TypeId} {ss : List S} {s0 : S} (is : List Nat) (hx : env.evs xs.toList = some ss) (hp : pick is H = some (Hin, Hr)) (con : Con P f ss Hin (fun K => K s0 Hin)) :
    OpWp c ⟨d, .call { callee := .value (.func f), args := xs, argTypes := at_ }, ty, pos, af, g⟩ env H (fun s' H' => s' = s0 ∧ H'.Perm H) :=
  ow_call1 is hx hp con ⟨rfl, (pick_perm hp).symm⟩
theorem jq_slot {ι : Type} {Q : Exit → Act → World → Prop} {ex : Exit} {f : ι → S} (t : Nat) (hl : env.lookup t = some (.ex f)) (h : ∀ i, JQ c Q ex ((t, f i) :: env) H) : JQ c Q ex env H :=
  fun a w hs => let ⟨i, hi⟩ := st_slot hs hl; h i a w hi
end
end Go.Vc
