import Derived.Test.YtjnfamgjffnfiaaDoorVcb
namespace Go.Vc
open Go.RowKit

/-- Chunks that are among others, in whatever order. -/
def Sub (H H' : List Ch) : Prop := ∃ is Hr, pick is H = some (H', Hr)
theorem sub_end {H : List Ch} : Sub H [] := ⟨[], H, rfl⟩
theorem sub_step {H Hs : List Ch} {ch : Ch} (i : Nat) (h : H[i]? = some ch) (h2 : Sub (H.eraseIdx i) Hs) : Sub H (ch :: Hs) := by
  obtain ⟨is, Hr, h2⟩ := h2
  exact ⟨i :: is, Hr, by simp only [pick, h, h2, Option.map_some]⟩

section
variable {P : Program} [Gl P] {nt : Nat} {c : Cx P nt} {env : Env} {H : List Ch}
theorem jc_loopS {ι : Type} (ks : List Nat) (I : ι → Prop) (ch : ι → Env) (HH : ι → List Ch) (μ : ι → Nat) (i : ι) {Q : Exit → Act → World → Prop} {code : Code} (hI : I i) (hp : Sub H (HH i)) (hE : Env.le (ch i ++ env.only ks) env)
    (hbody : ∀ i, I i → JC c code (Exit.then (fun a w => ∃ j, I j ∧ μ j < μ i ∧ St c (ch j ++ env.only ks) (HH j) a w) Q) (ch i ++ env.only ks) (HH i)) : JC c (.loop code) Q env H :=
  let ⟨is, _, hp⟩ := hp
  jc_loop ks I ch HH μ i is hI hp hE hbody
theorem jq_cutS {ι : Type} {I : ι → Prop} {E : ι → Env} {HH : ι → List Ch} {Q : Exit → Act → World → Prop} (i : ι) (hI : I i) (hp : Sub H (HH i)) (hE : Env.le (E i) env) :
    JQ c (Exit.then (fun a w => ∃ i, I i ∧ St c (E i) (HH i) a w) Q) .normal env H :=
  let ⟨is, _, hp⟩ := hp
  jq_cut i is hI hp hE
theorem jq_againS {ι : Type} {I : ι → Prop} {E : ι → Env} {HH : ι → List Ch} {μ : ι → Nat} {Q : Exit → Act → World → Prop} {i : ι} (j : ι) (hI : I j) (hμ : μ j < μ i) (hp : Sub H (HH j)) (hE : Env.le (E j) env) :
    JQ c (Exit.then (fun a w => ∃ j, I j ∧ μ j < μ i ∧ St c (E j) (HH j) a w) Q) .normal env H :=
  let ⟨is, _, hp⟩ := hp
  jq_again j is hI hμ hp hE
theorem jq_ret1S {fn : Func} {post : (S → List Ch → Prop) → Prop} {t : Tmp} {s : S} {Hout : List Ch} (hres : fn.results = #[.tmp t]) (hl : env.lookup t = some s) (hpost : ∀ K, post K → K s Hout) (hp : Sub H Hout) :
    JQ c (bodyPost P fn (RR c post)) .ret env H :=
  let ⟨is, _, hp⟩ := hp
  jq_ret1 hres hl is hp hpost
theorem jq_retRowS {fn : Func} {post : (S → List Ch → Prop) → Prop} {a : Tmp} {b : Nat} {bt t : TypeId} [TI P t] {row : List C} {Hx Hout : List Ch} (hres : fn.results = #[.cell a t]) (ha : aggB (TI.u P t) = true) (hz : (TI.i P t).size = row.length) (hl : env.lookup a = some (.cell (.val (.pointer (some ⟨b, 0, none⟩))))) (j : Nat) (hj : pick [j] H = some ([.blk b bt row], Hx)) (hpost : ∀ K, post K → K (.row row) Hout) (hp : Sub H Hout) :
    JQ c (bodyPost P fn (RR c post)) .ret env H :=
  let ⟨is, _, hp⟩ := hp
  jq_retRow hres ha hz hl j hj is hp hpost
end
end Go.Vc
