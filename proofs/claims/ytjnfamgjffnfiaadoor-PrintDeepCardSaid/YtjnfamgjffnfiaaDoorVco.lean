import Derived.Test.YtjnfamgjffnfiaaDoorVcn
namespace Go.Vc
open Go.RowKit

section
variable {P : Program} [Gl P] {nt : Nat} {c : Cx P nt} {env : Env} {H : List Ch}
theorem st_chg {a : Act} {w : World} {j : Nat} {ch ch' : Ch} {Hr : List Ch} (h : St c env H a w) (hp : pick [j] H = some ([ch], Hr)) (hb' : ch'.bs = ch.bs) (hnew : Ch.ok w (c.av H) ch') : St c env (ch' :: Hr) a w := by
  have h1 := h.perm (pick_perm hp)
  have hav : c.av (ch :: Hr) = c.av H := av_perm c (pick_perm hp)
  have hbb : hb (ch' :: Hr) = hb (ch :: Hr) := by simp only [hb, List.flatMap_cons, hb']
  have hav' : c.av (ch' :: Hr) = c.av H := by rw [← hav]; funext b; unfold Cx.av; rw [hbb]
  refine ⟨h.size, h.defers, fun i s hi => by rw [hav']; exact h.slots i s hi, h.heap.os, h.heap.tape, h.heap.output, h.heap.size, h.heap.block, ?_, by rw [hbb]; exact h1.heap.nodup, by rw [hbb]; exact h1.heap.mine, by rw [hav']; exact h.heap.gl⟩
  intro ch2 hch
  rw [hav']
  rcases List.mem_cons.1 hch with rfl | hch
  · exact hnew
  · rw [← hav]
    exact h1.heap.ok ch2 (List.mem_cons_of_mem _ hch)
/-- What is owned becomes what is only read: where the first cell of a block holds it. -/
theorem st_freezeBX {a : Act} {w : World} {v : Value} {e t : TypeId} {b k j j2 : Nat} {rows : List (List C)} {suf : List C} {Hr Hr2 : List Ch} (h : St c env H a w) (hp : pick [j] H = some ([.own v e k rows], Hr)) (hp2 : pick [j2] Hr = some ([.blk b t (.val v :: suf)], Hr2)) (hX : ∀ b ∈ c.X, b ∈ hb Hr) :
    St c env (.blk b t (.list rows :: suf) :: Hr2) a w := by
  have h' : StW c (.own v e k rows :: Hr) w := h.heap.perm (pick_perm hp)
  have hav : c.av (.own v e k rows :: Hr) = c.av H := av_perm c (pick_perm hp)
  obtain ⟨f1, f2, f3⟩ := stw_freeze h' hX
  have hs : St c env Hr a w := ⟨h.size, h.defers, fun t s hl => f3 _ _ (by rw [hav]; exact h.slots t s hl), f1⟩
  obtain ⟨cs, g1, g2⟩ := blk_ok hs hp2
  refine st_row hs hp2 ⟨cs, g1, ?_⟩
  obtain ⟨v0, r0, e0, g3, g4⟩ := g2
  refine ⟨v0, r0, e0, ?_, g4⟩
  obtain rfl : v0 = v := g3.1
  exact f2
theorem jc_freezeBX {Q : Exit → Act → World → Prop} {code : Code} (j j2 : Nat) {v : Value} {e t : TypeId} {b k : Nat} {rows : List (List C)} {suf : List C} {Hr Hr2 : List Ch} (hp : pick [j] H = some ([.own v e k rows], Hr)) (hp2 : pick [j2] Hr = some ([.blk b t (.val v :: suf)], Hr2)) (hX : ∀ b ∈ c.X, b ∈ hb Hr)
    (h : JC c code Q env (.blk b t (.list rows :: suf) :: Hr2)) : JC c code Q env H := fun a w hs => h a w (st_freezeBX hs hp hp2 hX)
/-- .. where the first element of a slice of one's own holds it. -/
theorem st_freezeO {a : Act} {w : World} {v v2 : Value} {e e2 : TypeId} {k k2 j j2 : Nat} {rows : List (List C)} {suf : List C} {rest : List (List C)} {Hr Hr2 : List Ch} (h : St c env H a w) (hp : pick [j] H = some ([.own v e k rows], Hr)) (hp2 : pick [j2] Hr = some ([.own v2 e2 k2 ((.val v :: suf) :: rest)], Hr2)) (hX : ∀ b ∈ c.X, b ∈ hb Hr) :
    St c env (.own v2 e2 k2 ((.list rows :: suf) :: rest) :: Hr2) a w := by
  have h' : StW c (.own v e k rows :: Hr) w := h.heap.perm (pick_perm hp)
  have hav : c.av (.own v e k rows :: Hr) = c.av H := av_perm c (pick_perm hp)
  obtain ⟨f1, f2, f3⟩ := stw_freeze h' hX
  have hs : St c env Hr a w := ⟨h.size, h.defers, fun t s hl => f3 _ _ (by rw [hav]; exact h.slots t s hl), f1⟩
  obtain ⟨vs, g1, g2, g3⟩ := hs.heap.ok (.own v2 e2 k2 ((.val v :: suf) :: rest)) ((pick_perm hp2).mem_iff.2 (by simp))
  refine st_chg hs hp2 rfl ⟨vs, g1, ?_, g3⟩
  obtain ⟨cs, r, e0, hl, hr1, hr2⟩ := g2
  refine ⟨cs, r, e0, hl, ?_, hr2⟩
  obtain ⟨v0, r0, e1, g4, g5⟩ := hr1
  refine ⟨v0, r0, e1, ?_, g5⟩
  obtain rfl : v0 = v := g4.1
  exact f2
theorem jc_freezeO {Q : Exit → Act → World → Prop} {code : Code} (j j2 : Nat) {v v2 : Value} {e e2 : TypeId} {k k2 : Nat} {rows : List (List C)} {suf : List C} {rest : List (List C)} {Hr Hr2 : List Ch} (hp : pick [j] H = some ([.own v e k rows], Hr)) (hp2 : pick [j2] Hr = some ([.own v2 e2 k2 ((.val v :: suf) :: rest)], Hr2)) (hX : ∀ b ∈ c.X, b ∈ hb Hr)
    (h : JC c code Q env (.own v2 e2 k2 ((.list rows :: suf) :: rest) :: Hr2)) : JC c code Q env H := fun a w hs => h a w (st_freezeO hs hp hp2 hX)
end
end Go.Vc
