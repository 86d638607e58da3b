import Derived.Test.YtjnfamgjffnfiaaDoorProg
import Derived.Test.YtjnfamgjffnfiaaDoorVcp
import Derived.Lib.LaidTab
import Derived.Lib.ItoaNum
namespace Go.Proofs.YtjnfamgjffnfiaaDoor
open Go.Vc

/-! What is known of package variables: the table of the powers of ten, the keywords, the signs -/
def words : List ByteArray := [⟨#[114, 101, 115, 111, 117, 114, 99, 101]⟩, ⟨#[115, 104, 97, 114, 101, 100]⟩, ⟨#[116, 97, 115, 107]⟩, ⟨#[112, 101, 114, 105, 111, 100]⟩, ⟨#[100, 101, 97, 100, 108, 105, 110, 101]⟩, ⟨#[112, 114, 105, 111, 114, 105, 116, 121]⟩, ⟨#[106, 105, 116, 116, 101, 114]⟩, ⟨#[105, 110, 112, 117, 116]⟩, ⟨#[118, 97, 114]⟩, ⟨#[97, 114, 114, 97, 121]⟩, ⟨#[109, 111, 100, 101]⟩, ⟨#[110, 101, 118, 101, 114]⟩, ⟨#[98, 111, 100, 121]⟩, ⟨#[101, 110, 100]⟩, ⟨#[105, 102]⟩, ⟨#[108, 97, 98, 101, 108]⟩, ⟨#[101, 108, 115, 101]⟩, ⟨#[119, 104, 105, 108, 101]⟩, ⟨#[109, 97, 120]⟩, ⟨#[108, 111, 99, 107]⟩]
def signL : List ByteArray := [⟨#[43]⟩, ⟨#[45]⟩, ⟨#[42]⟩, ⟨#[47]⟩, ⟨#[37]⟩, ⟨#[38]⟩, ⟨#[124]⟩, ⟨#[94]⟩, ⟨#[60, 60]⟩, ⟨#[62, 62]⟩, ⟨#[60]⟩, ⟨#[60, 61]⟩, ⟨#[61, 61]⟩, ⟨#[33, 61]⟩]
abbrev Wrow (s : ByteArray) : List C := [.val (.string s)]
def pow10Ok (w : World) (A : Nat → Prop) : Prop := ∃ g, Tryd.prog.globalNamed "internal/strconv.uint64pow10" = some g ∧ ¬ A g ∧ Lib.TabIs Tryd.prog w "internal/strconv.uint64pow10" .u64 Lib.pow10Tab
theorem pow10_up {w w' : World} {A A' : Nat → Prop} (hu : Up A w w') (hA : ∀ b, A' b → A b ∨ w.heap.size ≤ b) (h : pow10Ok w A) : pow10Ok w' A' := by
  obtain ⟨g, h1, h2, h3⟩ := h
  have hlt : g < w.heap.size := by
    rcases Nat.lt_or_ge g w.heap.size with h | h
    · exact h
    · unfold Lib.TabIs World.var? at h3
      rw [h1] at h3
      simp only [Option.bind_some, Array.getElem?_eq_none h] at h3
      cases h3
  refine ⟨g, h1, fun h => (hA g h).elim h2 (by omega), ?_⟩
  unfold Lib.TabIs World.var? at h3 ⊢
  rw [h1] at h3 ⊢
  simp only [Option.bind_some] at h3 ⊢
  rw [hu.block g hlt h2]
  exact h3
instance gl : Gl Tryd.prog where
  ok w A := pow10Ok w A ∧ GV w A 1 [.list (words.map Wrow)] ∧ GV w A 0 (signL.map (fun s => .val (.string s)))
  up := fun hu hA ⟨h1, h2, h3⟩ => ⟨pow10_up hu hA h1, h2.up hu hA, h3.up hu hA⟩
theorem gl_words (w : World) (A : Nat → Prop) (h : Gl.ok Tryd.prog w A) : GV w A 1 [.list (words.map Wrow)] := h.2.1
theorem gl_signs (w : World) (A : Nat → Prop) (h : Gl.ok Tryd.prog w A) : GV w A 0 (signL.map (fun s => .val (.string s))) := h.2.2
end Go.Proofs.YtjnfamgjffnfiaaDoor
