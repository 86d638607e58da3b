import Derived.Test.YtjnfamgjffnfiaaDoorPdb
import Derived.Test.YtjnfamgjffnfiaaDoorPda
namespace Go.Proofs.YtjnfamgjffnfiaaDoor
open Go.ChangeShapes Go.WideShapes Go.ChangeAt Go.RowKit Go.Vc

section
variable {H : Type} {enc : TypeId × Value → H} {P : Program}
def boolOf (y : DataW H × List MemPlace) : Bool := match y.1 with | .lit (.bool b) => b | _ => false
/-- A slice of bools that came in. -/
theorem rd_bools {W : World} {t e : TypeId} (ht : P.underlying t = some (.slice e)) (he : P.underlying e = some .bool) (hc : P.cellsOf e = 1) {v : Value} {d : DataW H} {ps : List MemPlace} (hs : ∃ a len cap, v = .slice a len cap)
    (h : DataW.Trod enc P W 0 (fun _ => true) true t v d ps) : ∃ L : List Bool, Rd1 W (fun _ => False) (.list (L.map Lbrow)) v := by
  obtain ⟨a0, len0, cap0, rfl⟩ := hs
  obtain ⟨fuel, hf⟩ := h
  rcases DataW.trod_slice ht hf with ⟨hn, _⟩ | ⟨a, len, cap, elems, rest, n, _, hcs, _, hb, hle, hcap, hlen, hel, _, _⟩
  · simp only [Value.cells, List.cons.injEq, Value.slice.injEq, and_true] at hn
    obtain ⟨rfl, rfl, rfl⟩ := hn
    exact ⟨[], none, 0, rfl, Nat.le_refl _, Nat.zero_le _, .inl rfl⟩
  · simp only [Value.cells, List.cons.injEq, Value.slice.injEq, and_true] at hcs
    obtain ⟨rfl, rfl, rfl⟩ := hcs
    have hcell : ∀ i y, elems[i]? = some y → W.cell? (a.add i) = some (.bool (boolOf y)) := by
      intro i y hy
      have hi : i < len0 := by
        have := (List.getElem?_eq_some_iff.1 hy).1
        omega
      have hb' := hel i hi
      rw [hy, hc, Nat.mul_one, Option.bind_eq_some_iff] at hb'
      obtain ⟨cs', hcs, hy'⟩ := hb'
      obtain ⟨b, rfl, rfl⟩ := DataW.trod_bool he hy'
      exact cell_of_cells?_one hcs
    refine ⟨elems.map boolOf, some a, cap0, by rw [List.length_map, List.length_map, hlen], by rw [List.length_map, List.length_map, hlen]; exact hle, hcap, ?_⟩
    by_cases h0 : len0 = 0
    · exact .inl (by rw [List.length_map, List.length_map, hlen]; exact h0)
    · have h1 := hcell 0 elems[0] (by simp)
      have hsp : a.spot = none := by simpa [Addr.add] using World.cell?_spot h1
      obtain ⟨b, off, sp⟩ := a
      simp only at hsp
      subst hsp
      refine .inr ⟨b, off, (elems.map boolOf).map Value.bool, 1, rfl, id, ?_, Nat.one_pos, ?_⟩
      · intro j u hj
        rw [List.getElem?_map, List.getElem?_map, Option.map_eq_some_iff] at hj
        obtain ⟨z, hz1, rfl⟩ := hj
        rw [Option.map_eq_some_iff] at hz1
        obtain ⟨y, hy, rfl⟩ := hz1
        have := hcell j y hy
        rw [add_at] at this
        exact this
      · generalize elems.map boolOf = L
        induction L with
        | nil => rfl
        | cons n L ih => exact ⟨[.bool n], L.map Value.bool, rfl, rfl, ⟨_, _, rfl, ⟨rfl, rfl⟩, rfl⟩, ih⟩
end
theorem cellsB : Tryd.prog.cellsOf 4 = 1 := by kernel_rfl
/-- A world for the witness: as the program's start lays it. -/
noncomputable def laidWorld (os : Os) : World := World.doorLaid Tryd.prog 400 os
theorem laid_met (os : Os) (args : Array Value) : laidMet Tryd.prog Rows.printDeepRow.laid ((laidWorld os).forCall (fun _ _ => 0) ⟨#[], args, []⟩).memory :=
  laidMet_of_run' 8 (by kernel_rfl) (by kernel_rfl)
end Go.Proofs.YtjnfamgjffnfiaaDoor
