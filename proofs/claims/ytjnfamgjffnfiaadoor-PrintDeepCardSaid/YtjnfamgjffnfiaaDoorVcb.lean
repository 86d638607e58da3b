import Derived.Test.YtjnfamgjffnfiaaDoorVca
import Derived.Laws.BytesString
namespace Go.Vc
open Go.RowKit

section
variable {P : Program} [Gl P] {nt : Nat} {c : Cx P nt} {env : Env} {H : List Ch} {K : S → List Ch → Prop}
variable {d : Option Tmp} {ty t t' : TypeId} {pos : String} {af : Array Edge} {g : Option (Nat × Bool)} {x y : Operand}

/-! The front of a slice that is only read -/
theorem ow_prefix [SL P t] {rows : List (List C)} {m : Int} (hx : env.ev x = some (.cell (.list rows))) (hy : env.ev y = some (In .i64 m)) (h0 : 0 ≤ m) (hle : m.toNat ≤ rows.length)
    (hK : K (.cell (.list (rows.take m.toNat))) H) : OpWp c ⟨d, .slice t x none (some y) none, ty, pos, af, g⟩ env H K :=
  ow_val (fun a w h => by
    obtain ⟨ad, cap, he, h1, h2, hb⟩ := ev_ok h hx
    refine ⟨.slice ad m.toNat cap, ?_, ?_⟩
    · have hb : 0 ≤ m ∧ m ≤ (cap : Int) := ⟨h0, by omega⟩
      simp [execOp, he, ev_val h hy, Instr.sliceAt, Instr.slice, Instr.sliceBounds, Instr.sliceBound, asIntOf, run_elem t, run_sizeOf, hb]
      intro _
      cases ad <;> simp [Addr.add]
    · have hlen : (rows.take m.toNat).length = m.toNat := by simp; omega
      refine ⟨ad, cap, by rw [hlen], by omega, h2, ?_⟩
      rcases hb with hb | ⟨b, off, vs, k, rfl, hA, hc, hk, hr⟩
      · exact .inl (by omega)
      · exact .inr ⟨b, off, vs.take (m.toNat * k), k, rfl, hA, cells_take hc _, hk, rdRows_take _ hr hle⟩) hK

/-! Bytes to a string -/
abbrev Brow (n : Int) : List C := [.val (.int .u8 n)]
def bytesOf (l : List Int) : ByteArray := l.foldl (fun r n => r.push (UInt8.ofNat n.toNat)) ByteArray.empty
theorem brows_eq {w : World} {A : Nat → Prop} {k : Nat} : ∀ {l : List Int} {vs : List Value}, RdRows w A k (l.map Brow) vs → vs = l.map (Value.int .u8)
  | [], vs, h => by simpa [RdRows] using h
  | n :: l, vs, h => by
    obtain ⟨c0, r, rfl, _, ⟨v, r0, rfl, h1, h2⟩, h3⟩ := h
    simp only [RdRow] at h2
    subst h2
    rw [brows_eq h3, h1.1]
    rfl
theorem ow_bytesToString [SL P t] [TI P t'] (hd : TI.u P t' = .string) (he : TI.u P (SL.e P t) = .int .u8) {l : List Int} (hx : env.ev x = some (.cell (.list (l.map Brow)))) (hK : K (Str (bytesOf l)) H) : OpWp c ⟨d, .convert t t' x, ty, pos, af, g⟩ env H K :=
  ow_valx rfl (fun a w h => by
    obtain ⟨ad, cap, hxe, h1, h2, hb⟩ := ev_ok h hx
    have e1 := run_convert_bytes_string (P := P) w t t' (SL.e P t) ad (l.map Brow).length cap SL.hs (by rw [TI.hu (P := P) (t := SL.e P t), he]) (by rw [TI.hu (P := P) (t := t'), hd])
    have e2 : (Conv.bytesToString (.slice ad (l.map Brow).length cap)).run P w = .ok (.string (bytesOf l)) w := by
      rcases hb with hb | ⟨b, off, vs, k, rfl, hA, hc, hk, hr⟩
      · have : l = [] := by simpa using hb
        subst this
        cases ad with
        | none => simp [Conv.bytesToString, bytesOf]
        | some p => simp [Conv.bytesToString, loadCells, loadCellsFrom, bytesOf]
      · have hv := brows_eq hr
        subst hv
        exact run_bytesToString w _ _ cap l (by rw [List.length_map]; simpa using cells_load hc P)
    simp only [execOp, hxe, Sem.run_bind, e1, e2, Result.andThen_ok, Sem.run_pure]) hK

theorem wrap_u8 (n : Int) (h : 0 ≤ n ∧ n ≤ 255) : IntKind.u8.wrap n = n := by
  have e : IntKind.u8.wrap n = n % 256 := by simp [IntKind.wrap, IntKind.signed, IntKind.bits]
  rw [e]; omega
theorem ow_convU8 [TI P t'] [TI P t] {m : Int} {k' : IntKind} (hu : TI.u P t' = .int .u8) (hs : TI.u P t = .int k') (hx : env.ev x = some (In k' m)) (hr : 0 ≤ m ∧ m ≤ 255) (hK : K (In .u8 m) H) : OpWp c ⟨d, .convert t t' x, ty, pos, af, g⟩ env H K :=
  ow_convInt hu hs hx (by rw [wrap_u8 _ hr]; exact hK)
end

section
variable {P : Program} [Gl P] {nt : Nat} {c : Cx P nt} {env : Env} {H : List Ch}
/-! What a block's cell holds: a slice of one's own that will not turn any more -/
theorem st_freezeB {a : Act} {w : World} {io ib : Nat} (i : Nat) {v : Value} {e : TypeId} {k : Nat} {rows : List (List C)} {b : Nat} {t : TypeId} {row : List C} {Hr : List Ch} (h : St c env H a w) (hp : pick [io, ib] H = some ([.own v e k rows, .blk b t row], Hr)) (hi : row[i]? = some (.val v)) (hX : c.Fresh v) :
    St c env (.blk b t (row.set i (.list rows)) :: Hr) a w := by
  have h1 := h.perm (pick_perm hp)
  have h' : StW c (.own v e k rows :: .blk b t row :: Hr) w := h1.heap
  obtain ⟨f1, f2, f3⟩ := stw_freezeF h' hX
  have h2 : St c env (.blk b t row :: Hr) a w := ⟨h1.size, h1.defers, fun i s hs => f3 _ _ (h1.slots i s hs), f1⟩
  obtain ⟨cs, g1, g2⟩ := h2.heap.ok (.blk b t row) (by simp)
  refine st_row (j := 0) h2 rfl ⟨cs, g1, ?_⟩
  obtain ⟨u, hu, hr⟩ := rdRow_get g2 hi
  have := rdRow_set (i := i) g2 (c := .list rows) (v := u) (by rw [hr.1]; exact f2)
  obtain ⟨hlt, rfl⟩ := List.getElem?_eq_some_iff.1 hu
  rwa [List.set_getElem_self] at this
theorem jc_freezeB {Q : Exit → Act → World → Prop} {code : Code} (io ib i : Nat) {v : Value} {e : TypeId} {k : Nat} {rows : List (List C)} {b : Nat} {t : TypeId} {row : List C} {Hr : List Ch} (hp : pick [io, ib] H = some ([.own v e k rows, .blk b t row], Hr)) (hi : row[i]? = some (.val v)) (hX : c.Fresh v)
    (h : JC c code Q env (.blk b t (row.set i (.list rows)) :: Hr)) : JC c code Q env H := fun a w hs => h a w (st_freezeB i hs hp hi hX)
theorem jl_freezeB {ops : Array Oper} {l : List Oper} {Q : Exit → Act → World → Prop} (io ib i : Nat) {v : Value} {e : TypeId} {k : Nat} {rows : List (List C)} {b : Nat} {t : TypeId} {row : List C} {Hr : List Ch} (hp : pick [io, ib] H = some ([.own v e k rows, .blk b t row], Hr)) (hi : row[i]? = some (.val v)) (hX : c.Fresh v)
    (h : JL c ops Q l env (.blk b t (row.set i (.list rows)) :: Hr)) : JL c ops Q l env H := fun a w hs => h a w (st_freezeB i hs hp hi hX)
theorem jq_freezeB {ex : Exit} {Q : Exit → Act → World → Prop} (io ib i : Nat) {v : Value} {e : TypeId} {k : Nat} {rows : List (List C)} {b : Nat} {t : TypeId} {row : List C} {Hr : List Ch} (hp : pick [io, ib] H = some ([.own v e k rows, .blk b t row], Hr)) (hi : row[i]? = some (.val v)) (hX : c.Fresh v)
    (h : JQ c Q ex env (.blk b t (row.set i (.list rows)) :: Hr)) : JQ c Q ex env H := fun a w hs => h a w (st_freezeB i hs hp hi hX)
end
end Go.Vc
