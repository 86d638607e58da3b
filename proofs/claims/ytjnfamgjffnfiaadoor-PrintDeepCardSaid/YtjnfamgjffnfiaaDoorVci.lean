import Derived.Test.YtjnfamgjffnfiaaDoorVch
namespace Go.Vc
open Go.RowKit

/-! Stores into a slice of one's own -/
theorem rdRows_store {w : World} {A : Nat → Prop} {k : Nat} {r : List C} {rv : List Value} {o : Nat} (hr : RdRow w A r rv) (hle : o + r.length ≤ k) : ∀ {rows : List (List C)} {vs : List Value} {i : Nat} {row : List C}, RdRows w A k rows vs → rows[i]? = some row →
    RdRows w A k (rows.set i (row.take o ++ r ++ row.drop (o + r.length))) (vs.take (i * k + o) ++ rv ++ vs.drop (i * k + o + rv.length))
  | [], _, _, _, _, h => by simp at h
  | r0 :: rows, vs, i, row, h, hi => by
    have hl := rdRow_length hr
    obtain ⟨c0, rest, rfl, h1, h2, h3⟩ := h
    cases i with
    | zero =>
      simp only [List.getElem?_cons_zero, Option.some.injEq] at hi
      subst hi
      refine ⟨c0.take o ++ rv ++ c0.drop (o + rv.length), rest, ?_, ?_, ?_, h3⟩
      · rw [Nat.zero_mul, Nat.zero_add, List.take_append_of_le_length (by omega), List.drop_append_of_le_length (by omega)]
        simp
      · simp only [List.length_append, List.length_take, List.length_drop]; omega
      · rw [hl]
        exact rdRow_append (rdRow_append (rdRow_take o h2) hr) (rdRow_drop _ h2)
    | succ i =>
      have ih := rdRows_store (o := o) hr hle h3 (show rows[i]? = some row by simpa using hi)
      refine ⟨c0, _, ?_, h1, h2, ih⟩
      have e1 : (i + 1) * k + o = c0.length + (i * k + o) := by rw [Nat.add_mul, h1]; omega
      rw [e1, List.take_length_add_append, show c0.length + (i * k + o) + rv.length = c0.length + (i * k + o + rv.length) by omega, List.drop_length_add_append]
      simp

theorem store_lists {α : Type} (cur rv : List α) (n off len : Nat) (hl : rv.length = len) (h1 : off + len ≤ n) (h2 : n ≤ cur.length) :
    (cur.take off ++ rv ++ cur.drop (off + len)).length = cur.length ∧ (cur.take off ++ rv ++ cur.drop (off + len)).take n = (cur.take n).take off ++ rv ++ (cur.take n).drop (off + len) := by
  constructor
  · simp only [List.length_append, List.length_take, List.length_drop]; omega
  · rw [List.append_assoc, List.append_assoc, List.take_append, List.take_append, List.take_take, List.take_take, List.length_take, List.drop_take, show min n off = off by omega, show min off n = off by omega, show min off cur.length = off by omega, List.take_of_length_le (show rv.length ≤ n - off by omega), hl, show n - off - len = n - (off + len) by omega]

section
variable {P : Program} [Gl P] {nt : Nat} {c : Cx P nt} {env : Env} {H : List Ch} {K : S → List Ch → Prop}
variable {d : Option Tmp} {ty t t' : TypeId} {pos : String} {af : Array Edge} {g : Option (Nat × Bool)} {x y : Operand}

/-- The field of an element of a slice of one's own. -/
theorem ow_fieldAddrInn {v : Value} {o f off size : Nat} [TI P t] [TS P t] (hs : structB (TI.u P t) = true) (hx : env.ev x = some (.cell (.inn v o))) (hf : (TS.pl P t)[f]? = some (off, size))
    (hz : 0 < size) (hK : K (.cell (.inn v (o + off))) H) : OpWp c ⟨d, .fieldAddr t x f, ty, pos, af, g⟩ env H K :=
  ow_val (fun a w h => by
    obtain ⟨b, n, cap, hv, hxe⟩ := ev_ok h hx
    refine ⟨.pointer (some ⟨b, o + off, none⟩), ?_, b, n, cap, hv, rfl⟩
    simp only [execOp, hxe, Sem.run_bind, run_fieldAt t hs hf hz, Result.andThen_ok, Sem.run_pure]) hK

/-- An element as a whole. -/
theorem ow_loadInnN [TI P t] {v : Value} {e : TypeId} {k off : Nat} {rows : List (List C)} {Hr : List Ch} {row : List C} (j i : Nat) (ha : aggB (TI.u P t) = true) (hx : env.ev x = some (.cell (.inn v off))) (hp : pick [j] H = some ([.own v e k rows], Hr)) (hoff : off = i * k)
    (hi : rows[i]? = some row) (hz : (TI.i P t).size = k) (hK : K (.row row) H) : OpWp c ⟨d, .load t x, ty, pos, af, g⟩ env H K :=
  ow_val (fun a w h => by
    obtain ⟨b, n, cap, hv, hxe⟩ := ev_ok h hx
    subst hv
    obtain ⟨vs, ho, hr, hk⟩ := h.heap.ok (.own (.slice (some ⟨b, 0, none⟩) n cap) e k rows) ((pick_perm hp).mem_iff.2 (by simp))
    have hcells : Cells w b 0 vs := fun j u hu => by
      have := ho.cells (g := b) rfl j u hu
      rw [add_at, Nat.zero_add] at this
      rw [Nat.zero_add]
      exact this
    obtain ⟨cs, h1, h2, h3⟩ := rdRows_get hr hcells hi
    rw [Nat.zero_add, ← hoff] at h3
    refine ⟨.agg cs.toArray, ?_, cs.toArray, rfl, by simpa using h1⟩
    simp only [execOp, hxe, Instr.loadAt, Instr.sureAddr, Sem.run_bind, Sem.run_pure, Result.andThen_ok, run_loadVarN t ha (hz.trans h2.symm) h3]) hK

theorem ow_storeInn [TI P t] {v : Value} {e : TypeId} {k off : Nat} {rows : List (List C)} {Hr : List Ch} {row r row' : List C} {s : S} (j i o : Nat) (hx : env.ev x = some (.cell (.inn v off))) (hy : env.ev y = some s) (hs : s.cells = some r) (hp : pick [j] H = some ([.own v e k rows], Hr)) (hoff : off = i * k + o)
    (hi : rows[i]? = some row) (hz : (TI.i P t).size = r.length) (hle : o + r.length ≤ k) (hrow : row.take o ++ r ++ row.drop (o + r.length) = row') (hK : K .void (.own v e k (rows.set i row') :: Hr)) : OpWp c ⟨d, .store t x y, ty, pos, af, g⟩ env H K := by
  intro a w h next Q hn
  have hperm := pick_perm hp
  have h' : StW c (.own v e k rows :: Hr) w := h.heap.perm hperm
  have hav : c.av (.own v e k rows :: Hr) = c.av H := av_perm c hperm
  obtain ⟨b, n, cap, hv, hxe⟩ := ev_ok h hx
  subst hv
  obtain ⟨vs, ho, hr, hk⟩ := h'.ok (.own (.slice (some ⟨b, 0, none⟩) n cap) e k rows) (by simp)
  have hlen := ho.1
  have hilt : i < rows.length := (List.getElem?_eq_some_iff.1 hi).1
  have hmul : i * k + k ≤ rows.length * k := by
    have := Nat.mul_le_mul_right k (show i + 1 ≤ rows.length by omega)
    rwa [Nat.add_mul, Nat.one_mul] at this
  rcases ho.2 with ⟨hno, _⟩ | ⟨b', cap', cur, hve, _, hh, g3, g4, g5, g6⟩
  · cases hno
  · have hbc : b' = b ∧ cap' = cap := by simp only [Value.slice.injEq, Option.some.injEq, Addr.mk.injEq] at hve; exact ⟨hve.1.1.symm, hve.2.2.symm⟩
    obtain ⟨rfl, rfl⟩ := hbc
    have hcv := cells_ok (ev_ok h hy) hs
    rw [← hav] at hcv
    have hlr := rdRow_length hcv
    have hcs : rows.length * k ≤ cap' * k := Nat.mul_le_mul_right k g3
    have hst := run_storeCells_at P b' off e (a.eval y).cells.toList 0 cur w hh (by simp only [Nat.add_zero, hlr]; omega) (rdRow_one hcv)
    simp only [Nat.add_zero] at hst
    have hrun : (execOp a.eval ⟨d, .store t x y, ty, pos, af, g⟩).run P w = .ok .skip (w.setRow b' (cur.toList.take off ++ (a.eval y).cells.toList ++ cur.toList.drop (off + r.length)).toArray) := by
      have hsz : ¬ (a.eval y).cells.size ≠ (TI.i P t).size := by rw [hz, ← hlr]; simp
      simp only [execOp, hxe, Instr.storeAt, Instr.sureAddr, storeVar, Sem.run_bind, Sem.run_pure, Result.andThen_ok, run_sizeOf, if_neg hsz, hst]
      simp [hlr]
    have hg : Grow (hb [.own (.slice (some ⟨b', 0, none⟩) n cap') e k rows]) w (w.setRow b' (cur.toList.take off ++ (a.eval y).cells.toList ++ cur.toList.drop (off + r.length)).toArray) := setRow_grow w b' _
    have hnew := rdRows_store (o := o) hcv hle hr hi
    rw [hrow, ← hoff, hlr] at hnew
    obtain ⟨s1, s2⟩ := StW.step (H1 := [.own (.slice (some ⟨b', 0, none⟩) n cap') e k rows]) (H1' := [.own (.slice (some ⟨b', 0, none⟩) n cap') e k (rows.set i row')]) h' hg (fun b hb => .inl hb) (by simp [hb, Ch.bs, Value.ownBlock]) (by
      intro ch hch
      simp only [List.mem_singleton] at hch
      subst hch
      obtain ⟨q1, q2⟩ := store_lists cur.toList (a.eval y).cells.toList (rows.length * k) off r.length hlr (by omega) (by show rows.length * k ≤ cur.size; rw [g5]; exact hcs)
      refine ⟨_, ⟨?_, .inr ⟨b', cap', _, ?_, Nat.zero_le _, setRow_heap w b' _ _ e _ hh, ?_, g4, ?_, ?_⟩⟩, rdRows_up (A := c.av (.own (.slice (some ⟨b', 0, none⟩) n cap') e k rows :: Hr)) (hg.up ?_) (fun b hb => .inl hb) k _ _ hnew, hk⟩
      · simp only [List.length_append, List.length_take, List.length_drop, List.length_set]; omega
      · rw [List.length_set]; exact hve
      · rw [List.length_set]; exact g3
      · rw [List.size_toArray, q1]
        exact g5
      · rw [List.length_set, ← g6]
        exact q2
      · intro b hb'
        exact .inr (List.mem_append.2 (.inl hb')))
    unfold Oper.wp
    rw [hrun]
    exact hn .void _ undef _ hK s1 trivial (fun s v hs => s2 s v (by rw [List.singleton_append, hav]; exact hs))
/-- .. of a whole element. -/
theorem ow_storeInnAll [TI P t] {v : Value} {e : TypeId} {k off : Nat} {rows : List (List C)} {Hr : List Ch} {row r : List C} {s : S} (j i : Nat) (hx : env.ev x = some (.cell (.inn v off))) (hy : env.ev y = some s) (hs : s.cells = some r) (hp : pick [j] H = some ([.own v e k rows], Hr)) (hoff : off = i * k)
    (hi : rows[i]? = some row) (hlen : row.length = k) (hz : (TI.i P t).size = r.length) (hk : r.length = k) (hK : K .void (.own v e k (rows.set i r) :: Hr)) : OpWp c ⟨d, .store t x y, ty, pos, af, g⟩ env H K :=
  ow_storeInn j i 0 hx hy hs hp (by omega) hi hz (by omega) (by rw [Nat.zero_add, List.take_zero, List.drop_of_length_le (by omega)]; simp) hK
end
end Go.Vc
