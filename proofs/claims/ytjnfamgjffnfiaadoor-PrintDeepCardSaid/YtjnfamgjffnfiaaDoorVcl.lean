import Derived.Test.YtjnfamgjffnfiaaDoorVck
import Derived.Lib.SliceRun
import Derived.Laws.OwnMore
namespace Go.Vc
open Go.RowKit

theorem rdRows_zeros {w : World} {A : Nat → Prop} {z : Array Value} {k : Nat} (hk : z.size = k) (h1 : ∀ v ∈ z.toList, v.oneCell' = true) : ∀ n : Nat, RdRows w A k (List.replicate n (z.toList.map C.val)) ((List.range (n * k)).map fun i => z[i % z.size]!)
  | 0 => by simp [RdRows]
  | n + 1 => by
    have ih := rdRows_zeros (w := w) (A := A) hk h1 n
    rw [show (n + 1) * k = k + n * k by rw [Nat.add_mul]; omega, List.range_add, List.map_append]
    refine ⟨_, _, rfl, by simp, ?_, ?_⟩
    · have e : (List.range k).map (fun i => z[i % z.size]!) = z.toList := by
        apply List.ext_getElem?
        intro j
        by_cases hj : j < k
        · have hj' : j < z.size := by omega
          rw [List.getElem?_map, List.getElem?_range hj]
          simp [Nat.mod_eq_of_lt hj', hj']
        · rw [List.getElem?_eq_none (by simp; omega), List.getElem?_eq_none (by simp; omega)]
      rw [e]
      exact rdRow_zero _ h1
    · rw [List.map_map]
      have e : ((fun i => z[i % z.size]!) ∘ fun x => k + x) = fun i => z[i % z.size]! := by
        funext i
        simp only [Function.comp]
        rw [← hk, Nat.add_mod_left]
      rw [e]
      exact ih

section
variable {P : Program} [Gl P] {nt : Nat} {c : Cx P nt} {env : Env} {H : List Ch} {K : S → List Ch → Prop}
variable {d : Option Tmp} {ty t t' : TypeId} {pos : String} {af : Array Edge} {g : Option (Nat × Bool)} {x y : Operand}

/-- Whether a slice that is only read is nil: it is empty then. -/
theorem ow_slnil [SL P t] {rows : List (List C)} (hx : env.ev x = some (.cell (.list rows))) (hy : env.ev y = some (.cell (.val (.slice none 0 0)))) (hK : ∀ b, (b = true → rows = []) → K (Bl b) H) : OpWp c ⟨d, .binOp .eql t x y t', ty, pos, af, g⟩ env H K := by
  intro a w h next Q hn
  obtain ⟨ad, cap, he, _, _, hb⟩ := ev_ok h hx
  have e2 := Lib.run_eql_slice_nil (P := P) w t (SL.e P t) ad rows.length cap 0 0 SL.hs
  have hrun : (execOp a.eval ⟨d, .binOp .eql t x y t', ty, pos, af, g⟩).run P w = .ok (.value (.bool ad.isNone)) w := by
    simp only [execOp, he, ev_val h hy]
    simp [eqGuard, e2]
  unfold Oper.wp
  rw [hrun]
  refine hn (Bl ad.isNone) H _ w (hK _ fun hnone => ?_) h.heap ⟨rfl, rfl⟩ (fun _ _ h => h)
  rcases hb with hb | ⟨b, off, vs, k, rfl, _⟩
  · exact List.eq_nil_of_length_eq_zero hb
  · cases hnone

/-- make, of a slice of one's own. -/
theorem ow_makeSliceOwn [SL P t] {z : Value} (n : Nat) (hz : (TI.i P (SL.e P t)).zero = some z) (h1 : z.cells.toList.all Value.oneCell' = true) (hsz : (TI.i P (SL.e P t)).size = z.cells.size) (hpos : 0 < z.cells.size) {kl kc : IntKind}
    (hx : env.ev x = some (In kl (n : Int))) (hy : env.ev y = some (In kc (n : Int))) (hcells : n * z.cells.size ≤ 16777216) (hlim : (TI.i P (SL.e P t)).bytes * n ≤ 281474976710656) (hmax : n ≤ 140737488351232)
    (hK : ∀ v, v.oneCell' = true → c.Fresh v → K (.cell (.val v)) (.own v (SL.e P t) z.cells.size (List.replicate n (zeroRow z)) :: H)) : OpWp c ⟨d, .makeSlice t x y, ty, pos, af, g⟩ env H K := by
  intro a w h next Q hn
  obtain ⟨w', hrun, ho, hg⟩ := run_makeSlice_full (P := P) w 0 t (SL.e P t) _ z z.cells.size SL.hs TI.hi hz hsz kl kc n hcells hlim (by unfold maxLen; omega) (Nat.zero_le _)
  have hgr : Grow (hb []) w w' := by simpa [hb] using Grow.of_grownBy hg
  have h' : StW c ([] ++ H) w := h.heap
  have hav : ∀ b, c.av (.own (.slice (some ⟨w.heap.size, 0, none⟩) n n) (SL.e P t) z.cells.size (List.replicate n (zeroRow z)) :: H) b → c.av H b ∨ w.heap.size ≤ b := by
    intro b hb'
    rcases hb' with hb' | hb'
    · exact .inl (.inl hb')
    · rw [hb_cons] at hb'
      rcases List.mem_append.1 hb' with hb' | hb'
      · simp only [Ch.bs, Value.ownBlock, Option.mem_toList, Option.some.injEq] at hb'
        exact .inr (by omega)
      · exact .inl (.inr hb')
  obtain ⟨s1, s2⟩ := StW.step (H1' := [.own (.slice (some ⟨w.heap.size, 0, none⟩) n n) (SL.e P t) z.cells.size (List.replicate n (zeroRow z))]) h' hgr (by simp [hb, Ch.bs, Value.ownBlock]) (by simp [hb, Ch.bs, Value.ownBlock]) (by
    intro ch hch
    simp only [List.mem_singleton] at hch
    subst hch
    refine ⟨_, by rw [List.length_replicate]; exact ho, ?_, hpos⟩
    have e : (madeCells z.cells (n * z.cells.size)).toList = (List.range (n * z.cells.size)).map fun i => z.cells[i % z.cells.size]! := by simp [madeCells]
    rw [e]
    exact rdRows_up (A := c.av H) (hgr.up (by simp [hb])) hav _ _ _ (rdRows_zeros rfl (List.all_eq_true.1 h1) n))
  unfold Oper.wp
  have hex : (execOp a.eval ⟨d, .makeSlice t x y, ty, pos, af, g⟩).run P w = .ok (.value (.slice (some ⟨w.heap.size, 0, none⟩) n n)) w' := by
    simp only [execOp, ev_val h hx, ev_val h hy, Sem.run_bind, hrun, Result.andThen_ok, Sem.run_pure]
  rw [hex]
  exact hn _ _ _ _ (hK _ rfl (fun b hb => by simp only [Value.ownBlock, Option.some.injEq] at hb; have := h.heap.size; omega)) s1 ⟨rfl, rfl⟩ s2

/-- What lies behind the first m elements. -/
def sufV (v : Value) (m k : Nat) : Value := match v with
  | .slice a n cap => .slice (if cap = m then a else a.map (·.add (m * k))) (n - m) (cap - m)
  | v => v
theorem ow_sufOwn [SL P t] {v : Value} {e : TypeId} {k : Nat} {rows : List (List C)} {Hr : List Ch} {m : Int} (j : Nat) (hx : env.ev x = some (.cell (.val v))) (hp : pick [j] H = some ([.own v e k rows], Hr)) (hy : env.ev y = some (In .i64 m)) (h0 : 0 ≤ m) (hle : m.toNat ≤ rows.length)
    (hz : (TI.i P (SL.e P t)).size = k) (hK : K (.cell (.val (sufV v m.toNat k))) H) : OpWp c ⟨d, .slice t x (some y) none none, ty, pos, af, g⟩ env H K :=
  ow_val (fun a w h => by
    obtain ⟨vs, ho, _, _⟩ := h.heap.ok (.own v e k rows) ((pick_perm hp).mem_iff.2 (by simp))
    have key : ∃ p cap, v = .slice p rows.length cap := by
      rcases ho.2 with ⟨rfl, h0⟩ | ⟨b, cap, cur, rfl, _, _, h1, _⟩
      · exact ⟨none, 0, by rw [h0]⟩
      · exact ⟨_, _, rfl⟩
    obtain ⟨p, cap, rfl⟩ := key
    refine ⟨_, ?_, rfl, rfl⟩
    have hb : 0 ≤ m ∧ m ≤ (rows.length : Int) := ⟨h0, by omega⟩
    simp [execOp, ev_val h hx, ev_val h hy, Instr.sliceAt, Instr.slice, Instr.sliceBounds, Instr.sliceBound, asIntOf, run_elem t, run_sizeOf, hb, sufV, hz]) hK

/-- clear, of what lies behind the first m elements of a slice of one's own. -/
theorem ow_clearSuf [SL P t] {v : Value} {k m : Nat} {rows : List (List C)} {Hr : List Ch} {z : Value} (j : Nat) (hx : env.ev x = some (.cell (.val (sufV v m k)))) (hp : pick [j] H = some ([.own v (SL.e P t) k rows], Hr)) (hm : m ≤ rows.length)
    (hz : (TI.i P (SL.e P t)).zero = some z) (h1 : z.cells.toList.all Value.oneCell' = true) (hzs : z.cells.size = k)
    (hK : K (.tup []) (.own v (SL.e P t) k (rows.take m ++ List.replicate (rows.length - m) (zeroRow z)) :: Hr)) : OpWp c ⟨d, .call { callee := .builtin .clear, args := #[x], argTypes := #[t] }, ty, pos, af, g⟩ env H K := by
  intro a w h next Q hn
  have hperm := pick_perm hp
  have h' : StW c (.own v (SL.e P t) k rows :: Hr) w := h.heap.perm hperm
  have hav : c.av (.own v (SL.e P t) k rows :: Hr) = c.av H := av_perm c hperm
  obtain ⟨vs, ho, hr, hk⟩ := h'.ok (.own v (SL.e P t) k rows) (by simp)
  have hlen := ho.1
  by_cases hrest : rows.length = m
  · -- nothing there
    have erows : rows.take m ++ List.replicate (rows.length - m) (zeroRow z) = rows := by rw [hrest, Nat.sub_self, ← hrest, List.take_length]; simp
    rw [erows] at hK
    have hrun : (execOp a.eval ⟨d, .call { callee := .builtin .clear, args := #[x], argTypes := #[t] }, ty, pos, af, g⟩).run P w = .ok (.value (.tuple #[])) w := by
      obtain ⟨p, cap, hv⟩ : ∃ p cap, v = .slice p rows.length cap := by
        rcases ho.2 with ⟨rfl, h0⟩ | ⟨b, cap, cur, rfl, _⟩
        · exact ⟨none, 0, by rw [h0]⟩
        · exact ⟨_, _, rfl⟩
      have hev := ev_val h hx
      subst hv
      unfold sufV at hev
      simp only [hrest, Nat.sub_self] at hev
      generalize (if cap = m then p else p.map (·.add (m * k))) = q at hev
      simp only [execOp, resolve, invoke, builtin, Sem.run_bind, Sem.run_pure, Result.andThen_ok, List.map_toArray, List.map_cons, List.map_nil, hev]
      cases q <;> simp [Builtin.clear_, run_elem t]
    unfold Oper.wp
    rw [hrun]
    exact hn _ _ _ _ hK h' ⟨[], rfl, rfl⟩ (fun s v hs => by rw [hav]; exact hs)
  · have hlt : m < rows.length := by omega
    rcases ho.2 with ⟨_, h0⟩ | ⟨b, cap, cur, rfl, _, hh, g3, g4, g5, g6⟩
    · omega
    · have hcm : ¬ cap = m := by omega
      have hev := ev_val h hx
      unfold sufV at hev
      simp only [if_neg hcm, Option.map_some, add_at, Nat.zero_add] at hev
      have hmul : m * k ≤ rows.length * k := Nat.mul_le_mul_right k hm
      have hcs : rows.length * k ≤ cap * k := Nat.mul_le_mul_right k g3
      have ezl : (Builtin.zeroCells z.cells (rows.length - m)).toList = (List.range ((rows.length - m) * k)).map fun i => z.cells[i % z.cells.size]! := by simp [Builtin.zeroCells, hzs]
      have hzr := rdRows_zeros (w := w) (A := c.av (.own (.slice (some ⟨b, 0, none⟩) rows.length cap) (SL.e P t) k rows :: Hr)) hzs (List.all_eq_true.1 h1) (rows.length - m)
      generalize hzl : ((List.range ((rows.length - m) * k)).map fun i => z.cells[i % z.cells.size]!) = zl at ezl hzr
      have hzlen : zl.length = (rows.length - m) * k := by rw [← hzl]; simp
      have hadd : m * k + (rows.length - m) * k = rows.length * k := by rw [← Nat.add_mul]; congr 1; omega
      have hst := run_storeCells_at P b (m * k) (SL.e P t) zl 0 cur w hh (by simp only [Nat.add_zero, hzlen, hadd, g5]; exact hcs) (rdRows_one hzr)
      simp only [Nat.add_zero] at hst
      have hrun : (execOp a.eval ⟨d, .call { callee := .builtin .clear, args := #[x], argTypes := #[t] }, ty, pos, af, g⟩).run P w = .ok (.value (.tuple #[])) (w.setRow b (cur.toList.take (m * k) ++ zl ++ cur.toList.drop (m * k + zl.length)).toArray) := by
        obtain ⟨r1, hr1⟩ : ∃ r1, rows.length - m = r1 + 1 := ⟨rows.length - m - 1, by omega⟩
        simp only [execOp, resolve, invoke, builtin, Sem.run_bind, Sem.run_pure, Result.andThen_ok, List.map_toArray, List.map_cons, List.map_nil, hev, hr1]
        rw [hr1] at ezl
        simp [Builtin.clear_, run_elem t, run_zeroValue _ hz, ezl, hst]
      have hg : Grow (hb [.own (.slice (some ⟨b, 0, none⟩) rows.length cap) (SL.e P t) k rows]) w (w.setRow b (cur.toList.take (m * k) ++ zl ++ cur.toList.drop (m * k + zl.length)).toArray) := setRow_grow w b _
      obtain ⟨s1, s2⟩ := StW.step (H1 := [.own (.slice (some ⟨b, 0, none⟩) rows.length cap) (SL.e P t) k rows]) (H1' := [.own (.slice (some ⟨b, 0, none⟩) rows.length cap) (SL.e P t) k (rows.take m ++ List.replicate (rows.length - m) (zeroRow z))]) h' hg (fun b hb => .inl hb) (by simp [hb, Ch.bs, Value.ownBlock]) (by
        intro ch hch
        simp only [List.mem_singleton] at hch
        subst hch
        have hrl : (rows.take m ++ List.replicate (rows.length - m) (zeroRow z)).length = rows.length := by simp; omega
        obtain ⟨q1, q2⟩ := store_lists cur.toList zl (rows.length * k) (m * k) zl.length rfl (by rw [hzlen]; omega) (by show rows.length * k ≤ cur.size; rw [g5]; exact hcs)
        refine ⟨vs.take (m * k) ++ zl, ⟨?_, .inr ⟨b, cap, _, ?_, Nat.zero_le _, setRow_heap w b _ _ (SL.e P t) _ hh, ?_, g4, ?_, ?_⟩⟩, rdRows_up (A := c.av (.own (.slice (some ⟨b, 0, none⟩) rows.length cap) (SL.e P t) k rows :: Hr)) (hg.up ?_) (fun b hb => .inl hb) k _ _ (rdRows_append (rdRows_take m hr hm) hzr), hk⟩
        · rw [hrl, List.length_append, List.length_take, hlen, hzlen]; omega
        · rw [hrl]
        · rw [hrl]; exact g3
        · rw [List.size_toArray, q1]
          exact g5
        · rw [hrl]
          refine q2.trans ?_
          rw [g6, List.drop_of_length_le (by rw [hlen, hzlen]; omega), List.append_nil]
        · intro b' hb'
          exact .inr (List.mem_append.2 (.inl hb')))
      unfold Oper.wp
      rw [hrun]
      exact hn _ _ _ _ hK s1 ⟨[], rfl, rfl⟩ (fun s v hs => s2 s v (by rw [List.singleton_append, hav]; exact hs))
end
end Go.Vc
