import Derived.Test.YtlniadfidfmckaaGreatDoorMp4
section
namespace Go.Proofs.YtlniadfidfmckaaGreatDoor
open Go.Vc
set_option maxHeartbeats 8000000
attribute [local irreducible] JL JC JQ OpWp Con ConN
attribute [local irreducible] StG BlG

abbrev NilC : C := .val (.slice none 0 0)
abbrev Zt : List C := [.val (.string ⟨#[]⟩), .val (.int .i64 0), .val (.int .i64 0), .val (.int .i64 0), .val (.int .i64 0), NilC, NilC, NilC, NilC, NilC, NilC]
abbrev Rw (nm : ByteArray) (per dln pri jit : Int) (a b c d e f : C) : List C := [.val (.string nm), .val (.int .i64 per), .val (.int .i64 dln), .val (.int .i64 pri), .val (.int .i64 jit), a, b, c, d, e, f]
abbrev M0 (bd : Nat) (v : Value) (Sh : List Shd) (N : Int) : List C := [.val (.pointer (some ⟨bd, 0, none⟩)), .val v, NilC, NilC, .list (Sh.map ShRow), .val (.string ⟨#[]⟩), .val (.int .i64 0), .val (.int .i64 N), .val (.int .i64 0)]
theorem pow_bd (i : Int) (h : i.toNat ≤ 30) : (0 : Int) ≤ 1 * 2 ^ i.toNat ∧ (1 : Int) * 2 ^ i.toNat ≤ 1073741824 := by
  have h6 : (2 : Nat) ^ i.toNat ≤ 2 ^ 30 := Nat.pow_le_pow_right (by omega) h
  have h7 : ((2 ^ i.toNat : Nat) : Int) = (2 : Int) ^ i.toNat := by simp
  have h8 : (0 : Int) ≤ (2 : Int) ^ i.toNat := h7 ▸ Int.natCast_nonneg _
  omega
abbrev XY : List ByteArray := [⟨#[120]⟩, ⟨#[121]⟩]
abbrev VS : List ByteArray := [⟨#[105]⟩, ⟨#[107]⟩, ⟨#[110]⟩]
def InG (k : Nat) (l : List Inp) : Prop := l.map (·.1) = XY.take k ∧ ∀ x ∈ l, (-2 ≤ x.2.1 ∧ x.2.1 ≤ 3) ∧ x.2.1 ≤ x.2.2 ∧ x.2.2 ≤ x.2.1 + 11
def ArG (l : List Arr) : Prop := l = [] ∨ ∃ k : Nat, k ≤ 3 ∧ l = [(⟨#[97]⟩, 2 ^ k)]
def MdG (I : List Inp) (l : List Md) : Prop := l = [] ∨ ∃ x lo hi, I[0]? = some x ∧ (x.2.1 ≤ lo ∧ lo ≤ hi ∧ hi ≤ x.2.2) ∧ l = [(⟨#[102, 101, 119]⟩, x.1, lo, hi)]
def ClG (ifs : List Int) (l : List Clm) : Prop := l = [] ∨ ∃ (a b : Nat) (ha : a < ifs.length) (hb : b < ifs.length), a ≠ b ∧ l = [(ifs[a], ifs[b])]
structure TaskG (Sh : List Shd) (nm : ByteArray) (W : Int) (t : Tk) : Prop where
  name : t.name = nm
  period : 2000 ≤ t.period ∧ t.period ≤ 6000
  deadline : t.period - 400 ≤ t.deadline ∧ t.deadline ≤ t.period
  priority : 1 ≤ t.priority ∧ t.priority ≤ 5
  jitter : 0 ≤ t.jitter ∧ t.jitter ≤ 30
  inputs : t.inputs.length ≤ 2 ∧ InG t.inputs.length t.inputs
  vars : t.vars = VS
  arrays : ArG t.arrays
  modes : MdG t.inputs t.modes
  claims : ClG (ifsOf t.body) t.claims
  body : ∃ lab l n, BlG (StG (t.inputs.map (·.1) ++ VS) (t.arrays.map (·.1)) Sh 3 0 E0) 5 0 lab l ∧ t.body = l.take n
  weight : wAll 20 t.body 0 ≤ W
theorem InG.len {k : Nat} {l : List Inp} (h : InG k l) (hk : k ≤ 2) : l.length = k := by
  have := congrArg List.length h.1
  simpa [Nat.min_eq_left hk] using this
theorem InG.snoc {k : Nat} {l : List Inp} (h : InG k l) {s : ByteArray} {lo hi : Int} (hs : XY[k]? = some s) (hb : (-2 ≤ lo ∧ lo ≤ 3) ∧ lo ≤ hi ∧ hi ≤ lo + 11) : InG (k + 1) (l ++ [(s, lo, hi)]) := by
  refine ⟨?_, fun x hx => ?_⟩
  · obtain ⟨hlt, rfl⟩ := List.getElem?_eq_some_iff.1 hs
    rw [List.map_append, h.1, List.take_succ_eq_append_getElem hlt]
    rfl
  · rcases List.mem_append.1 hx with hx | hx
    · exact h.2 x hx
    · rw [List.mem_singleton.1 hx]; exact hb

abbrev Et3 (bd : Nat) (W : Int) (br bt : Nat) : Env := [(0, Ptr bd), (3, In .i64 W), (10, Ptr br), (11, Ptr bt)]
abbrev Et (bd : Nat) (W : Int) (br bt bx : Nat) : Env := [(0, Ptr bd), (3, In .i64 W), (10, Ptr br), (11, Ptr bt), (12, Ptr bx)]

section
variable {L : List Int} {bd : Nat} {Sh : List Shd}

end
end Go.Proofs.YtlniadfidfmckaaGreatDoor
end

section
namespace Go.Proofs.YtlniadfidfmckaaGreatDoor
open Go.Vc
set_option maxHeartbeats 8000000
attribute [local irreducible] JL JC JQ OpWp Con ConN

abbrev Nr : ByteArray := ⟨#[114]⟩
abbrev Ns : ByteArray := ⟨#[115]⟩
def RSl : Nat → List ByteArray
  | 0 => []
  | 1 => [Ns]
  | _ => [Nr, Ns]
def ShG (R : List ByteArray) (l : List Shd) : Prop := l = [] ∨ ∃ (r : ByteArray) (k : Nat), R[0]? = some r ∧ k ≤ 3 ∧ l = [(⟨#[98, 117, 102]⟩, 2 ^ k, r)]
def nmT (i : Nat) : ByteArray := ⟨#[116]⟩ ++ bytesOf [97 + (i : Int)]
structure PgG (T : Nat) (W : Int) (p : Pg) : Prop where
  res : ∃ n, n ≤ 2 ∧ p.res = RSl n
  shared : ShG p.res p.shared
  len : p.tasks.length = T
  tasks : ∀ (i : Nat) (h : i < p.tasks.length), TaskG p.shared (nmT i) W p.tasks[i]
section
variable {L : List Int} {bd : Nat}

end
end Go.Proofs.YtlniadfidfmckaaGreatDoor
end

section
namespace Go.Vc
open Go.RowKit
set_option maxHeartbeats 1000000

def FullV (v : Value) (n : Nat) : Prop := (n = 0 ∧ v = .slice none 0 0) ∨ ∃ b o, v = .slice (some ⟨b, o, none⟩) n n
/-- A slice that is only read, and has no room: what is put behind it lies elsewhere. -/
abbrev FX (rows : List (List C)) : C := .ex (fun v : {v : Value // FullV v rows.length} => .both v.1 (.list rows))
theorem rd_fx {w : World} {A : Nat → Prop} {rows : List (List C)} {x : Value} (h : Rd1 w A (FX rows) x) : FullV x rows.length ∧ Rd1 w A (.list rows) x := by
  obtain ⟨⟨v, hv⟩, rfl, h2⟩ := h
  exact ⟨hv, h2⟩
theorem fx_rd {w : World} {A : Nat → Prop} {rows : List (List C)} {x : Value} (h1 : FullV x rows.length) (h2 : Rd1 w A (.list rows) x) : Rd1 w A (FX rows) x := ⟨⟨x, h1⟩, rfl, h2⟩
theorem CLe.fx (rows : List (List C)) : CLe (FX rows) (.list rows) := fun _ _ _ h => (rd_fx h).2
theorem CLe.fxnil : CLe (.val (.slice none 0 0)) (FX []) := fun _ _ _ h => fx_rd (.inl ⟨rfl, h.1⟩) ⟨none, 0, h.1, Nat.le_refl _, Nat.zero_le _, .inl rfl⟩
section
variable {P : Program} [Gl P] {nt : Nat} {c : Cx P nt} {env : Env} {H Hr : List Ch} {K : S → List Ch → Prop} {d : Option Tmp} {t t' te ty : TypeId} {pos : String} {af : Array Edge} {g : Option (Nat × Bool)} {x y : Operand}
theorem ow_buildSliceF [SL P t] {z : Value} (hz : (TI.i P (SL.e P t)).zero = some z) {ps : Array (Nat × Operand)} {ss : List (Nat × S)} (hp : env.parts ps.toList = some ss) {rows : List (List C)} {len : Nat}
    (hpos : 0 < (TI.i P (SL.e P t)).size) (hs : sliceRows (TI.i P (SL.e P t)).size 0 ss = some rows) (hl : rows.length = len) (hlim : len * (TI.i P (SL.e P t)).size ≤ 16777216) (hK : K (.cell (FX rows)) H) : OpWp c ⟨d, .buildSlice t len ps, ty, pos, af, g⟩ env H K := by
  intro a w h next Q hn
  obtain ⟨cs, g1, g2⟩ := run_buildSlice (P := P) (t := t) hz rfl (parts_ok h hp) hs hl hlim
  have hg : Grow (hb []) w (w.alloc (.cells cs.toArray (SL.e P t))) := ⟨rfl, rfl, rfl, by simp, fun k hk _ => Below.heap_alloc _ _ _ hk⟩
  have h' : StW c ([] ++ H) w := h.heap
  obtain ⟨s1, s2⟩ := StW.step (H1' := []) h' hg (by simp [hb]) (by simp [hb]) (by simp)
  have hav : ¬ c.av H w.heap.size := fun hx => by have := h.heap.avlt _ hx; omega
  have hr := rdRows_up (hg.up (A := c.av H) (by simp [hb])) (fun b hb => Or.inl hb) _ _ _ g2
  unfold Oper.wp
  have hrun : (execOp a.eval ⟨d, .buildSlice t len ps, ty, pos, af, g⟩).run P w = .ok (.value (.slice (some ⟨w.heap.size, 0, none⟩) len len)) (w.alloc (.cells cs.toArray (SL.e P t))) := by
    have : (ps.map fun (i, x) => (i, a.eval x)) = (ps.toList.map fun (i, x) => (i, a.eval x)).toArray := by apply Array.ext'; simp
    simp only [execOp, this, Sem.run_bind, g1, Result.andThen_ok, Sem.run_pure]
  rw [hrun]
  refine hn _ H _ _ hK s1 ?_ s2
  subst hl
  exact fx_rd (.inr ⟨_, _, rfl⟩) (rdRows_cells (e := SL.e P t) hr hpos (by show (w.heap.push _)[w.heap.size]? = _; simp) hav _ (Nat.le_refl _) (by unfold maxLen; have : rows.length * 1 ≤ rows.length * (TI.i P (SL.e P t)).size := Nat.mul_le_mul_left _ hpos; omega))
theorem ow_loadFX {b o : Nat} {row : List C} {bt : TypeId} {rows : List (List C)} [TI P t] (j : Nat) (ha : aggB (TI.u P t) = false) (hx : env.ev x = some (.cell (.val (.pointer (some ⟨b, o, none⟩))))) (hp : pick [j] H = some ([.blk b bt row], Hr))
    (he : row[o]? = some (FX rows)) (hK : K (.cell (.list rows)) H) : OpWp c ⟨d, .load t x, ty, pos, af, g⟩ env H K :=
  ow_val (fun a w h => by
    obtain ⟨cs, hh, hr⟩ := blk_ok h hp
    obtain ⟨v, hv, hrd⟩ := rdRow_get hr he
    refine ⟨v, ?_, (rd_fx hrd).2⟩
    simp only [execOp, ev_val h hx, Instr.loadAt, Instr.sureAddr, Sem.run_bind, Sem.run_pure, Result.andThen_ok, run_loadVar1 t ha (show w.cell? ⟨b, o, none⟩ = some v by simp [World.cell?, hh, hv])]) hK
theorem ow_appendFX [SL P t] {z : Value} {rows rows2 : List (List C)} (hx : env.ev x = some (.cell (FX rows))) (hy : env.ev y = some (.cell (.list rows2))) (hz : (TI.i P (SL.e P t)).zero = some z) {k : Nat} (hzs : z.cells.size = k) (hsz : (TI.i P (SL.e P t)).size = k) (hk : 0 < k)
    (hrow1 : ∀ row ∈ rows, row.length = k) (hrow : ∀ row ∈ rows2, row.length = k) (hpos : 0 < rows2.length) (hlim : (rows.length + rows2.length) * (TI.i P (SL.e P t)).bytes ≤ 140737488355328) (hlim2 : rows.length + rows2.length ≤ 1000000000)
    (hK : ∀ v, v.oneCell' = true → c.Fresh v → K (.cell (.val v)) (.own v (SL.e P t) k (rows ++ rows2) :: H)) :
    OpWp c ⟨d, .call { callee := .builtin .append, args := #[x, y], argTypes := #[t, t] }, ty, pos, af, g⟩ env H K := by
  intro a w h next Q hn
  obtain ⟨hf, hr1⟩ := rd_fx (show Rd1 w (c.av H) (FX rows) (a.eval x) from ev_ok h hx)
  obtain ⟨ad2, cap2, hye, _, _, hc2⟩ := ev_ok h hy
  rcases hc2 with hc2 | ⟨b2, off2, vs2, k2, rfl, hnA2, hcl2, hk2, hrd2⟩
  · omega
  have hk2' : k2 = k := by
    match rows2, hrd2, hrow, hpos with
    | r0 :: _, hr2, hrow, _ =>
      obtain ⟨c1, _, _, h1, h2, _⟩ := hr2
      rw [← h1, rdRow_length h2]
      exact hrow r0 (by simp)
  subst hk2'
  have hl2 := rdRows_length hrd2
  -- what is there already
  obtain ⟨vs1, hcap, hrd1, hrun⟩ : ∃ vs1 : List Value, ∃ cap : Nat, RdRows w (c.av H) k2 rows vs1 ∧ rows.length + rows2.length ≤ grownCap w (rows.length + rows2.length) cap (SL.e P t) ∧ grownCap w (rows.length + rows2.length) cap (SL.e P t) ≤ maxLen ∧
      (Builtin.append_ #[t, t] ty #[a.eval x, a.eval y]).run P w = .ok (.slice (some ⟨w.heap.size, 0, none⟩) (rows.length + rows2.length) (grownCap w (rows.length + rows2.length) cap (SL.e P t)))
        (w.drew.alloc (.cells (vs1.toArray ++ vs2.toArray ++ Builtin.zeroCells z.cells (grownCap w (rows.length + rows2.length) cap (SL.e P t) - (rows.length + rows2.length))) (SL.e P t))) := by
    have hm2 : rows.length + rows2.length ≤ maxLen := by unfold maxLen; omega
    rcases hf with ⟨h0, hxe⟩ | ⟨b1, o1, hxe⟩
    · have hrows : rows = [] := List.eq_nil_of_length_eq_zero h0
      subst hrows
      refine ⟨[], 0, rfl, grownCap_ge .., grownCap_le_maxLen _ _ _ _ hm2, ?_⟩
      rw [hxe, hye]
      have hr' := run_append_nil (P := P) w t ty (SL.e P t) (TI.i P (SL.e P t)) z SL.hs TI.hi hz ⟨b2, off2, none⟩ rows2.length cap2 vs2 (by rw [hsz]; exact hl2) (by intro j u hj; rw [add_at]; exact hcl2 j u hj) (by omega) (by omega) (by simp only [List.length_nil, Nat.zero_add] at hlim; omega)
      simpa using hr'
    · obtain ⟨ad1, cap1, he1, _, _, hc1⟩ := hr1
      rw [hxe] at he1
      simp only [Value.slice.injEq] at he1
      obtain ⟨rfl, _, rfl⟩ := he1
      have hget : ∃ vs1, RdRows w (c.av H) k2 rows vs1 ∧ ∀ j u, vs1[j]? = some u → w.cell? ((⟨b1, o1, none⟩ : Addr).add j) = some u := by
        rcases hc1 with h0 | ⟨b', off', vs1, k1, hb', _, hcl1, hk1, hrd1⟩
        · have hrows : rows = [] := List.eq_nil_of_length_eq_zero h0
          subst hrows
          exact ⟨[], rfl, by simp⟩
        · simp only [Option.some.injEq, Addr.mk.injEq] at hb'
          obtain ⟨rfl, rfl, _⟩ := hb'
          by_cases h0 : rows = []
          · subst h0
            exact ⟨[], rfl, by simp⟩
          · have hk1' : k1 = k2 := by
              match rows, hrd1, hrow1, h0 with
              | r0 :: _, hr1, hrow1, _ =>
                obtain ⟨c1, _, _, h1, h2, _⟩ := hr1
                rw [← h1, rdRow_length h2]
                exact hrow1 r0 (by simp)
            subst hk1'
            exact ⟨vs1, hrd1, fun j u hj => by rw [add_at]; exact hcl1 j u hj⟩
      obtain ⟨vs1, hrd1, hcl1⟩ := hget
      have hl1 := rdRows_length hrd1
      refine ⟨vs1, rows.length, hrd1, grownCap_ge .., grownCap_le_maxLen _ _ _ _ hm2, ?_⟩
      rw [hxe, hye]
      exact run_append_grow (P := P) w t ty (SL.e P t) (TI.i P (SL.e P t)) z SL.hs TI.hi hz ⟨b1, o1, none⟩ rows.length rows.length vs1 (by rw [hsz]; exact hl1) hcl1 ⟨b2, off2, none⟩ rows2.length cap2 vs2 (by rw [hsz]; exact hl2) (by intro j u hj; rw [add_at]; exact hcl2 j u hj) (by omega) (by omega) (growslice_fits (by omega) hlim)
  obtain ⟨hge, hcm, hrun⟩ := hrun
  have hrdv := hrd1
  have hl1 := rdRows_length hrdv
  generalize grownCap w (rows.length + rows2.length) hcap (SL.e P t) = G at hge hcm hrun
  have ho : (w.drew.alloc (.cells (vs1.toArray ++ vs2.toArray ++ Builtin.zeroCells z.cells (G - (rows.length + rows2.length))) (SL.e P t))).ownsRow 0 (SL.e P t) k2 (.slice (some ⟨w.heap.size, 0, none⟩) (rows.length + rows2.length) G) (rows ++ rows2).length (vs1 ++ vs2) := by
    refine ⟨by rw [List.length_append, List.length_append, hl1, hl2, Nat.add_mul], .inr ⟨w.heap.size, G, _, by rw [List.length_append], Nat.zero_le _, heap_alloc_new w.drew _, by rw [List.length_append]; exact hge, hcm, ?_, ?_⟩⟩
    · simp only [Array.size_append, List.size_toArray, size_zeroCells, hl1, hl2, hzs]
      rw [← Nat.add_mul, ← Nat.add_mul]
      congr 1
      omega
    · rw [List.length_append, Nat.add_mul, ← hl1, ← hl2, ← List.length_append]
      simp only [Array.toList_append]
      exact List.take_left
  have hgw : w.grownBy (w.drew.alloc (.cells (vs1.toArray ++ vs2.toArray ++ Builtin.zeroCells z.cells (G - (rows.length + rows2.length))) (SL.e P t))) none := ⟨rfl, rfl, rfl, by simp, fun k hk _ => Go.heap_alloc_old w.drew _ hk⟩
  generalize w.drew.alloc (.cells (vs1.toArray ++ vs2.toArray ++ Builtin.zeroCells z.cells (G - (rows.length + rows2.length))) (SL.e P t)) = w' at hrun ho hgw
  have hgr : Grow (hb []) w w' := by simpa [hb] using Grow.of_grownBy hgw
  have h' : StW c ([] ++ H) w := h.heap
  have hav : ∀ b, c.av (.own (.slice (some ⟨w.heap.size, 0, none⟩) (rows.length + rows2.length) G) (SL.e P t) k2 (rows ++ rows2) :: H) b → c.av H b ∨ w.heap.size ≤ b := by
    intro b hb'
    rcases hb' with hb' | hb'
    · exact .inl (.inl hb')
    · rw [hb_cons] at hb'
      rcases List.mem_append.1 hb' with hb' | hb'
      · simp only [Ch.bs, Value.ownBlock, Option.mem_toList, Option.some.injEq] at hb'
        exact .inr (by omega)
      · exact .inl (.inr hb')
  obtain ⟨s1, s2⟩ := StW.step (H1' := [.own (.slice (some ⟨w.heap.size, 0, none⟩) (rows.length + rows2.length) G) (SL.e P t) k2 (rows ++ rows2)]) h' hgr (by simp [hb, Ch.bs, Value.ownBlock]) (by simp [hb, Ch.bs, Value.ownBlock]) (by
    intro ch hch
    simp only [List.mem_singleton] at hch
    subst hch
    exact ⟨_, ho, rdRows_up (A := c.av H) (hgr.up (by simp [hb])) hav _ _ _ (rdRows_append hrdv hrd2), hk⟩)
  unfold Oper.wp
  have hex : (execOp a.eval ⟨d, .call { callee := .builtin .append, args := #[x, y], argTypes := #[t, t] }, ty, pos, af, g⟩).run P w = .ok (.value (.slice (some ⟨w.heap.size, 0, none⟩) (rows.length + rows2.length) G)) w' := by
    simp only [execOp, resolve, invoke, builtin, Sem.run_bind, Sem.run_pure, Result.andThen_ok, List.map_toArray, List.map_cons, List.map_nil, hrun]
  rw [hex]
  exact hn _ _ _ _ (hK _ rfl (fun b hb => by simp only [Value.ownBlock, Option.some.injEq] at hb; have := h.heap.size; omega)) s1 ⟨rfl, rfl⟩ s2
theorem ow_nilCheckInn {v : Value} {o : Nat} (hx : env.ev x = some (.cell (.inn v o))) (hK : K (.cell (.inn v o)) H) : OpWp c ⟨d, .nilCheck x, ty, pos, af, g⟩ env H K :=
  ow_val (fun a w h => by
    obtain ⟨b, n, cap, hv, hxe⟩ := ev_ok h hx
    exact ⟨.pointer (some ⟨b, o, none⟩), by simp [execOp, hxe], b, n, cap, hv, rfl⟩) hK
end
def C.pure : C → Prop
  | .val _ => True
  | .any => True
  | .inn _ _ => True
  | _ => False
mutual
def S.pure : S → Prop
  | .void => True
  | .cell c => c.pure
  | .row r => ∀ c ∈ r, c.pure
  | .tup l => S.pures l
  | .ex f => ∀ i, (f i).pure
def S.pures : List S → Prop
  | [] => True
  | s :: l => s.pure ∧ S.pures l
end
def Ch.pure : Ch → Prop
  | .blk _ _ row => ∀ c ∈ row, c.pure
  | .own _ _ _ rows => ∀ row ∈ rows, ∀ c ∈ row, c.pure
  | .mapc _ _ => True
  | .ownB _ _ _ => True
theorem rd1_pure {w : World} {A A' : Nat → Prop} {c : C} {v : Value} (hp : c.pure) (h : Rd1 w A c v) : Rd1 w A' c v := by
  cases c <;> first | exact h | exact hp.elim
theorem rdRow_pure {w : World} {A A' : Nat → Prop} : ∀ {cs : List C} {vs : List Value}, (∀ c ∈ cs, c.pure) → RdRow w A cs vs → RdRow w A' cs vs
  | [], _, _, h => h
  | c :: cs, _, hp, h => by
    obtain ⟨v, r, rfl, h1, h2⟩ := h
    exact ⟨v, r, rfl, rd1_pure (hp c (by simp)) h1, rdRow_pure (fun c hc => hp c (by simp [hc])) h2⟩
theorem rdRows_pure {w : World} {A A' : Nat → Prop} {k : Nat} : ∀ {rows : List (List C)} {vs : List Value}, (∀ row ∈ rows, ∀ c ∈ row, c.pure) → RdRows w A k rows vs → RdRows w A' k rows vs
  | [], _, _, h => h
  | row :: rows, _, hp, h => by
    obtain ⟨c, r, rfl, h1, h2, h3⟩ := h
    exact ⟨c, r, rfl, h1, rdRow_pure (hp row (by simp)) h2, rdRows_pure (fun r hr => hp r (by simp [hr])) h3⟩
mutual
theorem sok_pure {w : World} {A A' : Nat → Prop} : ∀ (s : S) (v : Value), s.pure → SOk w A s v → SOk w A' s v
  | .void, _, _, _ => trivial
  | .cell c, _, hp, h => rd1_pure (c := c) hp h
  | .row r, _, hp, h => by
    obtain ⟨cs, rfl, h⟩ := h
    exact ⟨cs, rfl, rdRow_pure hp h⟩
  | .tup l, _, hp, h => by
    obtain ⟨vs, rfl, h⟩ := h
    exact ⟨vs, rfl, soks_pure l vs hp h⟩
  | .ex f, v, hp, h => by
    obtain ⟨i, h⟩ := h
    exact ⟨i, sok_pure (f i) v (hp i) h⟩
theorem soks_pure {w : World} {A A' : Nat → Prop} : ∀ (l : List S) (vs : List Value), S.pures l → SOks w A l vs → SOks w A' l vs
  | [], _, _, h => h
  | s :: l, _, hp, h => by
    obtain ⟨v, r, rfl, h1, h2⟩ := h
    exact ⟨v, r, rfl, sok_pure s v hp.1 h1, soks_pure l r hp.2 h2⟩
end
theorem Ch.ok_pure {w : World} {A A' : Nat → Prop} {ch : Ch} (hp : ch.pure) (h : ch.ok w A) : ch.ok w A' := by
  cases ch with
  | blk b t row =>
    obtain ⟨cs, h1, h2⟩ := h
    exact ⟨cs, h1, rdRow_pure hp h2⟩
  | own v e k rows =>
    obtain ⟨vs, h1, h2, h3⟩ := h
    exact ⟨vs, h1, rdRows_pure hp h2, h3⟩
  | mapc b es => exact h
  | ownB v e L => exact h
theorem own_list {w : World} {A : Nat → Prop} {v : Value} {e : TypeId} {k : Nat} {rows : List (List C)} (h : (Ch.own v e k rows).ok w A) (hA : ∀ b, v.ownBlock = some b → ¬ A b) : Rd1 w A (.list rows) v := by
  obtain ⟨vs, ⟨_, ho⟩, hr, hk⟩ := h
  have hcs := fun (g : Nat) (hg : v.ownBlock = some g) => (show w.ownsRow 0 e k v rows.length vs from ⟨by assumption, ho⟩).cells (g := g) hg
  rcases ho with ⟨rfl, h0⟩ | ⟨g, cap, cur, rfl, _, _, h1, h2, _⟩
  · exact ⟨none, 0, by rw [h0], by omega, Nat.zero_le _, .inl h0⟩
  · refine ⟨_, cap, rfl, h1, h2, .inr ⟨g, 0, vs, k, rfl, hA g rfl, fun j u hj => ?_, hk, hr⟩⟩
    have := hcs g rfl j u hj
    rw [add_at, Nat.zero_add] at this
    rw [Nat.zero_add]
    exact this
/-- A call that only reads a list: it may be lent what is owned, if what it gives refers to nothing. -/
theorem con_lend {P : Program} [Gl P] {f : FuncId} {v : Value} {e : TypeId} {k : Nat} {rows : List (List C)} {post : (S → List Ch → Prop) → Prop} (con : Con P f [.cell (.list rows)] [] post) (hp : post (fun s H => s.pure ∧ ∀ ch ∈ H, ch.pure)) :
    Con P f [.cell (.val v)] [.own v e k rows] (fun K => post (fun s H => K s (H ++ [.own v e k rows]))) := by
  intro vs w A hA hHA hnd hvs hok hgl
  have hown := hok (.own v e k rows) (by simp)
  obtain ⟨u, r, rfl, ⟨rfl, h1⟩, hr⟩ := hvs
  simp only [SOks] at hr
  subst hr
  have hAA : ∀ b, (A b ∧ u.ownBlock ≠ some b) → A b ∨ w.heap.size ≤ b := fun b hb => .inl hb.1
  have hup : (Ch.own u e k rows).ok w (fun b => A b ∧ u.ownBlock ≠ some b) := Ch.up (Up.refl A w) hAA (fun _ _ => rfl) hown
  refine (con [u] w (fun b => A b ∧ u.ownBlock ≠ some b) (fun b hb => hA b hb.1) (by simp [hb]) (by simp [hb]) ⟨u, [], rfl, own_list hup (fun b hb h => h.2 hb), rfl⟩ (by simp) (Gl.up (Up.refl A w) hAA hgl)).mono ?_
  rintro e' w' ⟨v', s, Hout, rfl, hK, hs, hok', hnd', hnew, hg⟩
  obtain ⟨p1, p2⟩ := hK _ hp
  have hnew' : ∀ b ∈ hb Hout, w.heap.size ≤ b := fun b hb => (hnew b hb).elim (fun h => by simp [Go.Vc.hb] at h) id
  have happ : hb (Hout ++ [.own u e k rows]) = hb Hout ++ (Ch.own u e k rows).bs := by simp [hb]
  have hlt := Ch.lt hown
  have hAb : ∀ b ∈ (Ch.own u e k rows).bs, A b := fun b hb => hHA b (by simpa [Go.Vc.hb] using hb)
  have hg0 : ∀ j, j < w.heap.size → w'.heap[j]? = w.heap[j]? := fun j hj => hg.block j hj (by simp [hb])
  refine ⟨v', s, Hout ++ [.own u e k rows], rfl, fun K h => hK _ h, sok_pure s v' p1 hs, ?_, ?_, ?_, ⟨hg.os, hg.tape, hg.output, hg.size, fun j hj _ => hg0 j hj⟩⟩
  · intro ch hch
    rcases List.mem_append.1 hch with hch | hch
    · exact Ch.ok_pure (p2 ch hch) (hok' ch hch)
    · obtain rfl := List.mem_singleton.1 hch
      refine Ch.up (hg.up (A := A) (by simp [hb])) ?_ (fun b hb => hg0 b (hlt b hb)) hown
      intro b hbm
      rcases hbm with hbm | hbm
      · exact .inl hbm
      · rw [happ] at hbm
        rcases List.mem_append.1 hbm with hbm | hbm
        · exact .inr (hnew' b hbm)
        · exact .inl (hAb b hbm)
  · rw [happ, List.nodup_append]
    refine ⟨hnd', by simpa [hb] using hnd, ?_⟩
    intro a ha b hbm e
    subst e
    have := hnew' a ha
    have := hlt a hbm
    omega
  · intro b hbm
    rw [happ] at hbm
    rcases List.mem_append.1 hbm with hbm | hbm
    · exact .inr (hnew' b hbm)
    · exact .inl (by simpa [hb] using hbm)
section
variable {P : Program} [Gl P] {nt : Nat} {c : Cx P nt} {env : Env} {H : List Ch}
/-- What is owned becomes what is only read: where cell q of element i of a slice of one's own holds it. -/
theorem st_freezeOG {a : Act} {w : World} {v v2 : Value} {e e2 : TypeId} {k k2 j j2 : Nat} (i q : Nat) {rows rows2 : List (List C)} {row : List C} {Hr : List Ch} (h : St c env H a w) (hp : pick [j, j2] H = some ([.own v e k rows, .own v2 e2 k2 rows2], Hr)) (hi : rows2[i]? = some row) (hq : row[q]? = some (.val v)) (hX : ∀ b ∈ c.X, b ∈ hb (.own v2 e2 k2 rows2 :: Hr)) :
    St c env (.own v2 e2 k2 (rows2.set i (row.set q (.list rows))) :: Hr) a w := by
  have h1 := h.perm (pick_perm hp)
  have h' : StW c (.own v e k rows :: .own v2 e2 k2 rows2 :: Hr) w := h1.heap
  obtain ⟨f1, f2, f3⟩ := stw_freeze h' hX
  have hs : St c env (.own v2 e2 k2 rows2 :: Hr) a w := ⟨h.size, h.defers, fun t s hl => f3 _ _ (h1.slots t s hl), f1⟩
  obtain ⟨vs, g1, g2, g3⟩ := hs.heap.ok (.own v2 e2 k2 rows2) (by simp)
  refine st_chg (j := 0) hs rfl rfl ⟨vs, by rw [List.length_set]; exact g1, ?_, g3⟩
  generalize c.av (.own v2 e2 k2 rows2 :: Hr) = A at f2 g2
  clear g1 hX f1 f3 h1 h' hp hs
  induction rows2 generalizing vs i with
  | nil => simp at hi
  | cons r0 rows2 ih =>
    obtain ⟨c0, rest, rfl, e1, e2', e3⟩ := g2
    cases i with
    | zero =>
      simp only [List.getElem?_cons_zero, Option.some.injEq] at hi
      subst hi
      refine ⟨c0, rest, rfl, e1, ?_, e3⟩
      obtain ⟨u, hu, hr⟩ := rdRow_get e2' hq
      have := rdRow_set (i := q) e2' (c := .list rows) (v := u) (by rw [hr.1]; exact f2)
      obtain ⟨hlt, rfl⟩ := List.getElem?_eq_some_iff.1 hu
      rwa [List.set_getElem_self] at this
    | succ i => exact ⟨c0, rest, rfl, e1, e2', ih i (by simpa using hi) rest e3⟩
theorem jc_freezeOG {Q : Exit → Act → World → Prop} {code : Code} (j j2 i q : Nat) {v v2 : Value} {e e2 : TypeId} {k k2 : Nat} {rows rows2 : List (List C)} {row : List C} {Hr : List Ch} (hp : pick [j, j2] H = some ([.own v e k rows, .own v2 e2 k2 rows2], Hr)) (hi : rows2[i]? = some row) (hq : row[q]? = some (.val v)) (hX : ∀ b ∈ c.X, b ∈ hb (.own v2 e2 k2 rows2 :: Hr))
    (h : JC c code Q env (.own v2 e2 k2 (rows2.set i (row.set q (.list rows))) :: Hr)) : JC c code Q env H := fun a w hs => h a w (st_freezeOG i q hs hp hi hq hX)
theorem jq_freezeOG {Q : Exit → Act → World → Prop} {ex : Exit} (j j2 i q : Nat) {v v2 : Value} {e e2 : TypeId} {k k2 : Nat} {rows rows2 : List (List C)} {row : List C} {Hr : List Ch} (hp : pick [j, j2] H = some ([.own v e k rows, .own v2 e2 k2 rows2], Hr)) (hi : rows2[i]? = some row) (hq : row[q]? = some (.val v)) (hX : ∀ b ∈ c.X, b ∈ hb (.own v2 e2 k2 rows2 :: Hr))
    (h : JQ c Q ex env (.own v2 e2 k2 (rows2.set i (row.set q (.list rows))) :: Hr)) : JQ c Q ex env H := fun a w hs => h a w (st_freezeOG i q hs hp hi hq hX)
end
end Go.Vc
end

section
namespace Go.Proofs.YtlniadfidfmckaaGreatDoor
open Go.Vc
set_option maxHeartbeats 8000000
attribute [local irreducible] JL JC JQ OpWp Con ConN
theorem pure_ints {v : Value} {e : TypeId} {k : Nat} (l : List Int) : ∀ ch ∈ [Ch.own v e k (l.map Irow)], ch.pure := by
  intro ch hch
  obtain rfl := List.mem_singleton.1 hch
  intro row hrow c hc
  obtain ⟨n, _, rfl⟩ := List.mem_map.1 hrow
  obtain rfl := List.mem_singleton.1 hc
  trivial
theorem rlabelsO_c (f : Nat) (l : List Sm) (depth : Int) (h0 : 0 ≤ depth) (h1 : depth + ((f + 1 : Nat) : Int) = 21) (hlim : (l.flatMap (rlOne (f + 1))).length ≤ 1000000) :
    Con Tryz.prog 101 [.cell (.list (l.map Sm.row)), In .i64 depth, In .i64 3] [] (fun K => ∀ v : Value, True → K (.cell (.val v)) [.own v 3 1 ((l.flatMap (rlOne (f + 1))).map Irow)]) := by
  refine con_intro Tryz.func101 rfl rfl (Nat.le_of_ble_eq_true rfl) (fun c hc => R_ (E_ r_ (T_ (R_ (E_ r_ (T_ (am_ (R_ (E_ r_ (T_ (au_ (jc_ownNil 3 1 g_ ?_))))))))))))
  refine jc_loop (ι := Nat × Value) [0, 1, 2] (fun i => i.1 ≤ l.length) (fun i => [(7, .cell (.val i.2)), (8, In .i64 (i.1 : Int))]) (fun i => [.own i.2 3 1 (((l.take i.1).flatMap (rlOne (f + 1))).map Irow)]) (fun i => l.length - i.1) (0, .slice none 0 0) [0] (Nat.zero_le _) rfl ?_ ?_
  · (repeat (first | exact True.intro | refine ⟨rfl, ?_⟩))
  · rintro ⟨k, v⟩ hk
    dsimp only at hk ⊢
    by_cases hlt : (k : Int) < ((l.map Sm.row).length : Int)
    · refine am_ (R_ (M_ r_ (M_ r_ (o_ r_ (br_ r_ (fun hlen => o_ r_ (bw_ r_ r_ (M_ r_ (ah_ r_ u_ b_ (bd_ r_ (ah_ r_ u_ b_ (cu_ r_ r_ (o_ r_ (bp_ r_ u_ r_ (T_ (jc_condd rfl (fun _ => ?_) (fun h => absurd (show depth ≤ 20 by omega) h)))))))))))))))))
      have hmax : l.length ≤ 9223372036854775807 := by simpa using hlen
      simp only [List.length_map, Int.ofNat_lt] at hlt
      have hle := flat_le (f := rlOne (f + 1)) hlt
      have e2 : rlOne (f + 1) l[k] = rlSelf l[k] ++ l[k].thn.flatMap (rlOne f) ++ l[k].els.flatMap (rlOne f) := rfl
      have hl2 := congrArg List.length e2
      simp only [List.length_append] at hl2
      refine as_ (al_ (B_ (R_ (M_ r_ (M_ r_ (o_ r_ (cc_ r_ r_ g_ (Sm.row_eq _) r_ b_ (o_ r_ (cr_ r_ r_ r_ (o_ r_ (bl_ r_ r_ (fun bl => S_ 0 r_ (T_ (am_ (am_ (jc_cut (ι := Unit) [0, 1, 2, 7, 8, 9] (fun _ => True) (fun _ => [(41, Bl (decide (l[k].kind = 3)))]) (fun _ => [.own v 3 1 (((l.take k).flatMap (rlOne (f + 1))).map Irow), .blk bl 51 l[k].row']) ?_ ?_))))))))))))))))
      · by_cases h3 : l[k].kind = 3
        · refine an_ (F_ r_ (L_ 0 r_ (o_ r_ (bn_ r_ r_ (M_ r_ (ai_ r_ u_ b_ (ai_ r_ u_ b_ (ai_ r_ u_ b_ (o_ r_ (bp_ r_ u_ r_ (M_ r_ (ah_ r_ r_ b_ (bd_ r_ (ah_ r_ r_ b_ (bn_ r_ r_ (ah_ r_ r_ b_ (bd_ r_ (ah_ r_ r_ b_ (bf_ r_ r_ r_ b_ (ah_ r_ r_ b_ (bg_ 0 r_ r_ r_ r_ (ah_ r_ r_ b_ (bd_ r_ ?_)))))))))))))))))))))))
          refine ah_ r_ r_ b_ (bn_ r_ r_ (ah_ r_ r_ b_ (bv_ r_ r_ r_ (o_ r_ (bp_ r_ r_ r_ (ak_ (jq_cut () [1, 0] trivial rfl ?_)))))))
          (repeat (first | exact True.intro | refine ⟨rfl, ?_⟩))
        · by_cases h4 : l[k].kind = 4
          · refine an_ (F_ r_ (L_ 0 r_ (o_ r_ (bn_ r_ r_ (M_ r_ (ah_ r_ w_ b_ (bf_ r_ r_ r_ b_ (ah_ r_ w_ b_ (bg_ 0 r_ r_ r_ r_ (ah_ r_ w_ b_ (bn_ r_ r_ (o_ r_ (bv_ r_ w_ r_ (M_ r_ (ah_ r_ u_ b_ (bd_ r_ (ah_ r_ u_ b_ (bn_ r_ r_ (ah_ r_ u_ b_ (bd_ r_ (ah_ r_ r_ b_ (bf_ r_ r_ r_ b_ (ah_ r_ r_ b_ (bg_ 0 r_ r_ r_ r_ (ah_ r_ r_ b_ (bd_ r_ ?_))))))))))))))))))))))))))
            refine ah_ r_ r_ b_ (bn_ r_ r_ (ah_ r_ u_ b_ (bv_ r_ r_ r_ (o_ r_ (bp_ r_ u_ r_ (ak_ (jq_cut () [1, 0] trivial rfl ?_)))))))
            (repeat (first | exact True.intro | refine ⟨rfl, ?_⟩))
          · refine an_ (F_ r_ (L_ 0 r_ (o_ r_ (bn_ r_ r_ (M_ r_ (ah_ r_ w_ b_ (bf_ r_ r_ r_ b_ (ah_ r_ w_ b_ (bg_ 0 r_ r_ r_ r_ (ah_ r_ w_ b_ (bn_ r_ r_ (o_ r_ (bv_ r_ w_ r_ (M_ r_ (ai_ r_ w_ b_ (ai_ r_ w_ b_ (ai_ r_ w_ b_ (aj_ r_ b_ (aj_ r_ b_ (aj_ r_ b_ ?_))))))))))))))))))))
            refine aj_ r_ b_ (ai_ r_ w_ b_ (o_ r_ (bv_ r_ w_ r_ (ak_ ?_))))
            rw [show decide (l[k].kind = 3) = false from decide_eq_false h3]
            refine jq_cut () [1, 0] trivial rfl ?_
            (repeat (first | exact True.intro | refine ⟨rfl, ?_⟩))
      intro _ _
      refine jc_cut (ι := Value) [0, 1, 2, 8, 9] (fun _ => True) (fun v => [(7, .cell (.val v))]) (fun v => [.own v 3 1 (((l.take k).flatMap (rlOne (f + 1)) ++ rlSelf l[k]).map Irow), .blk bl 51 l[k].row']) ?_ ?_
      · have hself : (rlSelf l[k]).length ≤ (rlOne (f + 1) l[k]).length := by rw [e2]; simp only [List.length_append]; omega
        refine jc_condd rfl (fun hw => ?_) (fun hw => ?_)
        · have e1 : rlSelf l[k] = [l[k].label] := by simp [rlSelf, hw]
          rw [e1] at hself ⊢
          simp only [List.length_cons, List.length_nil] at hself
          refine an_ (M_ r_ (F_ r_ (L_ 1 r_ (o_ r_ (bq_ r_ r_ b_ r_ r_ b_ (o_ r_ (ow_append1 0 (l[k].label) rfl rfl rfl rfl rfl rfl rfl (fun _ => rfl) (by show (_ + _) * 8 ≤ _; first | omega | (simp only [List.length_append]; omega)) (by first | omega | (simp only [List.length_append]; omega)) (fun v1 hv1 => E_ r_ (ak_ (jq_cut v1 [0, 0] trivial rfl ?_))))))))))
          (repeat (first | exact True.intro | refine ⟨rfl, ?_⟩))
        · have e1 : rlSelf l[k] = [] := by simp [rlSelf, hw]
          rw [e1, List.append_nil]
          refine as_ (jq_cut v [0, 0] trivial rfl ?_)
          (repeat (first | exact True.intro | refine ⟨rfl, ?_⟩))
      · intro v1 _
        refine R_ (M_ r_ (F_ r_ (L_ 1 r_ (M_ r_ (o_ r_ (bj_ r_ r_ g_ (M_ r_ (o_ r_ (bm_ r_ (rlabels_c f _ _ g_ g_ g_) (o_ r_ (ow_appendM 0 rfl rfl rfl rfl rfl rfl rfl (fun _ => rfl) (by show (_ + _) * 8 ≤ _; first | omega | (simp only [List.length_append]; omega)) (by first | omega | (simp only [List.length_append]; omega)) (fun v2 hv2 => E_ r_ (T_ (an_ (M_ r_ (F_ r_ (L_ 1 r_ (M_ r_ ?_))))))))))))))))))
        refine o_ r_ (bj_ r_ r_ g_ (M_ r_ (o_ r_ (bm_ r_ (rlabels_c f _ _ g_ g_ g_) (o_ r_ (ow_appendM 0 rfl rfl rfl rfl rfl rfl rfl (fun _ => rfl) (by show (_ + _) * 8 ≤ _; first | omega | (simp only [List.length_append]; omega)) (by first | omega | (simp only [List.length_append]; omega)) (fun v3 hv3 => E_ r_ (ak_ (ay_ (al_ (an_ (M_ r_ (o_ r_ (bj_ r_ r_ g_ (E_ r_ (ak_ ?_))))))))))))))))
        refine jq_again (i := (k, v)) (k + 1, v3) [0] hlt (by dsimp only; omega) (own_eq (congrArg (List.map Irow) ?_)) ?_
        · rw [flat_take hlt, e2]
          simp only [List.append_assoc]
        · (repeat (first | exact True.intro | refine ⟨rfl, ?_⟩))
    · refine am_ (R_ (M_ r_ (M_ r_ (o_ r_ (br_ r_ (fun hlen => o_ r_ (bw_ r_ r_ (M_ r_ (ai_ r_ w_ b_ (ai_ r_ w_ b_ (o_ r_ (bv_ r_ w_ r_ (T_ (jc_cond rfl (fun h => by cases h) (fun _ => av_ (ax_ (ax_ (ba_ ?_))))))))))))))))))
      refine al_ (R_ (M_ r_ (E_ r_ (T_ (ar_ ?_)))))
      simp only [List.length_map, Int.ofNat_lt] at hlt
      rw [List.take_of_length_le (Nat.le_of_not_lt hlt)]
      refine jq_ret1 rfl rfl [0] rfl (fun K h => h _ trivial)

theorem IfsO_c (l : List Sm) (h : (ifsOf l).length ≤ 1000000) : Con Tryz.prog 71 [.cell (.list (l.map Sm.row))] [] (fun K => ∀ v : Value, True → K (.cell (.val v)) [.own v 3 1 ((ifsOf l).map Irow)]) := by
  refine con_intro Tryz.func71 rfl rfl (Nat.le_of_ble_eq_true rfl) (fun c hc => R_ (E_ r_ (T_ (R_ (M_ r_ (o_ r_ (bt_ [] rfl rfl (rlabelsO_c 19 l 1 g_ g_ h) (fun pp hpp => E_ r_ (T_ (ar_ (jq_ret1 rfl rfl [0] rfl (fun K h => h _ trivial))))))))))))
end Go.Proofs.YtlniadfidfmckaaGreatDoor
end

section
namespace Go.Proofs.YtlniadfidfmckaaGreatDoor
open Go.Vc
set_option maxHeartbeats 8000000
attribute [local irreducible] JL JC JQ OpWp Con ConN
attribute [local irreducible] StG BlG
/-- A task that was made: its inputs and its body are owned. -/
structure To where
  t : Tk
  vI : Value
  vB : Value
abbrev To.row (o : To) : List C := Rw o.t.name o.t.period o.t.deadline o.t.priority o.t.jitter (.val o.vI) (FX (o.t.vars.map Wrow)) (FX (o.t.arrays.map ArRow)) (FX (o.t.modes.map MdRow)) (FX (o.t.claims.map ClRow)) (.val o.vB)
abbrev To.chs (o : To) : List Ch := [.own o.vI 43 3 (o.t.inputs.map InRow), .own o.vB 51 8 (o.t.body.map Sm.row)]
section
variable {L : List Int} {bd : Nat} {Sh : List Shd}
theorem taskO_c (hL : InR L) (hLn : L.length ≤ 400) (hSh : Sh.length ≤ 100) (nm : ByteArray) (W N : Int) (hW : 0 ≤ W ∧ W ≤ 1000000) (hN : 0 ≤ N ∧ N ≤ 14) :
    Con Tryz.prog 39 [Ptr bd, Str nm, .cell (.list (Sh.map ShRow)), In .i64 W, In .i64 N] [Dk bd L] (fun K => ∀ o : To, TaskG Sh nm W o.t → K (.row o.row) (Dk bd L :: o.chs)) := by
  refine con_intro Tryz.func39 rfl rfl (Nat.le_of_ble_eq_true rfl) (fun c hc => R_ (o_ r_ (bl_ rfl rfl (fun br => T_ (R_ (M_ r_ (M_ r_ (o_ r_ (bt_ [1] rfl rfl (Nx_c _ hL hLn g_) (fun k1 hk1 => o_ r_ (cz_ r_ r_ g_ (o_ r_ (bj_ r_ r_ g_ (M_ r_ (o_ r_ (bt_ [0] rfl rfl (Nx_c _ hL hLn g_) (fun k2 hk2 => o_ r_ (bj_ r_ r_ g_ (M_ r_ (o_ r_ (bt_ [0] rfl rfl (Nx_c _ hL hLn g_) (fun k3 hk3 => ?_))))))))))))))))))))))
  refine o_ r_ (cz_ r_ r_ g_ (o_ r_ (bu_ r_ r_ r_ r_ r_ (o_ r_ (bl_ rfl rfl (fun bt => S_ 0 r_ (T_ (am_ (jc_anyB 6 none rfl k_ k_ (yF_ r_ (yL_ 0 r_ (yM_ r_ (aa_ (fun c => ow_callA [1] r_ r_ (gNext_c L _ _ hL hLn g_)) (aa_ (fun c => ow_exarg 35 rfl (fun i => cz_ rfl rfl (by have := i.2; omega) ⟨rfl, .refl _⟩)) (aa_ (fun c => ow_exarg 36 rfl (fun i => cg_ rfl rfl (by have := i.2; omega) ⟨rfl, .refl _⟩)) ?_)))))))))))))))
  refine ae_ (afin_none (jl_slot 37 rfl (fun dl => F_ r_ (W_ 0 r_ (T_ (R_ (M_ r_ (M_ r_ (M_ r_ (o_ r_ (bu_ r_ r_ r_ r_ r_ (o_ r_ (ci_ r_ (fun bx => E_ r_ (T_ (am_ (R_ (E_ r_ ?_))))))))))))))))))
  refine T_ (jc_ownNil 9 1 g_ (jc_ownNil 43 3 g_ ?_))
  have hdl := dl.2
  generalize hper : 2000 + k1 * 500 = per
  generalize hdln : per - dl.1 * 100 = dln
  generalize hpri : 1 + k2 = pri
  generalize hjit : k3 * 10 = jit
  have hper2 : 2000 ≤ per ∧ per ≤ 6000 := by omega
  have hdln2 : per - 400 ≤ dln ∧ dln ≤ per := by omega
  have hpri2 : 1 ≤ pri ∧ pri ≤ 5 := by omega
  have hjit2 : 0 ≤ jit ∧ jit ≤ 30 := by omega
  clear hper hdln hpri hjit hdl hk1 hk2 hk3
  refine jc_cut (ι := (Value × List Inp) × (Value × List ByteArray)) [] (fun i => (c.Fresh i.1.1 ∧ c.Fresh i.2.1) ∧ ∃ n, n ≤ 2 ∧ InG n i.1.2 ∧ i.2.2 = XY.take n) (fun _ => Et bd W br bt bx)
    (fun i => [.blk bt 41 (Rw nm per dln pri jit (.val i.1.1) NilC NilC NilC NilC NilC), .blk bx 134 (M0 bd i.2.1 Sh N), .own i.1.1 43 3 (i.1.2.map InRow), .own i.2.1 9 1 (i.2.2.map Wrow), Dk bd L, .blk br 41 Zt]) ?_ ?_
  · refine au_ ?_
    refine jc_loopS (ι := Nat × (Value × List Inp) × (Value × List ByteArray)) [] (fun i => i.1 ≤ 2 ∧ (c.Fresh i.2.1.1 ∧ c.Fresh i.2.2.1) ∧ InG i.1 i.2.1.2 ∧ i.2.2.2 = XY.take i.1) (fun i => (13, In .i64 (i.1 : Int)) :: Et bd W br bt bx)
      (fun i => [.blk bt 41 (Rw nm per dln pri jit (.val i.2.1.1) NilC NilC NilC NilC NilC), .blk bx 134 (M0 bd i.2.2.1 Sh N), .own i.2.1.1 43 3 (i.2.1.2.map InRow), .own i.2.2.1 9 1 (i.2.2.2.map Wrow), Dk bd L, .blk br 41 Zt]) (fun i => 3 - i.1) (0, (.slice none 0 0, []), (.slice none 0 0, [])) ⟨by omega, ⟨fresh_nil, fresh_nil⟩, ⟨by simp, by simp⟩, by simp⟩ ?_ ?_ ?_
    · exact bc_ 3 r_ (bc_ 2 r_ (bc_ 0 r_ (bc_ 0 r_ (bc_ 0 r_ (bc_ 0 r_ sub_end)))))
    · (repeat (first | exact True.intro | refine ⟨rfl, ?_⟩))
    · rintro ⟨k, ⟨vI, lI⟩, vV, lV⟩ ⟨hk, ⟨hfI, hfV⟩, hokI, hlV⟩
      dsimp only at hk hfI hfV hokI hlV ⊢
      have hlI := hokI.len hk
      have hlV2 : lV.length ≤ 2 := by rw [hlV]; simp; omega
      refine am_ (R_ (M_ r_ (M_ r_ (o_ r_ (bt_ [4] rfl rfl (Nx_c _ hL hLn g_) (fun k4 hk4 => o_ r_ (bw_ r_ r_ (T_ (jc_condd rfl (fun hlt => ?_) (fun hge => ?_))))))))))
      · refine as_ (al_ (B_ (am_ (jc_cut (ι := ByteArray) [] (fun s => k ≤ 1 → XY[k]? = some s) (fun s => (14, Str s) :: ((13, In .i64 (k : Int)) :: Et bd W br bt bx)) (fun _ => [.blk bt 41 (Rw nm per dln pri jit (.val vI) NilC NilC NilC NilC NilC), .blk bx 134 (M0 bd vV Sh N), .own vI 43 3 (lI.map InRow), .own vV 9 1 (lV.map Wrow), Dk bd L, .blk br 41 Zt]) ?_ ?_))))
        · have hk3 : k = 0 ∨ k = 1 ∨ k = 2 := by omega
          rcases hk3 with rfl | rfl | rfl
          · refine an_ (o_ r_ (bq_ r_ r_ b_ r_ r_ b_ (M_ r_ (o_ r_ (ow_rem64 r_ r_ g_ g_ (o_ r_ (ow_indexAddr r_ r_ g_ r_ r_ b_ (o_ r_ (cb_ r_ r_ (E_ r_ (ak_ (jq_cutS (⟨#[120]⟩ : ByteArray) (fun _ => rfl) ?_ ?_))))))))))))
            · exact bc_ 1 r_ (bc_ 1 r_ (bc_ 1 r_ (bc_ 1 r_ (bc_ 0 r_ (bc_ 0 r_ sub_end)))))
            · (repeat (first | exact True.intro | refine ⟨rfl, ?_⟩))
          · refine an_ (o_ r_ (bq_ r_ r_ b_ r_ r_ b_ (M_ r_ (o_ r_ (ow_rem64 r_ r_ g_ g_ (o_ r_ (ow_indexAddr r_ r_ g_ r_ r_ b_ (o_ r_ (cb_ r_ r_ (E_ r_ (ak_ (jq_cutS (⟨#[121]⟩ : ByteArray) (fun _ => rfl) ?_ ?_))))))))))))
            · exact bc_ 1 r_ (bc_ 1 r_ (bc_ 1 r_ (bc_ 1 r_ (bc_ 0 r_ (bc_ 0 r_ sub_end)))))
            · (repeat (first | exact True.intro | refine ⟨rfl, ?_⟩))
          · refine an_ (o_ r_ (bq_ r_ r_ b_ r_ r_ b_ (M_ r_ (o_ r_ (ow_rem64 r_ r_ g_ g_ (o_ r_ (ow_indexAddr r_ r_ g_ r_ r_ b_ (o_ r_ (cb_ r_ r_ (E_ r_ (ak_ (jq_cutS (⟨#[120]⟩ : ByteArray) (fun h => by omega) ?_ ?_))))))))))))
            · exact bc_ 1 r_ (bc_ 1 r_ (bc_ 1 r_ (bc_ 1 r_ (bc_ 0 r_ (bc_ 0 r_ sub_end)))))
            · (repeat (first | exact True.intro | refine ⟨rfl, ?_⟩))
        intro s hsXY
        refine am_ (R_ (M_ r_ (o_ r_ (bz_ r_ r_ (T_ (jc_condd rfl (fun h1 => ?_) (fun h1 => ?_)))))))
        · refine av_ (ax_ (bb_ r_ (ax_ (ax_ (ba_ (jq_cutS ((vI, lI), (vV, lV)) ⟨⟨hfI, hfV⟩, k, hk, hokI, hlV⟩ ?_ ?_))))))
          · exact bc_ 0 r_ (bc_ 0 r_ (bc_ 0 r_ (bc_ 0 r_ (bc_ 0 r_ (bc_ 0 r_ sub_end)))))
          · (repeat (first | exact True.intro | refine ⟨rfl, ?_⟩))
        · refine as_ (al_ (R_ (M_ r_ (o_ r_ (bt_ [4] rfl rfl (Nx_c _ hL hLn g_) (fun k5 hk5 => o_ r_ (cg_ r_ r_ g_ (E_ r_ (T_ (am_ (jc_anyB 10 none rfl k_ k_ (yF_ r_ (yL_ 1 r_ (yM_ r_ (yM_ r_ (yM_ r_ (yM_ r_ ?_)))))))))))))))))
          refine aa_ (fun c => ow_callA [0] r_ r_ (gNext_c L _ _ hL hLn g_)) (aa_ (fun c => ow_exarg 66 rfl (fun i => bj_ rfl rfl (by have := i.2; omega) ⟨rfl, .refl _⟩)) (aa_ (fun c => ow_exarg 67 rfl (fun i => bu_ rfl rfl rfl rfl rfl ⟨rfl, .refl _⟩)) (aa_ (fun c => ow_exarg 68 rfl (fun i => bq_ rfl rfl b_ rfl rfl b_ ⟨rfl, .refl _⟩)) (ae_ (afin_none (jl_slot 69 rfl (fun n => ?_)))))))
          (first | refine jl_op (ow_append1F 3 ((s, k5 - 2, k5 - 2 + n.1)) rfl rfl rfl rfl rfl rfl rfl (fun _ => rfl) (by show (_ + _) * 32 ≤ _; first | omega | (simp only [List.length_append]; omega)) (by first | omega | (simp only [List.length_append]; omega)) (fun vI1 hvI1 fvI1 => ?_)) (nb rfl) | refine jl_op (ow_append1F 2 ((s, k5 - 2, k5 - 2 + n.1)) rfl rfl rfl rfl rfl rfl rfl (fun _ => rfl) (by show (_ + _) * 32 ≤ _; first | omega | (simp only [List.length_append]; omega)) (by first | omega | (simp only [List.length_append]; omega)) (fun vI1 hvI1 fvI1 => ?_)) (nb rfl) | refine jl_op (ow_append1F 4 ((s, k5 - 2, k5 - 2 + n.1)) rfl rfl rfl rfl rfl rfl rfl (fun _ => rfl) (by show (_ + _) * 32 ≤ _; first | omega | (simp only [List.length_append]; omega)) (by first | omega | (simp only [List.length_append]; omega)) (fun vI1 hvI1 fvI1 => ?_)) (nb rfl))
          refine F_ r_ (W_ 2 r_ (T_ (an_ (M_ r_ (M_ r_ (N_ r_ (F_ r_ (L_ 3 r_ (M_ r_ (o_ r_ (bq_ r_ r_ b_ r_ r_ b_ ?_)))))))))))
          (first | refine jl_op (ow_append1F 3 (s) rfl rfl rfl rfl rfl rfl rfl (fun _ => rfl) (by show (_ + _) * 16 ≤ _; first | omega | (simp only [List.length_append]; omega)) (by first | omega | (simp only [List.length_append]; omega)) (fun vV1 hvV1 fvV1 => ?_)) (nb rfl) | refine jl_op (ow_append1F 2 (s) rfl rfl rfl rfl rfl rfl rfl (fun _ => rfl) (by show (_ + _) * 16 ≤ _; first | omega | (simp only [List.length_append]; omega)) (by first | omega | (simp only [List.length_append]; omega)) (fun vV1 hvV1 fvV1 => ?_)) (nb rfl) | refine jl_op (ow_append1F 4 (s) rfl rfl rfl rfl rfl rfl rfl (fun _ => rfl) (by show (_ + _) * 16 ≤ _; first | omega | (simp only [List.length_append]; omega)) (by first | omega | (simp only [List.length_append]; omega)) (fun vV1 hvV1 fvV1 => ?_)) (nb rfl))
          refine N_ r_ (F_ r_ (W_ 4 r_ (ak_ (ay_ (al_ (an_ (M_ r_ (o_ r_ (bj_ r_ r_ g_ (E_ r_ (ak_ ?_)))))))))))
          have hk1 : k ≤ 1 := by omega
          refine jq_againS (i := (k, (vI, lI), (vV, lV))) (k + 1, (vI1, lI ++ [(s, k5 - 2, k5 - 2 + n.1)]), (vV1, lV ++ [s])) ⟨by dsimp only; omega, ⟨fvI1 hfI, fvV1 hfV⟩, hokI.snoc (hsXY hk1) (by have := n.2; omega), by
            obtain ⟨hlt, rfl⟩ := List.getElem?_eq_some_iff.1 (hsXY hk1)
            dsimp only
            rw [hlV, List.take_succ_eq_append_getElem hlt]⟩ (by dsimp only; omega) ?_ ?_
          · exact bc_ 2 r_ (bc_ 0 r_ (bc_ 1 r_ (bc_ 0 r_ (bc_ 0 r_ (bc_ 0 r_ sub_end)))))
          · (repeat (first | exact True.intro | refine ⟨rfl, ?_⟩))
      · refine av_ (ax_ (ax_ (ba_ (jq_cutS ((vI, lI), (vV, lV)) ⟨⟨hfI, hfV⟩, k, hk, hokI, hlV⟩ ?_ ?_))))
        · exact bc_ 1 r_ (bc_ 1 r_ (bc_ 1 r_ (bc_ 1 r_ (bc_ 0 r_ (bc_ 0 r_ sub_end)))))
        · (repeat (first | exact True.intro | refine ⟨rfl, ?_⟩))
  rintro ⟨⟨vI, lI⟩, vV, lV⟩ ⟨⟨hfI, hfV⟩, nI, hnI, hokI, hlV⟩
  dsimp only at hfI hfV hokI hlV ⊢
  have hlI := hokI.len hnI
  have hlV2 : lV.length ≤ 2 := by rw [hlV]; simp; omega
  have hlVI : lV = lI.map (·.1) := by rw [hlV, hokI.1]
  clear hlV
  refine R_ (o_ r_ (ow_buildSliceF (t := 27) r_ r_ b_ r_ r_ b_ (F_ r_ (W_ 0 r_ (T_ (am_ (jc_anyF 7 none [0] rfl k_ k_ k_ rfl (yM_ r_ (yM_ r_ (yN_ r_ (yF_ r_ (yL_ 1 r_ (yF_ r_ (aa_ (fun c => ow_loadFX 0 r_ r_ r_ r_ p_) (ae_ (afin_none ?_))))))))))))))))
  (first | refine jl_op (ow_appendMF (f := Wrow) (l1 := lV) (l2 := [⟨#[105]⟩, ⟨#[107]⟩, ⟨#[110]⟩]) 0 rfl rfl rfl rfl rfl rfl rfl (fun _ => rfl) (by show (_ + 3) * 16 ≤ _; omega) (by simp; omega) (fun vV1 hvV1 fvV1 => ?_)) (nb rfl) | refine jl_op (ow_appendMF (f := Wrow) (l1 := lV) (l2 := [⟨#[105]⟩, ⟨#[107]⟩, ⟨#[110]⟩]) 1 rfl rfl rfl rfl rfl rfl rfl (fun _ => rfl) (by show (_ + 3) * 16 ≤ _; omega) (by simp; omega) (fun vV1 hvV1 fvV1 => ?_)) (nb rfl) | refine jl_op (ow_appendMF (f := Wrow) (l1 := lV) (l2 := [⟨#[105]⟩, ⟨#[107]⟩, ⟨#[110]⟩]) 2 rfl rfl rfl rfl rfl rfl rfl (fun _ => rfl) (by show (_ + 3) * 16 ≤ _; omega) (by simp; omega) (fun vV1 hvV1 fvV1 => ?_)) (nb rfl) | refine jl_op (ow_appendMF (f := Wrow) (l1 := lV) (l2 := [⟨#[105]⟩, ⟨#[107]⟩, ⟨#[110]⟩]) 3 rfl rfl rfl rfl rfl rfl rfl (fun _ => rfl) (by show (_ + 3) * 16 ≤ _; omega) (by simp; omega) (fun vV1 hvV1 fvV1 => ?_)) (nb rfl) | refine jl_op (ow_appendMF (f := Wrow) (l1 := lV) (l2 := [⟨#[105]⟩, ⟨#[107]⟩, ⟨#[110]⟩]) 4 rfl rfl rfl rfl rfl rfl rfl (fun _ => rfl) (by show (_ + 3) * 16 ≤ _; omega) (by simp; omega) (fun vV1 hvV1 fvV1 => ?_)) (nb rfl))
  refine jl_freezeF 91 0 rfl rfl (fvV1 hfV) ?_
  generalize hVe : lV ++ VS = V
  have hV0 : 0 < V.length := by rw [← hVe]; simp
  have hV : V.length ≤ 100 := by rw [← hVe]; simp; omega
  refine N_ r_ (F_ r_ (W_ 1 r_ (ak_ (jq_np (al_ (am_ ?_))))))
  have hMk : RowLe [.val (.pointer (some ⟨bd, 0, none⟩)), .list (V.map Wrow), NilC, NilC, .list (Sh.map ShRow), .val (.string ⟨#[]⟩), .val (.int .i64 0), .val (.int .i64 N), .val (.int .i64 0)] (MkRow bd V (.slice none 0 0) [] Sh ⟨#[]⟩ 0 N 0) :=
    .cons (.refl _) (.cons (.refl _) (.cons (.refl _) (.cons .nil (.refl _))))
  (first | refine jc_row 0 _ rfl hMk ?_ | refine jc_row 1 _ rfl hMk ?_ | refine jc_row 2 _ rfl hMk ?_ | refine jc_row 3 _ rfl hMk ?_ | refine jc_row 4 _ rfl hMk ?_ | refine jc_row 5 _ rfl hMk ?_)
  refine jc_cut (ι := List Arr) [] ArG (fun _ => Et bd W br bt bx) (fun ar => [.blk bt 41 (Rw nm per dln pri jit (.val vI) (FX (VS.map Wrow)) (FX (ar.map ArRow)) NilC NilC NilC), Mk bx bd V (.slice none 0 0) (ar.map (·.1)) Sh ⟨#[]⟩ 0 N 0, .own vI 43 3 (lI.map InRow), Dk bd L, .blk br 41 Zt]) ?_ ?_
  · refine R_ (M_ r_ (o_ r_ (bt_ [3] rfl rfl (Nx_c _ hL hLn g_) (fun k6 hk6 => o_ r_ (bn_ r_ r_ (T_ (jc_condd rfl (fun h1 => ?_) (fun h1 => ?_))))))))
    · refine R_ (M_ r_ (o_ r_ (bt_ [0] rfl rfl (Nx_c _ hL hLn g_) (fun k7 hk7 => ?_))))
      have h5 := pow_bd k7 (by omega)
      refine o_ r_ (ow_convU64 r_ r_ r_ g_ (o_ r_ (ow_shl64 r_ r_ g_ g_ (o_ r_ (bu_ r_ r_ r_ r_ r_ (o_ r_ (ow_buildSliceF (t := 36) r_ r_ b_ r_ r_ b_ (F_ r_ (W_ 2 r_ (T_ (an_ (M_ r_ (o_ r_ (bq_ r_ r_ b_ r_ r_ b_ (N_ r_ (F_ r_ (W_ 2 r_ (ak_ ?_))))))))))))))))))
      (first | refine jq_row 0 (MkRow bd V (.slice none 0 0) [⟨#[97]⟩] Sh ⟨#[]⟩ 0 N 0) rfl (.refl _) ?_ | refine jq_row 1 (MkRow bd V (.slice none 0 0) [⟨#[97]⟩] Sh ⟨#[]⟩ 0 N 0) rfl (.refl _) ?_ | refine jq_row 2 (MkRow bd V (.slice none 0 0) [⟨#[97]⟩] Sh ⟨#[]⟩ 0 N 0) rfl (.refl _) ?_ | refine jq_row 3 (MkRow bd V (.slice none 0 0) [⟨#[97]⟩] Sh ⟨#[]⟩ 0 N 0) rfl (.refl _) ?_ | refine jq_row 4 (MkRow bd V (.slice none 0 0) [⟨#[97]⟩] Sh ⟨#[]⟩ 0 N 0) rfl (.refl _) ?_ | refine jq_row 5 (MkRow bd V (.slice none 0 0) [⟨#[97]⟩] Sh ⟨#[]⟩ 0 N 0) rfl (.refl _) ?_)
      refine jq_cutS ([(⟨#[97]⟩, 1 * 2 ^ k7.toNat)] : List Arr) (.inr ⟨k7.toNat, by omega, by rw [Int.one_mul]⟩) ?_ ?_
      · exact bc_ 1 r_ (bc_ 0 r_ (bc_ 1 r_ (bc_ 0 r_ (bc_ 0 r_ sub_end))))
      · (repeat (first | exact True.intro | refine ⟨rfl, ?_⟩))
    · refine as_ ?_
      (first | refine jq_row 0 (Rw nm per dln pri jit (.val vI) (FX (VS.map Wrow)) (FX (([] : List Arr).map ArRow)) NilC NilC NilC) rfl (.cons (.refl _) (.cons (.refl _) (.cons (.refl _) (.cons (.refl _) (.cons (.refl _) (.cons (.refl _) (.cons (.refl _) (.cons CLe.fxnil (.refl _))))))))) ?_ | refine jq_row 1 (Rw nm per dln pri jit (.val vI) (FX (VS.map Wrow)) (FX (([] : List Arr).map ArRow)) NilC NilC NilC) rfl (.cons (.refl _) (.cons (.refl _) (.cons (.refl _) (.cons (.refl _) (.cons (.refl _) (.cons (.refl _) (.cons (.refl _) (.cons CLe.fxnil (.refl _))))))))) ?_ | refine jq_row 2 (Rw nm per dln pri jit (.val vI) (FX (VS.map Wrow)) (FX (([] : List Arr).map ArRow)) NilC NilC NilC) rfl (.cons (.refl _) (.cons (.refl _) (.cons (.refl _) (.cons (.refl _) (.cons (.refl _) (.cons (.refl _) (.cons (.refl _) (.cons CLe.fxnil (.refl _))))))))) ?_ | refine jq_row 3 (Rw nm per dln pri jit (.val vI) (FX (VS.map Wrow)) (FX (([] : List Arr).map ArRow)) NilC NilC NilC) rfl (.cons (.refl _) (.cons (.refl _) (.cons (.refl _) (.cons (.refl _) (.cons (.refl _) (.cons (.refl _) (.cons (.refl _) (.cons CLe.fxnil (.refl _))))))))) ?_ | refine jq_row 4 (Rw nm per dln pri jit (.val vI) (FX (VS.map Wrow)) (FX (([] : List Arr).map ArRow)) NilC NilC NilC) rfl (.cons (.refl _) (.cons (.refl _) (.cons (.refl _) (.cons (.refl _) (.cons (.refl _) (.cons (.refl _) (.cons (.refl _) (.cons CLe.fxnil (.refl _))))))))) ?_ | refine jq_row 5 (Rw nm per dln pri jit (.val vI) (FX (VS.map Wrow)) (FX (([] : List Arr).map ArRow)) NilC NilC NilC) rfl (.cons (.refl _) (.cons (.refl _) (.cons (.refl _) (.cons (.refl _) (.cons (.refl _) (.cons (.refl _) (.cons (.refl _) (.cons CLe.fxnil (.refl _))))))))) ?_)
      refine jq_cutS ([] : List Arr) (.inl rfl) ?_ ?_
      · exact bc_ 0 r_ (bc_ 1 r_ (bc_ 1 r_ (bc_ 0 r_ (bc_ 0 r_ sub_end))))
      · (repeat (first | exact True.intro | refine ⟨rfl, ?_⟩))
  intro ar har
  refine am_ (jc_cut (ι := List Md) [] (MdG lI) (fun _ => Et bd W br bt bx) (fun md => [.blk bt 41 (Rw nm per dln pri jit (.val vI) (FX (VS.map Wrow)) (FX (ar.map ArRow)) (FX (md.map MdRow)) NilC NilC), Mk bx bd V (.slice none 0 0) (ar.map (·.1)) Sh ⟨#[]⟩ 0 N 0, .own vI 43 3 (lI.map InRow), Dk bd L, .blk br 41 Zt]) ?_ ?_)
  · refine am_ (jc_cut (ι := Bool) [] (fun b => b = true → 0 < lI.length) (fun b => (116, Bl b) :: Et bd W br bt bx) (fun _ => [.blk bt 41 (Rw nm per dln pri jit (.val vI) (FX (VS.map Wrow)) (FX (ar.map ArRow)) NilC NilC NilC), Mk bx bd V (.slice none 0 0) (ar.map (·.1)) Sh ⟨#[]⟩ 0 N 0, .own vI 43 3 (lI.map InRow), Dk bd L, .blk br 41 Zt]) ?_ ?_)
    · by_cases hl : (0 : Int) < ((lI.map InRow).length : Int)
      · refine an_ (F_ r_ (L_ 0 r_ (o_ r_ (cw_ 2 r_ r_ (fun hlen => o_ r_ (bz_ r_ r_ (M_ r_ (ah_ r_ u_ b_ (bd_ r_ ?_)))))))))
        refine ah_ rfl (by (first | assumption | exact decide_eq_true rfl | exact decide_eq_true (by first | assumption | omega) | exact decide_eq_false (by first | assumption | omega) | with_reducible rfl | exact (rfl : false = !true) | exact (rfl : true = !false))) b_ (bt_ [3] rfl rfl (Nx_c _ hL hLn g_) (fun k8 hk8 => ah_ r_ u_ b_ (bn_ r_ r_ (o_ r_ (bp_ r_ u_ r_ (ak_ ?_))))))
        refine jq_cutS (decide (k8 = 1)) (fun _ => by simp at hl; omega) ?_ ?_
        · exact bc_ 1 r_ (bc_ 1 r_ (bc_ 1 r_ (bc_ 0 r_ (bc_ 0 r_ sub_end))))
        · (repeat (first | exact True.intro | refine ⟨rfl, ?_⟩))
      · refine an_ (F_ r_ (L_ 0 r_ (o_ r_ (cw_ 2 r_ r_ (fun hlen => o_ r_ (bz_ r_ r_ (M_ r_ (ai_ r_ w_ b_ (ai_ r_ w_ b_ (ai_ r_ w_ b_ (o_ r_ (bv_ r_ w_ r_ (ak_ (jq_cutS false (by simp) ?_ ?_))))))))))))))
        · exact bc_ 0 r_ (bc_ 0 r_ (bc_ 0 r_ (bc_ 0 r_ (bc_ 0 r_ sub_end))))
        · (repeat (first | exact True.intro | refine ⟨rfl, ?_⟩))
    intro b hb
    refine jc_cond rfl (fun hbt => ?_) (fun hbt => ?_)
    · have hl0 := hb hbt
      have hx := hokI.2 lI[0] (List.getElem_mem _)
      have hI0 : (lI.map InRow)[0]? = some (InRow lI[0]) := by rw [List.getElem?_map, List.getElem?_eq_getElem hl0]; rfl
      have hlI0 : 0 < (lI.map InRow).length := by rw [List.length_map]; exact hl0
      refine R_ (F_ r_ (L_ 0 r_ (o_ r_ (dc_ (k := 3) 2 rfl rfl rfl g_ (by show 0 < _ ; exact hlI0) rfl (o_ r_ (ow_loadInnN 2 0 r_ r_ r_ r_ hI0 r_ (o_ r_ (bl_ r_ r_ (fun bl => S_ 0 r_ (T_ (am_ (ao_ r_ r_ k_ k_ (yF_ r_ (yL_ 0 r_ (yM_ r_ (yF_ r_ (yL_ 0 r_ (yF_ r_ ?_))))))))))))))))))
      refine yL_ 0 r_ (aa_ (fun c => cg_ r_ r_ g_ p_) (aa_ (fun c => bj_ r_ r_ g_ p_) (aa_ (fun c => ow_callA [4] r_ r_ (gNext_c L _ (lI[0].2.2 - lI[0].2.1 + 1) hL hLn g_)) (aa_ (fun c => ow_exarg 130 rfl (fun i => bj_ rfl rfl (by have := i.2; omega) ⟨rfl, .refl _⟩)) (aa_ (fun c => ow_exarg 131 rfl (fun i => be_ rfl ⟨rfl, .refl _⟩)) (ae_ (jq_slot 17 rfl (fun lo => ?_))))))))
      have hlo := lo.2
      refine al_ (jc_anyB 14 none rfl k_ k_ (yF_ r_ (yL_ 0 r_ (yM_ r_ (yM_ r_ (yM_ r_ (yF_ r_ (yL_ 0 r_ (yM_ r_ (aa_ (fun c => cg_ r_ r_ g_ p_) (aa_ (fun c => bj_ r_ r_ g_ p_) (aa_ (fun c => ow_callA [4] r_ r_ (gNext_c L _ (lI[0].2.2 - (lI[0].2.1 + lo.1) + 1) hL hLn g_)) (aa_ (fun c => ow_exarg 142 rfl (fun i => bj_ rfl rfl (by have := i.2; omega) ⟨rfl, .refl _⟩)) ?_)))))))))))))
      refine aa_ (fun c => ow_exarg 143 rfl (fun i => bu_ rfl rfl rfl rfl rfl ⟨rfl, .refl _⟩)) (aa_ (fun c => ow_exarg 144 rfl (fun i => ow_buildSliceF rfl rfl b_ rfl rfl b_ ⟨rfl, .refl _⟩)) (ae_ (afin_none (jl_slot 145 rfl (fun n => F_ r_ (W_ 1 r_ (ak_ (jq_cutS ([(⟨#[102, 101, 119]⟩, lI[0].1, lI[0].2.1 + lo.1, lI[0].2.1 + lo.1 + n.1)] : List Md) (.inr ⟨lI[0], _, _, by simp, by have := n.2; omega, rfl⟩) ?_ ?_))))))))
      · exact bc_ 0 r_ (bc_ 1 r_ (bc_ 1 r_ (bc_ 1 r_ (bc_ 1 r_ sub_end))))
      · (repeat (first | exact True.intro | refine ⟨rfl, ?_⟩))
    · refine as_ ?_
      (first | refine jq_row 0 (Rw nm per dln pri jit (.val vI) (FX (VS.map Wrow)) (FX (ar.map ArRow)) (FX (([] : List Md).map MdRow)) NilC NilC) rfl (.cons (.refl _) (.cons (.refl _) (.cons (.refl _) (.cons (.refl _) (.cons (.refl _) (.cons (.refl _) (.cons (.refl _) (.cons (.refl _) (.cons CLe.fxnil (.refl _)))))))))) ?_ | refine jq_row 1 (Rw nm per dln pri jit (.val vI) (FX (VS.map Wrow)) (FX (ar.map ArRow)) (FX (([] : List Md).map MdRow)) NilC NilC) rfl (.cons (.refl _) (.cons (.refl _) (.cons (.refl _) (.cons (.refl _) (.cons (.refl _) (.cons (.refl _) (.cons (.refl _) (.cons (.refl _) (.cons CLe.fxnil (.refl _)))))))))) ?_ | refine jq_row 2 (Rw nm per dln pri jit (.val vI) (FX (VS.map Wrow)) (FX (ar.map ArRow)) (FX (([] : List Md).map MdRow)) NilC NilC) rfl (.cons (.refl _) (.cons (.refl _) (.cons (.refl _) (.cons (.refl _) (.cons (.refl _) (.cons (.refl _) (.cons (.refl _) (.cons (.refl _) (.cons CLe.fxnil (.refl _)))))))))) ?_ | refine jq_row 3 (Rw nm per dln pri jit (.val vI) (FX (VS.map Wrow)) (FX (ar.map ArRow)) (FX (([] : List Md).map MdRow)) NilC NilC) rfl (.cons (.refl _) (.cons (.refl _) (.cons (.refl _) (.cons (.refl _) (.cons (.refl _) (.cons (.refl _) (.cons (.refl _) (.cons (.refl _) (.cons CLe.fxnil (.refl _)))))))))) ?_ | refine jq_row 4 (Rw nm per dln pri jit (.val vI) (FX (VS.map Wrow)) (FX (ar.map ArRow)) (FX (([] : List Md).map MdRow)) NilC NilC) rfl (.cons (.refl _) (.cons (.refl _) (.cons (.refl _) (.cons (.refl _) (.cons (.refl _) (.cons (.refl _) (.cons (.refl _) (.cons (.refl _) (.cons CLe.fxnil (.refl _)))))))))) ?_ | refine jq_row 5 (Rw nm per dln pri jit (.val vI) (FX (VS.map Wrow)) (FX (ar.map ArRow)) (FX (([] : List Md).map MdRow)) NilC NilC) rfl (.cons (.refl _) (.cons (.refl _) (.cons (.refl _) (.cons (.refl _) (.cons (.refl _) (.cons (.refl _) (.cons (.refl _) (.cons (.refl _) (.cons CLe.fxnil (.refl _)))))))))) ?_)
      refine jq_cutS ([] : List Md) (.inl rfl) ?_ ?_
      · exact bc_ 0 r_ (bc_ 0 r_ (bc_ 0 r_ (bc_ 0 r_ (bc_ 0 r_ sub_end))))
      · (repeat (first | exact True.intro | refine ⟨rfl, ?_⟩))
  intro md hmd
  have harl : ar.length ≤ 1 := by rcases har with rfl | ⟨k, _, rfl⟩ <;> simp
  have gv : Gv L V (ar.map (·.1)) Sh := ⟨hL, hLn, hV0, hV, by rw [List.length_map]; omega, hSh⟩
  have hblk := (maker_c (bm := bx) (bd := bd) gv 3 (by omega)).2.1
  refine jc_ownNil 9 1 g_ (R_ (M_ r_ ?_))
  have con := hblk ⟨.slice none 0 0, 0, N⟩ ⟨#[]⟩ 0 [] 3 5 ⟨⟨by dsimp only; omega, by dsimp only; omega⟩, hN.1, hN.2⟩ (by omega) (by omega) (by simp) rfl (by omega) (by omega)
  dsimp only at con
  refine o_ r_ (ow_callNP [2, 3, 0] rfl rfl (con) (fun r n hn hr => ?_))
  obtain ⟨⟨lv2, lab2, st2⟩, v2, l2⟩ := r
  obtain ⟨hok2, hf2, hl2, hsh2⟩ := hr
  dsimp only at hl2 hsh2 hf2 ⊢
  have hsz := body_szs hsh2
  have hifs := ifs_le l2
  refine F_ r_ (W_ 4 r_ (T_ (am_ ?_)))
  have hIf := fun (v : Value) => con_lend (v := v) (e := 51) (k := 8) (IfsO_c l2 (by omega)) (fun v _ => ⟨trivial, pure_ints _⟩)
  refine an_ (F_ r_ (L_ 0 r_ (o_ r_ (bt_ [1] rfl rfl (hIf _) (fun v18 hv18 => jl_freeze 152 0 rfl rfl (by rw [hc]; simp [hb, Ch.bs]) (E_ r_ (T_ (am_ ?_))))))))
  refine jc_cut (ι := List Clm) [] (ClG (ifsOf l2)) (fun _ => ((18, .cell (.list ((ifsOf l2).map Irow))) :: Et3 bd W br bt)) (fun cl => [.blk bt 41 (Rw nm per dln pri jit (.val vI) (FX (VS.map Wrow)) (FX (ar.map ArRow)) (FX (md.map MdRow)) (FX (cl.map ClRow)) (.val v2)), .own v2 51 8 (l2.map Sm.row), .own vI 43 3 (lI.map InRow), Dk bd L, .blk br 41 Zt]) ?_ ?_
  · refine am_ (jc_cut (ι := Bool) [] (fun b => b = true → 1 < (ifsOf l2).length) (fun b => (160, Bl b) :: ((18, .cell (.list ((ifsOf l2).map Irow))) :: Et3 bd W br bt)) (fun _ => [.blk bt 41 (Rw nm per dln pri jit (.val vI) (FX (VS.map Wrow)) (FX (ar.map ArRow)) (FX (md.map MdRow)) NilC (.val v2)), .own v2 51 8 (l2.map Sm.row), .own vI 43 3 (lI.map InRow), Dk bd L, .blk br 41 Zt]) ?_ ?_)
    · by_cases hl : (1 : Int) < (((ifsOf l2).map Irow).length : Int)
      · refine an_ (M_ r_ (o_ r_ (br_ r_ (fun hlen => o_ r_ (bz_ r_ r_ (M_ r_ (ah_ r_ u_ b_ (bd_ r_ (ah_ rfl (by (first | assumption | exact decide_eq_true rfl | exact decide_eq_true (by first | assumption | omega) | exact decide_eq_false (by first | assumption | omega) | with_reducible rfl | exact (rfl : false = !true) | exact (rfl : true = !false))) b_ (bt_ [3] rfl rfl (Nx_c _ hL hLn g_) (fun k9 hk9 => ?_)))))))))))
        refine ah_ r_ u_ b_ (bn_ r_ r_ (o_ r_ (bp_ r_ u_ r_ (ak_ (jq_cutS (decide (k9 = 1)) (fun _ => by simp at hl; omega) ?_ ?_)))))
        · exact bc_ 2 r_ (bc_ 1 r_ (bc_ 3 r_ (bc_ 0 r_ (bc_ 2 r_ sub_end))))
        · (repeat (first | exact True.intro | refine ⟨rfl, ?_⟩))
      · refine an_ (M_ r_ (o_ r_ (br_ r_ (fun hlen => o_ r_ (bz_ r_ r_ (M_ r_ (ai_ r_ w_ b_ (ai_ r_ w_ b_ (ai_ r_ w_ b_ (o_ r_ (bv_ r_ w_ r_ (ak_ (jq_cutS false (by simp) ?_ ?_)))))))))))))
        · exact bc_ 1 r_ (bc_ 0 r_ (bc_ 3 r_ (bc_ 1 r_ (bc_ 2 r_ sub_end))))
        · (repeat (first | exact True.intro | refine ⟨rfl, ?_⟩))
    intro b hb
    refine jc_cond rfl (fun hbt => ?_) (fun hbt => ?_)
    · have hl1 := hb hbt
      have eI : ((ifsOf l2).map Irow).length = (ifsOf l2).length := List.length_map _
      refine R_ (M_ r_ (M_ r_ (o_ r_ (br_ r_ (fun hlen => o_ r_ (bt_ [3] rfl rfl (Nx_c _ hL hLn g_) (fun k10 hk10 => E_ r_ (T_ (jc_anyB 20 none rfl k_ k_ (yM_ r_ (yM_ r_ (aa_ (fun c => cv_ r_ r_ g_ g_ r_ r_ b_ p_) (aa_ (fun c => cb_ r_ r_ p_) (yM_ r_ (yM_ r_ (aa_ (fun c => bj_ r_ r_ g_ p_) (yM_ r_ ?_)))))))))))))))))
      refine yM_ r_ (aa_ (fun c => br_ r_ (fun hlen => p_)) (aa_ (fun c => cg_ r_ r_ g_ p_) (aa_ (fun c => ow_callA [0] r_ r_ (gNext_c L _ _ hL hLn g_)) (aa_ (fun c => ow_exarg 176 rfl (fun i => bj_ rfl rfl (by have := i.2; omega) ⟨rfl, .refl _⟩)) (yM_ r_ (aa_ (fun c => br_ r_ (fun hlen => p_)) (aa_ (fun c => ow_exarg 177 rfl (fun i => ow_rem64 rfl rfl (by have := i.2; omega) g_ ⟨rfl, .refl _⟩)) ?_)))))))
      have hrem : ∀ i : {i : Int // 0 ≤ i ∧ (i < (((ifsOf l2).map Irow).length : Int) - 1 ∨ i = 0)}, 0 ≤ (k10 + 1 + i.1) % (((ifsOf l2).map Irow).length : Int) ∧ ((k10 + 1 + i.1) % (((ifsOf l2).map Irow).length : Int)).toNat < (ifsOf l2).length := by
        intro i
        have h1 := Int.emod_nonneg (k10 + 1 + i.1) (show (((ifsOf l2).map Irow).length : Int) ≠ 0 by omega)
        have h2 := Int.emod_lt_of_pos (k10 + 1 + i.1) (show (0 : Int) < (((ifsOf l2).map Irow).length : Int) by omega)
        omega
      have hne : ∀ i : {i : Int // 0 ≤ i ∧ (i < (((ifsOf l2).map Irow).length : Int) - 1 ∨ i = 0)}, k10.toNat ≠ ((k10 + 1 + i.1) % (((ifsOf l2).map Irow).length : Int)).toNat := by
        intro i h
        have hi := i.2
        have h1 := hrem i
        have h2 : (k10 + 1 + i.1) % (((ifsOf l2).map Irow).length : Int) = k10 := by omega
        have h3 := Int.emod_emod_of_dvd (k10 + 1 + i.1) (Int.dvd_refl (((ifsOf l2).map Irow).length : Int))
        have h4 : (1 + i.1) % (((ifsOf l2).map Irow).length : Int) = 0 := by
          have h5 := Int.sub_emod (k10 + 1 + i.1) k10 (((ifsOf l2).map Irow).length : Int)
          rw [h2, show k10 % (((ifsOf l2).map Irow).length : Int) = k10 from Int.emod_eq_of_lt (by omega) (by omega), Int.sub_self, Int.zero_emod, show k10 + 1 + i.1 - k10 = 1 + i.1 by omega] at h5
          exact h5
        rw [Int.emod_eq_of_lt (by omega) (by omega)] at h4
        omega
      refine aa_ (fun c => ow_exarg 180 rfl (fun i => cv_ rfl rfl (hrem i).1 (hrem i).2 rfl rfl b_ ⟨rfl, .refl _⟩)) (aa_ (fun c => ow_exarg 181 rfl (fun i => cb_ rfl rfl ⟨rfl, .refl _⟩)) (aa_ (fun c => ow_exarg 182 rfl (fun i => bu_ rfl rfl rfl rfl rfl ⟨rfl, .refl _⟩)) (aa_ (fun c => ow_exarg 183 rfl (fun i => ow_buildSliceF rfl rfl b_ rfl rfl b_ ⟨rfl, .refl _⟩)) (ae_ (afin_none (jl_slot 184 rfl (fun i => F_ r_ ?_)))))))
      refine W_ 1 r_ (ak_ (jq_cutS ([((ifsOf l2)[k10.toNat]'g_, (ifsOf l2)[((k10 + 1 + i.1) % (((ifsOf l2).map Irow).length : Int)).toNat]'(hrem i).2)] : List Clm) (.inr ⟨_, _, by omega, (hrem i).2, hne i, rfl⟩) ?_ ?_))
      · exact bc_ 0 r_ (bc_ 1 r_ (bc_ 1 r_ (bc_ 0 r_ (bc_ 0 r_ sub_end))))
      · (repeat (first | exact True.intro | refine ⟨rfl, ?_⟩))
    · refine as_ ?_
      (first | refine jq_row 0 (Rw nm per dln pri jit (.val vI) (FX (VS.map Wrow)) (FX (ar.map ArRow)) (FX (md.map MdRow)) (FX (([] : List Clm).map ClRow)) (.val v2)) rfl (.cons (.refl _) (.cons (.refl _) (.cons (.refl _) (.cons (.refl _) (.cons (.refl _) (.cons (.refl _) (.cons (.refl _) (.cons (.refl _) (.cons (.refl _) (.cons CLe.fxnil (.refl _))))))))))) ?_ | refine jq_row 1 (Rw nm per dln pri jit (.val vI) (FX (VS.map Wrow)) (FX (ar.map ArRow)) (FX (md.map MdRow)) (FX (([] : List Clm).map ClRow)) (.val v2)) rfl (.cons (.refl _) (.cons (.refl _) (.cons (.refl _) (.cons (.refl _) (.cons (.refl _) (.cons (.refl _) (.cons (.refl _) (.cons (.refl _) (.cons (.refl _) (.cons CLe.fxnil (.refl _))))))))))) ?_ | refine jq_row 2 (Rw nm per dln pri jit (.val vI) (FX (VS.map Wrow)) (FX (ar.map ArRow)) (FX (md.map MdRow)) (FX (([] : List Clm).map ClRow)) (.val v2)) rfl (.cons (.refl _) (.cons (.refl _) (.cons (.refl _) (.cons (.refl _) (.cons (.refl _) (.cons (.refl _) (.cons (.refl _) (.cons (.refl _) (.cons (.refl _) (.cons CLe.fxnil (.refl _))))))))))) ?_ | refine jq_row 3 (Rw nm per dln pri jit (.val vI) (FX (VS.map Wrow)) (FX (ar.map ArRow)) (FX (md.map MdRow)) (FX (([] : List Clm).map ClRow)) (.val v2)) rfl (.cons (.refl _) (.cons (.refl _) (.cons (.refl _) (.cons (.refl _) (.cons (.refl _) (.cons (.refl _) (.cons (.refl _) (.cons (.refl _) (.cons (.refl _) (.cons CLe.fxnil (.refl _))))))))))) ?_ | refine jq_row 4 (Rw nm per dln pri jit (.val vI) (FX (VS.map Wrow)) (FX (ar.map ArRow)) (FX (md.map MdRow)) (FX (([] : List Clm).map ClRow)) (.val v2)) rfl (.cons (.refl _) (.cons (.refl _) (.cons (.refl _) (.cons (.refl _) (.cons (.refl _) (.cons (.refl _) (.cons (.refl _) (.cons (.refl _) (.cons (.refl _) (.cons CLe.fxnil (.refl _))))))))))) ?_ | refine jq_row 5 (Rw nm per dln pri jit (.val vI) (FX (VS.map Wrow)) (FX (ar.map ArRow)) (FX (md.map MdRow)) (FX (([] : List Clm).map ClRow)) (.val v2)) rfl (.cons (.refl _) (.cons (.refl _) (.cons (.refl _) (.cons (.refl _) (.cons (.refl _) (.cons (.refl _) (.cons (.refl _) (.cons (.refl _) (.cons (.refl _) (.cons CLe.fxnil (.refl _))))))))))) ?_)
      refine jq_cutS ([] : List Clm) (.inl rfl) ?_ ?_
      · exact bc_ 0 r_ (bc_ 0 r_ (bc_ 0 r_ (bc_ 0 r_ (bc_ 0 r_ sub_end))))
      · (repeat (first | exact True.intro | refine ⟨rfl, ?_⟩))
  intro cl hcl
  have hWl := fun (v : Value) (l : List Sm) => con_lend (v := v) (e := 51) (k := 8) (rWeight_c l) (⟨trivial, by simp⟩)
  refine am_ ?_
  refine jc_cut (ι := (List Sm × List Clm) × Value) [] (fun i => (∃ n, i.1.1 = l2.take n) ∧ ClG (ifsOf i.1.1) i.1.2 ∧ wAll 20 i.1.1 0 ≤ W) (fun _ => ((18, .cell (.list ((ifsOf l2).map Irow))) :: Et3 bd W br bt)) (fun i => [.blk bt 41 (Rw nm per dln pri jit (.val vI) (FX (VS.map Wrow)) (FX (ar.map ArRow)) (FX (md.map MdRow)) (FX (i.1.2.map ClRow)) (.val i.2)), .own i.2 51 8 (i.1.1.map Sm.row), .own vI 43 3 (lI.map InRow), Dk bd L, .blk br 41 Zt]) ?_ ?_
  · refine au_ ?_
    refine jc_loopS (ι := (List Sm × List Clm) × Value) [] (fun i => (∃ n, i.1.1 = l2.take n) ∧ ClG (ifsOf i.1.1) i.1.2) (fun _ => ((18, .cell (.list ((ifsOf l2).map Irow))) :: Et3 bd W br bt)) (fun i => [.blk bt 41 (Rw nm per dln pri jit (.val vI) (FX (VS.map Wrow)) (FX (ar.map ArRow)) (FX (md.map MdRow)) (FX (i.1.2.map ClRow)) (.val i.2)), .own i.2 51 8 (i.1.1.map Sm.row), .own vI 43 3 (lI.map InRow), Dk bd L, .blk br 41 Zt]) (fun i => i.1.1.length) ((l2, cl), v2) ⟨⟨l2.length, by simp⟩, hcl⟩ ?_ ?_ ?_
    · exact bc_ 0 r_ (bc_ 0 r_ (bc_ 0 r_ (bc_ 0 r_ (bc_ 0 r_ sub_end))))
    · (repeat (first | exact True.intro | refine ⟨rfl, ?_⟩))
    · rintro ⟨⟨l, cl⟩, vB⟩ ⟨⟨nT, hl10⟩, hsh⟩
      dsimp only at hl10 hsh ⊢
      have hll : l.length ≤ l2.length := by rw [hl10, List.length_take]; omega
      have eL : (l.map Sm.row).length = l.length := List.length_map _
      by_cases hl : (0 : Int) < ((l.map Sm.row).length : Int)
      · refine am_ (R_ (F_ r_ (L_ 0 r_ (o_ r_ (cw_ 1 r_ r_ (fun hlen => o_ r_ (bz_ r_ r_ (M_ r_ (ah_ r_ u_ b_ (bf_ r_ r_ r_ b_ (ah_ r_ u_ b_ (bg_ 0 r_ r_ r_ r_ (ah_ r_ u_ b_ (bi_ [1] r_ r_ (hWl _ l) (ah_ r_ u_ b_ (bd_ r_ (ah_ r_ u_ b_ (bz_ r_ r_ (o_ r_ (bp_ r_ u_ r_ (T_ (jc_condd rfl (fun hw => ?_) (fun hw => ?_)))))))))))))))))))))))
        · have hm : ((((l.map Sm.row).length : Nat) : Int) - 1).toNat = l.length - 1 := by omega
          refine as_ (al_ (au_ (an_ (F_ r_ (L_ 1 r_ (F_ r_ (L_ 1 r_ (o_ r_ (cw_ 0 r_ r_ (fun hlen => o_ r_ (cg_ r_ r_ g_ ?_)))))))))))
          (first | refine jl_op (ow_trim 0 rfl rfl rfl (by omega) (by omega) ?_) (nb rfl) | refine jl_op (ow_trim 1 rfl rfl rfl (by omega) (by omega) ?_) (nb rfl) | refine jl_op (ow_trim 2 rfl rfl rfl (by omega) (by omega) ?_) (nb rfl) | refine jl_op (ow_trim 3 rfl rfl rfl (by omega) (by omega) ?_) (nb rfl) | refine jl_op (ow_trim 4 rfl rfl rfl (by omega) (by omega) ?_) (nb rfl))
          rw [hm]
          (first | refine jl_trim (v := vB) 0 (l.length - 1) rfl (by omega) ?_ | refine jl_trim (v := vB) 1 (l.length - 1) rfl (by omega) ?_ | refine jl_trim (v := vB) 2 (l.length - 1) rfl (by omega) ?_ | refine jl_trim (v := vB) 3 (l.length - 1) rfl (by omega) ?_ | refine jl_trim (v := vB) 4 (l.length - 1) rfl (by omega) ?_)
          rw [← List.map_take]
          refine F_ r_ (W_ 1 r_ (F_ r_ (W_ 0 r_ (ak_ (ay_ ?_)))))
          (first | refine jq_row 0 (Rw nm per dln pri jit (.val vI) (FX (VS.map Wrow)) (FX (ar.map ArRow)) (FX (md.map MdRow)) (FX (([] : List Clm).map ClRow)) (.val (trimV vB (l.length - 1)))) rfl (.cons (.refl _) (.cons (.refl _) (.cons (.refl _) (.cons (.refl _) (.cons (.refl _) (.cons (.refl _) (.cons (.refl _) (.cons (.refl _) (.cons (.refl _) (.cons CLe.fxnil (.refl _))))))))))) ?_ | refine jq_row 1 (Rw nm per dln pri jit (.val vI) (FX (VS.map Wrow)) (FX (ar.map ArRow)) (FX (md.map MdRow)) (FX (([] : List Clm).map ClRow)) (.val (trimV vB (l.length - 1)))) rfl (.cons (.refl _) (.cons (.refl _) (.cons (.refl _) (.cons (.refl _) (.cons (.refl _) (.cons (.refl _) (.cons (.refl _) (.cons (.refl _) (.cons (.refl _) (.cons CLe.fxnil (.refl _))))))))))) ?_ | refine jq_row 2 (Rw nm per dln pri jit (.val vI) (FX (VS.map Wrow)) (FX (ar.map ArRow)) (FX (md.map MdRow)) (FX (([] : List Clm).map ClRow)) (.val (trimV vB (l.length - 1)))) rfl (.cons (.refl _) (.cons (.refl _) (.cons (.refl _) (.cons (.refl _) (.cons (.refl _) (.cons (.refl _) (.cons (.refl _) (.cons (.refl _) (.cons (.refl _) (.cons CLe.fxnil (.refl _))))))))))) ?_ | refine jq_row 3 (Rw nm per dln pri jit (.val vI) (FX (VS.map Wrow)) (FX (ar.map ArRow)) (FX (md.map MdRow)) (FX (([] : List Clm).map ClRow)) (.val (trimV vB (l.length - 1)))) rfl (.cons (.refl _) (.cons (.refl _) (.cons (.refl _) (.cons (.refl _) (.cons (.refl _) (.cons (.refl _) (.cons (.refl _) (.cons (.refl _) (.cons (.refl _) (.cons CLe.fxnil (.refl _))))))))))) ?_ | refine jq_row 4 (Rw nm per dln pri jit (.val vI) (FX (VS.map Wrow)) (FX (ar.map ArRow)) (FX (md.map MdRow)) (FX (([] : List Clm).map ClRow)) (.val (trimV vB (l.length - 1)))) rfl (.cons (.refl _) (.cons (.refl _) (.cons (.refl _) (.cons (.refl _) (.cons (.refl _) (.cons (.refl _) (.cons (.refl _) (.cons (.refl _) (.cons (.refl _) (.cons CLe.fxnil (.refl _))))))))))) ?_ | refine jq_row 5 (Rw nm per dln pri jit (.val vI) (FX (VS.map Wrow)) (FX (ar.map ArRow)) (FX (md.map MdRow)) (FX (([] : List Clm).map ClRow)) (.val (trimV vB (l.length - 1)))) rfl (.cons (.refl _) (.cons (.refl _) (.cons (.refl _) (.cons (.refl _) (.cons (.refl _) (.cons (.refl _) (.cons (.refl _) (.cons (.refl _) (.cons (.refl _) (.cons CLe.fxnil (.refl _))))))))))) ?_)
          refine jq_againS (i := ((l, cl), vB)) ((l.take (l.length - 1), []), trimV vB (l.length - 1)) ⟨⟨min (l.length - 1) nT, by dsimp only; rw [hl10, List.take_take]⟩, .inl rfl⟩ (by simp; omega) ?_ ?_
          · exact bc_ 0 r_ (bc_ 0 r_ (bc_ 0 r_ (bc_ 0 r_ (bc_ 0 r_ sub_end))))
          · (repeat (first | exact True.intro | refine ⟨rfl, ?_⟩))
        · refine av_ (ax_ (ax_ (ba_ (jq_cutS ((l, cl), vB) ⟨⟨nT, hl10⟩, hsh, by dsimp only; omega⟩ ?_ ?_))))
          · exact bc_ 1 r_ (bc_ 0 r_ (bc_ 0 r_ (bc_ 0 r_ (bc_ 0 r_ sub_end))))
          · (repeat (first | exact True.intro | refine ⟨rfl, ?_⟩))
      · have hl0 : l = [] := List.eq_nil_of_length_eq_zero (by omega)
        subst hl0
        refine am_ (R_ (F_ r_ (L_ 0 r_ (o_ r_ (cw_ 1 r_ r_ (fun hlen => o_ r_ (bz_ r_ r_ (M_ r_ (ai_ r_ r_ b_ (ai_ r_ r_ b_ (ai_ r_ r_ b_ (ai_ r_ r_ b_ (ai_ r_ r_ b_ (o_ r_ (bv_ r_ r_ r_ (T_ (ap_ r_ r_ (av_ ?_))))))))))))))))))
        refine ax_ (ax_ (ba_ (jq_cutS (([], cl), vB) ⟨⟨nT, hl10⟩, hsh, by simp only [wAll]; omega⟩ ?_ ?_)))
        · exact bc_ 0 r_ (bc_ 0 r_ (bc_ 0 r_ (bc_ 0 r_ (bc_ 0 r_ sub_end))))
        · (repeat (first | exact True.intro | refine ⟨rfl, ?_⟩))
  rintro ⟨⟨l, cl⟩, vB⟩ ⟨⟨nT, hl10⟩, hsh, hwt⟩
  dsimp only at hl10 hsh hwt ⊢
  have hsz2 : Sm.szs l ≤ 635 := by rw [hl10]; exact Nat.le_trans (Sm.szs_take _ _) hsz
  have hifs2 := ifs_le l
  have hIf2 := con_lend (v := vB) (e := 51) (k := 8) (IfsO_c l (by omega)) (fun v _ => ⟨trivial, pure_ints _⟩)
  refine am_ (jc_cut (ι := List Clm) [] (ClG (ifsOf l)) (fun _ => Et3 bd W br bt) (fun cl => [.blk bt 41 (Rw nm per dln pri jit (.val vI) (FX (VS.map Wrow)) (FX (ar.map ArRow)) (FX (md.map MdRow)) (FX (cl.map ClRow)) (.val vB)), .own vB 51 8 (l.map Sm.row), .own vI 43 3 (lI.map InRow), Dk bd L, .blk br 41 Zt]) ?_ ?_)
  · by_cases hl : (0 : Int) < ((cl.map ClRow).length : Int)
    · refine R_ (F_ r_ (o_ r_ (ow_loadFX 0 r_ r_ r_ r_ (o_ r_ (br_ r_ (fun hlen => o_ r_ (bz_ r_ r_ (M_ r_ (ah_ r_ u_ b_ (bf_ r_ r_ r_ b_ (ah_ r_ u_ b_ (bg_ 0 r_ r_ r_ r_ (ah_ rfl u_ b_ (bt_ [1] rfl rfl (hIf2) (fun pp hpp => ah_ r_ u_ b_ (cw_ 0 r_ r_ (fun hlen => ah_ r_ u_ b_ (bd_ r_ (ah_ r_ u_ b_ (br_ r_ (fun hlen => ah_ r_ u_ b_ (bx_ r_ r_ (o_ r_ (bp_ r_ u_ r_ (T_ ?_)))))))))))))))))))))))))
      refine jc_cond rfl (fun _ => ?_) (fun _ => ?_)
      · refine an_ (F_ r_ (W_ 2 r_ (ak_ ?_)))
        (first | refine jq_row 0 (Rw nm per dln pri jit (.val vI) (FX (VS.map Wrow)) (FX (ar.map ArRow)) (FX (md.map MdRow)) (FX (([] : List Clm).map ClRow)) (.val vB)) rfl (.cons (.refl _) (.cons (.refl _) (.cons (.refl _) (.cons (.refl _) (.cons (.refl _) (.cons (.refl _) (.cons (.refl _) (.cons (.refl _) (.cons (.refl _) (.cons CLe.fxnil (.refl _))))))))))) ?_ | refine jq_row 1 (Rw nm per dln pri jit (.val vI) (FX (VS.map Wrow)) (FX (ar.map ArRow)) (FX (md.map MdRow)) (FX (([] : List Clm).map ClRow)) (.val vB)) rfl (.cons (.refl _) (.cons (.refl _) (.cons (.refl _) (.cons (.refl _) (.cons (.refl _) (.cons (.refl _) (.cons (.refl _) (.cons (.refl _) (.cons (.refl _) (.cons CLe.fxnil (.refl _))))))))))) ?_ | refine jq_row 2 (Rw nm per dln pri jit (.val vI) (FX (VS.map Wrow)) (FX (ar.map ArRow)) (FX (md.map MdRow)) (FX (([] : List Clm).map ClRow)) (.val vB)) rfl (.cons (.refl _) (.cons (.refl _) (.cons (.refl _) (.cons (.refl _) (.cons (.refl _) (.cons (.refl _) (.cons (.refl _) (.cons (.refl _) (.cons (.refl _) (.cons CLe.fxnil (.refl _))))))))))) ?_ | refine jq_row 3 (Rw nm per dln pri jit (.val vI) (FX (VS.map Wrow)) (FX (ar.map ArRow)) (FX (md.map MdRow)) (FX (([] : List Clm).map ClRow)) (.val vB)) rfl (.cons (.refl _) (.cons (.refl _) (.cons (.refl _) (.cons (.refl _) (.cons (.refl _) (.cons (.refl _) (.cons (.refl _) (.cons (.refl _) (.cons (.refl _) (.cons CLe.fxnil (.refl _))))))))))) ?_ | refine jq_row 4 (Rw nm per dln pri jit (.val vI) (FX (VS.map Wrow)) (FX (ar.map ArRow)) (FX (md.map MdRow)) (FX (([] : List Clm).map ClRow)) (.val vB)) rfl (.cons (.refl _) (.cons (.refl _) (.cons (.refl _) (.cons (.refl _) (.cons (.refl _) (.cons (.refl _) (.cons (.refl _) (.cons (.refl _) (.cons (.refl _) (.cons CLe.fxnil (.refl _))))))))))) ?_ | refine jq_row 5 (Rw nm per dln pri jit (.val vI) (FX (VS.map Wrow)) (FX (ar.map ArRow)) (FX (md.map MdRow)) (FX (([] : List Clm).map ClRow)) (.val vB)) rfl (.cons (.refl _) (.cons (.refl _) (.cons (.refl _) (.cons (.refl _) (.cons (.refl _) (.cons (.refl _) (.cons (.refl _) (.cons (.refl _) (.cons (.refl _) (.cons CLe.fxnil (.refl _))))))))))) ?_)
        refine jq_cutS ([] : List Clm) (.inl rfl) ?_ ?_
        · exact bc_ 0 r_ (bc_ 1 r_ (bc_ 1 r_ (bc_ 1 r_ (bc_ 1 r_ sub_end))))
        · (repeat (first | exact True.intro | refine ⟨rfl, ?_⟩))
      · refine as_ (jq_cutS cl hsh ?_ ?_)
        · exact bc_ 2 r_ (bc_ 1 r_ (bc_ 1 r_ (bc_ 1 r_ (bc_ 1 r_ sub_end))))
        · (repeat (first | exact True.intro | refine ⟨rfl, ?_⟩))
    · refine R_ (F_ r_ (o_ r_ (ow_loadFX 0 r_ r_ r_ r_ (o_ r_ (br_ r_ (fun hlen => o_ r_ (bz_ r_ r_ (M_ r_ (ai_ r_ w_ b_ (ai_ r_ w_ b_ (ai_ r_ w_ b_ (ai_ r_ w_ b_ (ai_ r_ w_ b_ (ai_ r_ w_ b_ (ai_ r_ w_ b_ (o_ r_ (bv_ r_ w_ r_ (T_ (ap_ r_ r_ ?_)))))))))))))))))))
      refine as_ (jq_cutS cl hsh ?_ ?_)
      · exact bc_ 0 r_ (bc_ 0 r_ (bc_ 0 r_ (bc_ 0 r_ (bc_ 0 r_ sub_end))))
      · (repeat (first | exact True.intro | refine ⟨rfl, ?_⟩))
  clear hsh
  intro cl hcl2
  refine R_ (A_ 0 r_ (S_ 4 r_ (T_ (ar_ ?_))))
  have fin : TaskG Sh nm W ⟨nm, per, dln, pri, jit, lI, VS, ar, md, cl, l⟩ := ⟨rfl, hper2, hdln2, hpri2, hjit2, ⟨by dsimp only; omega, by dsimp only; rw [hlI]; exact hokI⟩, rfl, har, hmd, hcl2, ⟨lab2, l2, nT, by dsimp only; rw [← hlVI, hVe]; exact hsh2, hl10⟩, hwt⟩
  (first | refine jq_retRowS rfl rfl rfl rfl 0 rfl (fun K h => h ⟨⟨nm, per, dln, pri, jit, lI, VS, ar, md, cl, l⟩, vI, vB⟩ fin) ?_ | refine jq_retRowS rfl rfl rfl rfl 1 rfl (fun K h => h ⟨⟨nm, per, dln, pri, jit, lI, VS, ar, md, cl, l⟩, vI, vB⟩ fin) ?_ | refine jq_retRowS rfl rfl rfl rfl 2 rfl (fun K h => h ⟨⟨nm, per, dln, pri, jit, lI, VS, ar, md, cl, l⟩, vI, vB⟩ fin) ?_ | refine jq_retRowS rfl rfl rfl rfl 3 rfl (fun K h => h ⟨⟨nm, per, dln, pri, jit, lI, VS, ar, md, cl, l⟩, vI, vB⟩ fin) ?_ | refine jq_retRowS rfl rfl rfl rfl 4 rfl (fun K h => h ⟨⟨nm, per, dln, pri, jit, lI, VS, ar, md, cl, l⟩, vI, vB⟩ fin) ?_ | refine jq_retRowS rfl rfl rfl rfl 5 rfl (fun K h => h ⟨⟨nm, per, dln, pri, jit, lI, VS, ar, md, cl, l⟩, vI, vB⟩ fin) ?_)
  exact bc_ 4 r_ (bc_ 3 r_ (bc_ 2 r_ sub_end))
end
end Go.Proofs.YtlniadfidfmckaaGreatDoor
end

section
namespace Go.Proofs.YtlniadfidfmckaaGreatDoor
open Go.Vc
set_option maxHeartbeats 8000000
attribute [local irreducible] JL JC JQ OpWp Con ConN HOk
abbrev Tk.rowX (t : Tk) : List C := Rw t.name t.period t.deadline t.priority t.jitter (.list (t.inputs.map InRow)) (FX (t.vars.map Wrow)) (FX (t.arrays.map ArRow)) (FX (t.modes.map MdRow)) (FX (t.claims.map ClRow)) (.list (t.body.map Sm.row))
/-- A program that was made: its tasks are owned, and the first one's inputs and body. -/
structure Po where
  p : Pg
  o : To
  rest : List Tk
  vT : Value
def Po.tks : Option (To × List Tk) → List Tk
  | none => []
  | some (o, rest) => o.t :: rest
def Po.rws : Option (To × List Tk) → List (List C)
  | none => []
  | some (o, rest) => o.row :: rest.map Tk.rowX
def Po.chsO : Option (To × List Tk) → List Ch
  | none => []
  | some (o, _) => o.chs
abbrev Po.row (o : Po) : List C := [.list (o.p.res.map Wrow), .list (o.p.shared.map ShRow), .val o.vT]
abbrev Po.chs (o : Po) : List Ch := [.own o.vT 41 11 (o.o.row :: o.rest.map Tk.rowX), .own o.o.vI 43 3 (o.o.t.inputs.map InRow), .own o.o.vB 51 8 (o.o.t.body.map Sm.row)]
theorem set_last {α : Type _} (l : List α) (x y : α) {n : Nat} (h : n = l.length) : (l ++ [x]).set n y = l ++ [y] := by
  subst h
  simp
section
variable {L : List Int} {bd : Nat}
theorem programsO_c (hL : InR L) (hLn : L.length ≤ 400) (T W N : Int) (hT : 1 ≤ T ∧ T ≤ 6) (hW : 0 ≤ W ∧ W ≤ 1000000) (hN : 0 ≤ N ∧ N ≤ 14) :
    Con Tryz.prog 18 [Ptr bd, In .i64 T, In .i64 W, In .i64 N] [Dk bd L] (fun K => ∀ o : Po, (PgG T.toNat W o.p ∧ o.p.tasks = o.o.t :: o.rest) → K (.row o.row) (Dk bd L :: o.chs)) := by
  refine con_intro Tryz.func18 rfl rfl (Nat.le_of_ble_eq_true rfl) (fun c hc => R_ (o_ r_ (bl_ rfl rfl (fun b8 => T_ (R_ (o_ r_ (bl_ rfl rfl (fun b9 => T_ (am_ (R_ (M_ r_ (o_ r_ (bt_ [2] rfl rfl (Nx_c _ hL hLn g_) (fun k1 hk1 => E_ r_ (T_ (jc_ownNil 9 1 g_ ?_))))))))))))))))
  obtain ⟨n1, hn1⟩ : ∃ n : Nat, k1 = (n : Int) := ⟨k1.toNat, by omega⟩
  subst hn1
  have hn12 : n1 ≤ 2 := by omega
  refine jc_cut (ι := Value × List ByteArray) [] (fun i => c.Fresh i.1 ∧ i.2 = RSl n1) (fun _ => [(0, Ptr bd), (1, In .i64 T), (2, In .i64 W), (3, In .i64 N), (8, Ptr b8), (9, Ptr b9)])
    (fun i => [.blk b9 31 [.val i.1, NilC, NilC], .own i.1 9 1 (i.2.map Wrow), Dk bd L, .blk b8 31 [NilC, NilC, NilC]]) ?_ ?_
  · refine au_ ?_
    refine jc_loopS (ι := Nat × Value × List ByteArray) [] (fun i => i.1 ≤ n1 ∧ c.Fresh i.2.1 ∧ i.2.2 = (RSl n1).take (n1 - i.1)) (fun i => (10, In .i64 (i.1 : Int)) :: [(0, Ptr bd), (1, In .i64 T), (2, In .i64 W), (3, In .i64 N), (8, Ptr b8), (9, Ptr b9)])
      (fun i => [.blk b9 31 [.val i.2.1, NilC, NilC], .own i.2.1 9 1 (i.2.2.map Wrow), Dk bd L, .blk b8 31 [NilC, NilC, NilC]]) (fun i => i.1) (n1, .slice none 0 0, []) ⟨Nat.le_refl _, fresh_nil, by simp⟩ ?_ ?_ ?_
    · exact bc_ 2 r_ (bc_ 0 r_ (bc_ 0 r_ (bc_ 0 r_ sub_end)))
    · (repeat (first | exact True.intro | refine ⟨rfl, ?_⟩))
    · rintro ⟨k, vR, lR⟩ ⟨hk, hfR, hlR⟩
      dsimp only at hk hfR hlR ⊢
      by_cases hk0 : k = 0
      · subst hk0
        refine am_ (R_ (M_ r_ (o_ r_ (bz_ r_ r_ (T_ (jc_cond rfl (fun h => by cases h) (fun _ => av_ (ax_ (ax_ (ba_ (jq_cutS (vR, lR) ⟨hfR, by dsimp only; rw [hlR, List.take_of_length_le]; rcases n1 with _ | _ | _ | n <;> simp [RSl]⟩ ?_ ?_)))))))))))
        · exact bc_ 0 r_ (bc_ 0 r_ (bc_ 0 r_ (bc_ 0 r_ sub_end)))
        · (repeat (first | exact True.intro | refine ⟨rfl, ?_⟩))
      have hlR2 : lR.length ≤ 2 := by rw [hlR, List.length_take]; omega
      have hcase : (n1 = 1 ∧ k = 1) ∨ (n1 = 2 ∧ k = 1) ∨ (n1 = 2 ∧ k = 2) := by omega
      rcases hcase with ⟨rfl, rfl⟩ | ⟨rfl, rfl⟩ | ⟨rfl, rfl⟩
      · refine am_ (R_ (M_ r_ (o_ r_ (bz_ r_ r_ (T_ (jc_condd rfl (fun _ => as_ (al_ (B_ (jc_anyB 8 none rfl k_ k_ (yF_ r_ (yL_ 0 r_ (aa_ (fun c => bq_ r_ r_ b_ r_ r_ b_ p_) (yM_ r_ (aa_ (fun c => ow_rem64 r_ r_ g_ g_ p_) (aa_ (fun c => ow_indexAddr r_ r_ g_ r_ r_ b_ p_) ?_)))))))))) (fun h => by omega)))))))
        refine aa_ (fun c => cb_ r_ r_ p_) (aa_ (fun c => bq_ r_ r_ b_ r_ r_ b_ p_) (ae_ (afin_none ?_)))
        (first | refine jl_op (ow_append1F 1 (⟨#[115]⟩) rfl rfl rfl rfl rfl rfl rfl (fun _ => rfl) (by show (_ + _) * 16 ≤ _; first | omega | (simp only [List.length_append]; omega)) (by first | omega | (simp only [List.length_append]; omega)) (fun vR1 hvR1 fvR1 => ?_)) (nb rfl) | refine jl_op (ow_append1F 2 (⟨#[115]⟩) rfl rfl rfl rfl rfl rfl rfl (fun _ => rfl) (by show (_ + _) * 16 ≤ _; first | omega | (simp only [List.length_append]; omega)) (by first | omega | (simp only [List.length_append]; omega)) (fun vR1 hvR1 fvR1 => ?_)) (nb rfl) | refine jl_op (ow_append1F 0 (⟨#[115]⟩) rfl rfl rfl rfl rfl rfl rfl (fun _ => rfl) (by show (_ + _) * 16 ≤ _; first | omega | (simp only [List.length_append]; omega)) (by first | omega | (simp only [List.length_append]; omega)) (fun vR1 hvR1 fvR1 => ?_)) (nb rfl))
        refine F_ r_ (W_ 1 r_ (ak_ (ay_ (al_ (an_ (M_ r_ (o_ r_ (cg_ r_ r_ g_ (E_ r_ (ak_ (jq_againS (i := (1, vR, lR)) (0, vR1, lR ++ [⟨#[115]⟩]) ⟨by dsimp only; omega, fvR1 hfR, by dsimp only; rw [hlR]; rfl⟩ (by dsimp only; omega) ?_ ?_)))))))))))
        · exact bc_ 0 r_ (bc_ 0 r_ (bc_ 0 r_ (bc_ 0 r_ sub_end)))
        · (repeat (first | exact True.intro | refine ⟨rfl, ?_⟩))
      · refine am_ (R_ (M_ r_ (o_ r_ (bz_ r_ r_ (T_ (jc_condd rfl (fun _ => as_ (al_ (B_ (jc_anyB 8 none rfl k_ k_ (yF_ r_ (yL_ 0 r_ (aa_ (fun c => bq_ r_ r_ b_ r_ r_ b_ p_) (yM_ r_ (aa_ (fun c => ow_rem64 r_ r_ g_ g_ p_) (aa_ (fun c => ow_indexAddr r_ r_ g_ r_ r_ b_ p_) ?_)))))))))) (fun h => by omega)))))))
        refine aa_ (fun c => cb_ r_ r_ p_) (aa_ (fun c => bq_ r_ r_ b_ r_ r_ b_ p_) (ae_ (afin_none ?_)))
        (first | refine jl_op (ow_append1F 1 (⟨#[115]⟩) rfl rfl rfl rfl rfl rfl rfl (fun _ => rfl) (by show (_ + _) * 16 ≤ _; first | omega | (simp only [List.length_append]; omega)) (by first | omega | (simp only [List.length_append]; omega)) (fun vR1 hvR1 fvR1 => ?_)) (nb rfl) | refine jl_op (ow_append1F 2 (⟨#[115]⟩) rfl rfl rfl rfl rfl rfl rfl (fun _ => rfl) (by show (_ + _) * 16 ≤ _; first | omega | (simp only [List.length_append]; omega)) (by first | omega | (simp only [List.length_append]; omega)) (fun vR1 hvR1 fvR1 => ?_)) (nb rfl) | refine jl_op (ow_append1F 0 (⟨#[115]⟩) rfl rfl rfl rfl rfl rfl rfl (fun _ => rfl) (by show (_ + _) * 16 ≤ _; first | omega | (simp only [List.length_append]; omega)) (by first | omega | (simp only [List.length_append]; omega)) (fun vR1 hvR1 fvR1 => ?_)) (nb rfl))
        refine F_ r_ (W_ 1 r_ (ak_ (ay_ (al_ (an_ (M_ r_ (o_ r_ (cg_ r_ r_ g_ (E_ r_ (ak_ (jq_againS (i := (1, vR, lR)) (0, vR1, lR ++ [⟨#[115]⟩]) ⟨by dsimp only; omega, fvR1 hfR, by dsimp only; rw [hlR]; rfl⟩ (by dsimp only; omega) ?_ ?_)))))))))))
        · exact bc_ 0 r_ (bc_ 0 r_ (bc_ 0 r_ (bc_ 0 r_ sub_end)))
        · (repeat (first | exact True.intro | refine ⟨rfl, ?_⟩))
      · refine am_ (R_ (M_ r_ (o_ r_ (bz_ r_ r_ (T_ (jc_condd rfl (fun _ => as_ (al_ (B_ (jc_anyB 8 none rfl k_ k_ (yF_ r_ (yL_ 0 r_ (aa_ (fun c => bq_ r_ r_ b_ r_ r_ b_ p_) (yM_ r_ (aa_ (fun c => ow_rem64 r_ r_ g_ g_ p_) (aa_ (fun c => ow_indexAddr r_ r_ g_ r_ r_ b_ p_) ?_)))))))))) (fun h => by omega)))))))
        refine aa_ (fun c => cb_ r_ r_ p_) (aa_ (fun c => bq_ r_ r_ b_ r_ r_ b_ p_) (ae_ (afin_none ?_)))
        (first | refine jl_op (ow_append1F 1 (⟨#[114]⟩) rfl rfl rfl rfl rfl rfl rfl (fun _ => rfl) (by show (_ + _) * 16 ≤ _; first | omega | (simp only [List.length_append]; omega)) (by first | omega | (simp only [List.length_append]; omega)) (fun vR1 hvR1 fvR1 => ?_)) (nb rfl) | refine jl_op (ow_append1F 2 (⟨#[114]⟩) rfl rfl rfl rfl rfl rfl rfl (fun _ => rfl) (by show (_ + _) * 16 ≤ _; first | omega | (simp only [List.length_append]; omega)) (by first | omega | (simp only [List.length_append]; omega)) (fun vR1 hvR1 fvR1 => ?_)) (nb rfl) | refine jl_op (ow_append1F 0 (⟨#[114]⟩) rfl rfl rfl rfl rfl rfl rfl (fun _ => rfl) (by show (_ + _) * 16 ≤ _; first | omega | (simp only [List.length_append]; omega)) (by first | omega | (simp only [List.length_append]; omega)) (fun vR1 hvR1 fvR1 => ?_)) (nb rfl))
        refine F_ r_ (W_ 1 r_ (ak_ (ay_ (al_ (an_ (M_ r_ (o_ r_ (cg_ r_ r_ g_ (E_ r_ (ak_ (jq_againS (i := (2, vR, lR)) (1, vR1, lR ++ [⟨#[114]⟩]) ⟨by dsimp only; omega, fvR1 hfR, by dsimp only; rw [hlR]; rfl⟩ (by dsimp only; omega) ?_ ?_)))))))))))
        · exact bc_ 0 r_ (bc_ 0 r_ (bc_ 0 r_ (bc_ 0 r_ sub_end)))
        · (repeat (first | exact True.intro | refine ⟨rfl, ?_⟩))
  rintro ⟨vR, lR⟩ ⟨hfR, hlR⟩
  dsimp only at hfR hlR ⊢
  have hlR2 : lR.length ≤ 2 := by rw [hlR]; rcases n1 with _ | _ | _ | n <;> simp [RSl]
  refine jc_freezeB 1 0 0 rfl rfl hfR (am_ (jc_cut (ι := List Shd) [] (ShG lR) (fun _ => [(0, Ptr bd), (1, In .i64 T), (2, In .i64 W), (3, In .i64 N), (8, Ptr b8), (9, Ptr b9)]) (fun Sh => [.blk b9 31 [.list (lR.map Wrow), .list (Sh.map ShRow), NilC], Dk bd L, .blk b8 31 [NilC, NilC, NilC]]) ?_ ?_))
  · refine am_ (jc_cut (ι := Bool) [] (fun b => b = true → 0 < lR.length) (fun b => (36, Bl b) :: [(0, Ptr bd), (1, In .i64 T), (2, In .i64 W), (3, In .i64 N), (8, Ptr b8), (9, Ptr b9)]) (fun _ => [.blk b9 31 [.list (lR.map Wrow), NilC, NilC], Dk bd L, .blk b8 31 [NilC, NilC, NilC]]) ?_ ?_)
    · by_cases hl : (0 : Int) < ((lR.map Wrow).length : Int)
      · refine an_ (F_ r_ (L_ 0 r_ (o_ r_ (br_ r_ (fun hlen => o_ r_ (bz_ r_ r_ (M_ r_ (ah_ r_ u_ b_ (bd_ r_ (ah_ rfl (by (first | assumption | exact decide_eq_true rfl | exact decide_eq_true (by first | assumption | omega) | exact decide_eq_false (by first | assumption | omega) | with_reducible rfl | exact (rfl : false = !true) | exact (rfl : true = !false))) b_ (bt_ [1] rfl rfl (Nx_c _ hL hLn g_) (fun k9 hk9 => ?_))))))))))))
        refine ah_ r_ u_ b_ (bn_ r_ r_ (o_ r_ (bp_ r_ u_ r_ (ak_ (jq_cutS (decide (k9 = 1)) (fun _ => by simp at hl; omega) ?_ ?_)))))
        · exact bc_ 1 r_ (bc_ 0 r_ (bc_ 0 r_ sub_end))
        · (repeat (first | exact True.intro | refine ⟨rfl, ?_⟩))
      · refine an_ (F_ r_ (L_ 0 r_ (o_ r_ (br_ r_ (fun hlen => o_ r_ (bz_ r_ r_ (M_ r_ (ai_ r_ w_ b_ (ai_ r_ w_ b_ (ai_ r_ w_ b_ (o_ r_ (bv_ r_ w_ r_ (ak_ (jq_cutS false (by simp) ?_ ?_))))))))))))))
        · exact bc_ 0 r_ (bc_ 0 r_ (bc_ 0 r_ sub_end))
        · (repeat (first | exact True.intro | refine ⟨rfl, ?_⟩))
    intro b hb
    refine jc_cond rfl (fun hbt => ?_) (fun hbt => ?_)
    · have hl0 := hb hbt
      refine jc_ownNil 80 3 g_ ?_
      skip
      refine jc_anyB 13 none rfl k_ k_ (yF_ r_ (yL_ 1 r_ (yM_ r_ (aa_ (fun c => ow_callA [2] r_ r_ (gNext_c L _ _ hL hLn g_)) (aa_ (fun c => ow_exarg 40 rfl (fun i => ow_convU64 rfl rfl rfl (by have := i.2; omega) ⟨rfl, .refl _⟩)) ?_)))))
      refine aa_ (fun c => ow_exarg 41 rfl (fun i : {i : Int // 0 ≤ i ∧ (i < 4 ∨ i = 0)} => ow_shl64 (n := i.1) rfl rfl (by have := i.2; omega) (by have := i.2; have := pow_bd i.1 g_; omega) ⟨rfl, .refl _⟩)) (aa_ (fun c => ow_exarg 42 rfl (fun i => bu_ rfl rfl rfl rfl rfl ⟨rfl, .refl _⟩)) (yF_ r_ (yL_ 1 r_ (aa_ (fun c => cc_ (k := 0) r_ r_ hl0 r_ r_ b_ ⟨rfl, .refl _⟩) (aa_ (fun c => cb_ r_ r_ p_) ?_)))))
      refine aa_ (fun c => ow_exarg 43 rfl (fun i => bu_ rfl rfl rfl rfl rfl ⟨rfl, .refl _⟩)) (aa_ (fun c => ow_exarg 48 rfl (fun i => bq_ rfl rfl b_ rfl rfl b_ ⟨rfl, .refl _⟩)) (ae_ (afin_none (jl_slot 49 rfl (fun n => o_ r_ (ow_append1F (f := ShRow) (l1 := []) 0 (⟨#[98, 117, 102]⟩, 1 * 2 ^ n.1.toNat, lR[0]) rfl rfl rfl rfl rfl rfl rfl (fun _ => rfl) (by show (0 + 1) * 40 ≤ _; omega) (by simp) (fun vS hvS fvS => ?_)))))))
      refine jl_freezeF 50 0 rfl rfl (fvS fresh_nil) (F_ r_ (W_ 0 r_ (ak_ ?_)))
      (first | refine jq_row 0 [.list (lR.map Wrow), .list ([((⟨#[98, 117, 102]⟩ : ByteArray), (1 : Int) * 2 ^ n.1.toNat, lR[0])].map ShRow), NilC] rfl (.cons (.refl _) (.refl _)) ?_ | refine jq_row 1 [.list (lR.map Wrow), .list ([((⟨#[98, 117, 102]⟩ : ByteArray), (1 : Int) * 2 ^ n.1.toNat, lR[0])].map ShRow), NilC] rfl (.cons (.refl _) (.refl _)) ?_)
      refine jq_cutS [((⟨#[98, 117, 102]⟩ : ByteArray), (1 : Int) * 2 ^ n.1.toNat, lR[0])] (.inr ⟨lR[0], n.1.toNat, by simp, by have := n.2; omega, by rw [Int.one_mul]⟩) ?_ ?_
      · exact bc_ 0 r_ (bc_ 0 r_ (bc_ 0 r_ sub_end))
      · (repeat (first | exact True.intro | refine ⟨rfl, ?_⟩))
    · refine as_ ?_
      (first | refine jq_row 0 [.list (lR.map Wrow), .list (([] : List Shd).map ShRow), NilC] rfl (.cons (.refl _) (.cons .nil (.refl _))) ?_ | refine jq_row 1 [.list (lR.map Wrow), .list (([] : List Shd).map ShRow), NilC] rfl (.cons (.refl _) (.cons .nil (.refl _))) ?_)
      refine jq_cutS ([] : List Shd) (.inl rfl) ?_ ?_
      · exact bc_ 0 r_ (bc_ 0 r_ (bc_ 0 r_ sub_end))
      · (repeat (first | exact True.intro | refine ⟨rfl, ?_⟩))
  intro Sh hSh
  have hShl : Sh.length ≤ 1 := by rcases hSh with rfl | ⟨r, k, _, _, rfl⟩ <;> simp
  have tk := fun nm => taskO_c (Sh := Sh) (bd := bd) hL hLn (by omega) nm W N hW hN
  refine jc_ownNil 41 11 g_ (am_ (R_ (E_ r_ (T_ ?_))))
  refine jc_cut (ι := Value × To × List Tk) [] (fun i => i.2.2.length + 1 = T.toNat ∧ ∀ (j : Nat) (h : j < (i.2.1.t :: i.2.2).length), TaskG Sh (nmT j) W (i.2.1.t :: i.2.2)[j]) (fun _ => [(0, Ptr bd), (1, In .i64 T), (2, In .i64 W), (3, In .i64 N), (8, Ptr b8), (9, Ptr b9)])
    (fun i => [.blk b9 31 [.list (lR.map Wrow), .list (Sh.map ShRow), .val i.1], .own i.1 41 11 (i.2.1.row :: i.2.2.map Tk.rowX), Dk bd L, .blk b8 31 [NilC, NilC, NilC], .own i.2.1.vI 43 3 (i.2.1.t.inputs.map InRow), .own i.2.1.vB 51 8 (i.2.1.t.body.map Sm.row)]) ?_ ?_
  · refine au_ ?_
    refine jc_loopS (ι := Nat × Value × Option (To × List Tk)) [] (fun i => i.1 ≤ T.toNat ∧ (Po.tks i.2.2).length = i.1 ∧ ∀ (j : Nat) (h : j < (Po.tks i.2.2).length), TaskG Sh (nmT j) W (Po.tks i.2.2)[j]) (fun i => (11, In .i64 (i.1 : Int)) :: [(0, Ptr bd), (1, In .i64 T), (2, In .i64 W), (3, In .i64 N), (8, Ptr b8), (9, Ptr b9)])
      (fun i => .blk b9 31 [.list (lR.map Wrow), .list (Sh.map ShRow), .val i.2.1] :: .own i.2.1 41 11 (Po.rws i.2.2) :: Dk bd L :: .blk b8 31 [NilC, NilC, NilC] :: Po.chsO i.2.2) (fun i => T.toNat - i.1) (0, .slice none 0 0, none) ⟨Nat.zero_le _, rfl, by simp [Po.tks]⟩ ?_ ?_ ?_
    · exact bc_ 1 r_ (bc_ 0 r_ (bc_ 0 r_ (bc_ 0 r_ sub_end)))
    · (repeat (first | exact True.intro | refine ⟨rfl, ?_⟩))
    · rintro ⟨k, vT, oo⟩ ⟨hk, hls, hg⟩
      dsimp only at hk hls hg ⊢
      by_cases hlt : (k : Int) < T
      · rcases oo with _ | ⟨o, rest⟩
        · obtain rfl : k = 0 := by simp only [Po.tks, List.length_nil] at hls; omega
          dsimp only [Po.rws, Po.chsO]
          refine am_ (R_ (M_ r_ (M_ r_ (o_ r_ (bw_ r_ r_ (T_ (aq_ r_ u_ (as_ (al_ (B_ (jc_hpM 16 (n := 18) rfl 0 k_ rfl (fun cs1 hcs1 hv1 => ?_))))))))))))
          obtain ⟨u10, u11, u12, rfl⟩ := len3 hcs1
          obtain rfl := Option.some.inj (hv1 2 _ rfl)
          refine hp_know 0 rfl mem0 ?_
          dsimp only [List.zipWith, know]
          refine df_ (i := 0) rfl k_ k_ k_ b_ (by (repeat (first | refine pani_then ?_ | refine pani_block ?_)); exact pani_body) (dl_ rfl rfl rfl b_) ?_
          refine df_ (i := 1) rfl k_ k_ k_ b_ (by (repeat (first | refine pani_then ?_ | refine pani_block ?_)); exact pani_body) (dm_ 0 rfl rfl rfl mem0 rfl) ?_
          refine df_ (i := 2) rfl k_ k_ k_ b_ (by (repeat (first | refine pani_then ?_ | refine pani_block ?_)); exact pani_body) (dk_ rfl) ?_
          refine df_ (i := 3) rfl k_ k_ k_ b_ (by (repeat (first | refine pani_then ?_ | refine pani_block ?_)); exact pani_body) (dk_ rfl) ?_
          refine df_ (i := 4) rfl k_ k_ k_ b_ (by (repeat (first | refine pani_then ?_ | refine pani_block ?_)); exact pani_body) (do_ rfl rfl g_) ?_
          refine df_ (i := 9) rfl k_ k_ k_ b_ (by (repeat (first | refine pani_then ?_ | refine pani_block ?_)); exact pani_body) (dl_ rfl rfl rfl b_) ?_
          refine df_ (i := 10) rfl k_ k_ k_ b_ (by (repeat (first | refine pani_then ?_ | refine pani_block ?_)); exact pani_body) (hok_loadK 0 rfl rfl rfl mem0 rfl) ?_
          refine df_ (i := 11) rfl k_ k_ k_ b_ (by (repeat (first | refine pani_then ?_ | refine pani_block ?_)); exact pani_body) (dk_ rfl) ?_
          refine df_ (i := 12) rfl k_ k_ k_ b_ (by (repeat (first | refine pani_then ?_ | refine pani_block ?_)); exact pani_body) (dk_ rfl) ?_
          refine dg_ (i := 5) r_ k_ b_ (ow_convU8 r_ r_ r_ g_ ⟨?_, ?_⟩)
          exact keepK 0 rfl rfl
          refine dg_ (i := 6) r_ k_ b_ (bq_ r_ r_ b_ r_ r_ b_ ⟨?_, ?_⟩)
          exact keepK 0 rfl rfl
          refine dg_ (i := 7) r_ k_ b_ (ow_bytesToString (l := [_]) r_ r_ r_ ⟨?_, ?_⟩)
          exact keepK 0 rfl rfl
          refine dg_ (i := 8) rfl k_ b_ (ow_strcat rfl rfl (by show 1 + 1 ≤ 9223372036854775807 ; omega) ⟨?_, ?_⟩)
          exact keepK 0 rfl rfl
          refine dg_ (i := 13) rfl k_ b_ (bt_ [2] rfl rfl (tk _) (fun pp hpp => ⟨?_, ?_⟩))
          exact keepK 3 rfl rfl
          refine dg_ (i := 14) r_ k_ b_ (bq_ r_ r_ b_ r_ r_ b_ ⟨?_, ?_⟩)
          exact keepK 3 rfl rfl
          refine dg_ (i := 15) rfl k_ b_ (ow_appendF 4 rfl rfl rfl rfl rfl rfl rfl (by simp) (by show (_ + 1) * 192 ≤ _ ; simp only [List.length_cons, List.length_nil, List.length_map] ; omega) (by simp only [List.length_cons, List.length_nil, List.length_map] ; omega) (fun vT1 hT1 fT1 => ⟨?_, ?_⟩))
          exact keepK 4 rfl rfl
          refine df_ (i := 16) rfl k_ k_ k_ b_ (by (repeat (first | refine pani_then ?_ | refine pani_block ?_)); exact pani_body) (dl_ rfl rfl rfl b_) ?_
          refine hp_tail (dj_ (i := 17) rfl k_ (by decide) (ca_ 4 rfl rfl rfl rfl b_ (ht_done k_ (jq_unk _ 0 rfl rfl ?_))))
          dsimp only [List.map, unk]
          refine ay_ (al_ (an_ (M_ r_ (o_ r_ (bj_ r_ r_ g_ (E_ r_ (ak_ (jq_againS (i := (0, u12, none)) (1, vT1, some (pp, [])) ⟨by dsimp only; omega, rfl, ?_⟩ (by dsimp only; omega) ?_ ?_))))))))
          · intro j hj
            obtain rfl : j = 0 := by simp only [Po.tks, List.length_cons, List.length_nil] at hj; omega
            exact hpp
          · dsimp only [Po.rws, Po.chsO]
            exact bc_ 0 r_ (bc_ 0 r_ (bc_ 0 r_ (bc_ 2 r_ (bc_ 0 r_ (bc_ 0 r_ sub_end)))))
          · (repeat (first | exact True.intro | refine ⟨rfl, ?_⟩))
        · have hk1 : rest.length + 1 = k := by simpa [Po.tks] using hls
          have hk6 : rest.length ≤ 6 := by omega
          dsimp only [Po.rws, Po.chsO]
          refine am_ (R_ (M_ r_ (M_ r_ (o_ r_ (bw_ r_ r_ (T_ (aq_ r_ u_ (as_ (al_ (B_ (jc_hpM 16 (n := 18) rfl 0 k_ rfl (fun cs1 hcs1 hv1 => ?_))))))))))))
          obtain ⟨u10, u11, u12, rfl⟩ := len3 hcs1
          obtain rfl := Option.some.inj (hv1 2 _ rfl)
          refine hp_know 0 rfl mem0 ?_
          dsimp only [List.zipWith, know]
          refine df_ (i := 0) rfl k_ k_ k_ b_ (by (repeat (first | refine pani_then ?_ | refine pani_block ?_)); exact pani_body) (dl_ rfl rfl rfl b_) ?_
          refine df_ (i := 1) rfl k_ k_ k_ b_ (by (repeat (first | refine pani_then ?_ | refine pani_block ?_)); exact pani_body) (dm_ 0 rfl rfl rfl mem0 rfl) ?_
          refine df_ (i := 2) rfl k_ k_ k_ b_ (by (repeat (first | refine pani_then ?_ | refine pani_block ?_)); exact pani_body) (dk_ rfl) ?_
          refine df_ (i := 3) rfl k_ k_ k_ b_ (by (repeat (first | refine pani_then ?_ | refine pani_block ?_)); exact pani_body) (dk_ rfl) ?_
          refine df_ (i := 4) rfl k_ k_ k_ b_ (by (repeat (first | refine pani_then ?_ | refine pani_block ?_)); exact pani_body) (do_ rfl rfl g_) ?_
          refine df_ (i := 9) rfl k_ k_ k_ b_ (by (repeat (first | refine pani_then ?_ | refine pani_block ?_)); exact pani_body) (dl_ rfl rfl rfl b_) ?_
          refine df_ (i := 10) rfl k_ k_ k_ b_ (by (repeat (first | refine pani_then ?_ | refine pani_block ?_)); exact pani_body) (hok_loadK 0 rfl rfl rfl mem0 rfl) ?_
          refine df_ (i := 11) rfl k_ k_ k_ b_ (by (repeat (first | refine pani_then ?_ | refine pani_block ?_)); exact pani_body) (dk_ rfl) ?_
          refine df_ (i := 12) rfl k_ k_ k_ b_ (by (repeat (first | refine pani_then ?_ | refine pani_block ?_)); exact pani_body) (dk_ rfl) ?_
          refine dg_ (i := 5) r_ k_ b_ (ow_convU8 r_ r_ r_ g_ ⟨?_, ?_⟩)
          exact keepK 0 rfl rfl
          refine dg_ (i := 6) r_ k_ b_ (bq_ r_ r_ b_ r_ r_ b_ ⟨?_, ?_⟩)
          exact keepK 0 rfl rfl
          refine dg_ (i := 7) r_ k_ b_ (ow_bytesToString (l := [_]) r_ r_ r_ ⟨?_, ?_⟩)
          exact keepK 0 rfl rfl
          refine dg_ (i := 8) rfl k_ b_ (ow_strcat rfl rfl (by show 1 + 1 ≤ 9223372036854775807 ; omega) ⟨?_, ?_⟩)
          exact keepK 0 rfl rfl
          refine dg_ (i := 13) rfl k_ b_ (bt_ [2] rfl rfl (tk _) (fun pp hpp => ⟨?_, ?_⟩))
          exact keepK 3 rfl rfl
          refine dg_ (i := 14) r_ k_ b_ (bq_ r_ r_ b_ r_ r_ b_ ⟨?_, ?_⟩)
          exact keepK 3 rfl rfl
          refine dg_ (i := 15) rfl k_ b_ (ow_appendF 4 rfl rfl rfl rfl rfl rfl rfl (by simp) (by show (_ + 1) * 192 ≤ _ ; simp only [List.length_cons, List.length_nil, List.length_map] ; omega) (by simp only [List.length_cons, List.length_nil, List.length_map] ; omega) (fun vT1 hT1 fT1 => ⟨?_, ?_⟩))
          exact keepK 4 rfl rfl
          refine df_ (i := 16) rfl k_ k_ k_ b_ (by (repeat (first | refine pani_then ?_ | refine pani_block ?_)); exact pani_body) (dl_ rfl rfl rfl b_) ?_
          refine hp_tail (dj_ (i := 17) rfl k_ (by decide) (ca_ 4 rfl rfl rfl rfl b_ (ht_done k_ (jq_unk _ 0 rfl rfl ?_))))
          dsimp only [List.map, unk]
          (first | refine jq_freezeOG (v := pp.vI) 0 0 (rest.length + 1) 5 (row := pp.row) rfl (by simp) rfl (by rw [hc]; simp [hb, Ch.bs]) ?_ | refine jq_freezeOG (v := pp.vI) 0 1 (rest.length + 1) 5 (row := pp.row) rfl (by simp) rfl (by rw [hc]; simp [hb, Ch.bs]) ?_ | refine jq_freezeOG (v := pp.vI) 0 2 (rest.length + 1) 5 (row := pp.row) rfl (by simp) rfl (by rw [hc]; simp [hb, Ch.bs]) ?_ | refine jq_freezeOG (v := pp.vI) 0 3 (rest.length + 1) 5 (row := pp.row) rfl (by simp) rfl (by rw [hc]; simp [hb, Ch.bs]) ?_ | refine jq_freezeOG (v := pp.vI) 0 4 (rest.length + 1) 5 (row := pp.row) rfl (by simp) rfl (by rw [hc]; simp [hb, Ch.bs]) ?_ | refine jq_freezeOG (v := pp.vI) 0 5 (rest.length + 1) 5 (row := pp.row) rfl (by simp) rfl (by rw [hc]; simp [hb, Ch.bs]) ?_ | refine jq_freezeOG (v := pp.vI) 1 0 (rest.length + 1) 5 (row := pp.row) rfl (by simp) rfl (by rw [hc]; simp [hb, Ch.bs]) ?_ | refine jq_freezeOG (v := pp.vI) 1 1 (rest.length + 1) 5 (row := pp.row) rfl (by simp) rfl (by rw [hc]; simp [hb, Ch.bs]) ?_ | refine jq_freezeOG (v := pp.vI) 1 2 (rest.length + 1) 5 (row := pp.row) rfl (by simp) rfl (by rw [hc]; simp [hb, Ch.bs]) ?_ | refine jq_freezeOG (v := pp.vI) 1 3 (rest.length + 1) 5 (row := pp.row) rfl (by simp) rfl (by rw [hc]; simp [hb, Ch.bs]) ?_ | refine jq_freezeOG (v := pp.vI) 1 4 (rest.length + 1) 5 (row := pp.row) rfl (by simp) rfl (by rw [hc]; simp [hb, Ch.bs]) ?_ | refine jq_freezeOG (v := pp.vI) 1 5 (rest.length + 1) 5 (row := pp.row) rfl (by simp) rfl (by rw [hc]; simp [hb, Ch.bs]) ?_ | refine jq_freezeOG (v := pp.vI) 2 0 (rest.length + 1) 5 (row := pp.row) rfl (by simp) rfl (by rw [hc]; simp [hb, Ch.bs]) ?_ | refine jq_freezeOG (v := pp.vI) 2 1 (rest.length + 1) 5 (row := pp.row) rfl (by simp) rfl (by rw [hc]; simp [hb, Ch.bs]) ?_ | refine jq_freezeOG (v := pp.vI) 2 2 (rest.length + 1) 5 (row := pp.row) rfl (by simp) rfl (by rw [hc]; simp [hb, Ch.bs]) ?_ | refine jq_freezeOG (v := pp.vI) 2 3 (rest.length + 1) 5 (row := pp.row) rfl (by simp) rfl (by rw [hc]; simp [hb, Ch.bs]) ?_ | refine jq_freezeOG (v := pp.vI) 2 4 (rest.length + 1) 5 (row := pp.row) rfl (by simp) rfl (by rw [hc]; simp [hb, Ch.bs]) ?_ | refine jq_freezeOG (v := pp.vI) 2 5 (rest.length + 1) 5 (row := pp.row) rfl (by simp) rfl (by rw [hc]; simp [hb, Ch.bs]) ?_ | refine jq_freezeOG (v := pp.vI) 3 0 (rest.length + 1) 5 (row := pp.row) rfl (by simp) rfl (by rw [hc]; simp [hb, Ch.bs]) ?_ | refine jq_freezeOG (v := pp.vI) 3 1 (rest.length + 1) 5 (row := pp.row) rfl (by simp) rfl (by rw [hc]; simp [hb, Ch.bs]) ?_ | refine jq_freezeOG (v := pp.vI) 3 2 (rest.length + 1) 5 (row := pp.row) rfl (by simp) rfl (by rw [hc]; simp [hb, Ch.bs]) ?_ | refine jq_freezeOG (v := pp.vI) 3 3 (rest.length + 1) 5 (row := pp.row) rfl (by simp) rfl (by rw [hc]; simp [hb, Ch.bs]) ?_ | refine jq_freezeOG (v := pp.vI) 3 4 (rest.length + 1) 5 (row := pp.row) rfl (by simp) rfl (by rw [hc]; simp [hb, Ch.bs]) ?_ | refine jq_freezeOG (v := pp.vI) 3 5 (rest.length + 1) 5 (row := pp.row) rfl (by simp) rfl (by rw [hc]; simp [hb, Ch.bs]) ?_ | refine jq_freezeOG (v := pp.vI) 4 0 (rest.length + 1) 5 (row := pp.row) rfl (by simp) rfl (by rw [hc]; simp [hb, Ch.bs]) ?_ | refine jq_freezeOG (v := pp.vI) 4 1 (rest.length + 1) 5 (row := pp.row) rfl (by simp) rfl (by rw [hc]; simp [hb, Ch.bs]) ?_ | refine jq_freezeOG (v := pp.vI) 4 2 (rest.length + 1) 5 (row := pp.row) rfl (by simp) rfl (by rw [hc]; simp [hb, Ch.bs]) ?_ | refine jq_freezeOG (v := pp.vI) 4 3 (rest.length + 1) 5 (row := pp.row) rfl (by simp) rfl (by rw [hc]; simp [hb, Ch.bs]) ?_ | refine jq_freezeOG (v := pp.vI) 4 4 (rest.length + 1) 5 (row := pp.row) rfl (by simp) rfl (by rw [hc]; simp [hb, Ch.bs]) ?_ | refine jq_freezeOG (v := pp.vI) 4 5 (rest.length + 1) 5 (row := pp.row) rfl (by simp) rfl (by rw [hc]; simp [hb, Ch.bs]) ?_ | refine jq_freezeOG (v := pp.vI) 5 0 (rest.length + 1) 5 (row := pp.row) rfl (by simp) rfl (by rw [hc]; simp [hb, Ch.bs]) ?_ | refine jq_freezeOG (v := pp.vI) 5 1 (rest.length + 1) 5 (row := pp.row) rfl (by simp) rfl (by rw [hc]; simp [hb, Ch.bs]) ?_ | refine jq_freezeOG (v := pp.vI) 5 2 (rest.length + 1) 5 (row := pp.row) rfl (by simp) rfl (by rw [hc]; simp [hb, Ch.bs]) ?_ | refine jq_freezeOG (v := pp.vI) 5 3 (rest.length + 1) 5 (row := pp.row) rfl (by simp) rfl (by rw [hc]; simp [hb, Ch.bs]) ?_ | refine jq_freezeOG (v := pp.vI) 5 4 (rest.length + 1) 5 (row := pp.row) rfl (by simp) rfl (by rw [hc]; simp [hb, Ch.bs]) ?_ | refine jq_freezeOG (v := pp.vI) 5 5 (rest.length + 1) 5 (row := pp.row) rfl (by simp) rfl (by rw [hc]; simp [hb, Ch.bs]) ?_ | refine jq_freezeOG (v := pp.vI) 6 0 (rest.length + 1) 5 (row := pp.row) rfl (by simp) rfl (by rw [hc]; simp [hb, Ch.bs]) ?_ | refine jq_freezeOG (v := pp.vI) 6 1 (rest.length + 1) 5 (row := pp.row) rfl (by simp) rfl (by rw [hc]; simp [hb, Ch.bs]) ?_ | refine jq_freezeOG (v := pp.vI) 6 2 (rest.length + 1) 5 (row := pp.row) rfl (by simp) rfl (by rw [hc]; simp [hb, Ch.bs]) ?_ | refine jq_freezeOG (v := pp.vI) 6 3 (rest.length + 1) 5 (row := pp.row) rfl (by simp) rfl (by rw [hc]; simp [hb, Ch.bs]) ?_ | refine jq_freezeOG (v := pp.vI) 6 4 (rest.length + 1) 5 (row := pp.row) rfl (by simp) rfl (by rw [hc]; simp [hb, Ch.bs]) ?_ | refine jq_freezeOG (v := pp.vI) 6 5 (rest.length + 1) 5 (row := pp.row) rfl (by simp) rfl (by rw [hc]; simp [hb, Ch.bs]) ?_)
          rw [show ∀ y : List C, ((o.row :: rest.map Tk.rowX) ++ [pp.row]).set (rest.length + 1) y = (o.row :: rest.map Tk.rowX) ++ [y] from fun y => set_last _ _ _ (by simp)]
          (first | refine jq_freezeOG (v := pp.vB) 0 0 (rest.length + 1) 10 (row := pp.row.set 5 (.list (pp.t.inputs.map InRow))) rfl (by simp) rfl (by rw [hc]; simp [hb, Ch.bs]) ?_ | refine jq_freezeOG (v := pp.vB) 0 1 (rest.length + 1) 10 (row := pp.row.set 5 (.list (pp.t.inputs.map InRow))) rfl (by simp) rfl (by rw [hc]; simp [hb, Ch.bs]) ?_ | refine jq_freezeOG (v := pp.vB) 0 2 (rest.length + 1) 10 (row := pp.row.set 5 (.list (pp.t.inputs.map InRow))) rfl (by simp) rfl (by rw [hc]; simp [hb, Ch.bs]) ?_ | refine jq_freezeOG (v := pp.vB) 0 3 (rest.length + 1) 10 (row := pp.row.set 5 (.list (pp.t.inputs.map InRow))) rfl (by simp) rfl (by rw [hc]; simp [hb, Ch.bs]) ?_ | refine jq_freezeOG (v := pp.vB) 0 4 (rest.length + 1) 10 (row := pp.row.set 5 (.list (pp.t.inputs.map InRow))) rfl (by simp) rfl (by rw [hc]; simp [hb, Ch.bs]) ?_ | refine jq_freezeOG (v := pp.vB) 0 5 (rest.length + 1) 10 (row := pp.row.set 5 (.list (pp.t.inputs.map InRow))) rfl (by simp) rfl (by rw [hc]; simp [hb, Ch.bs]) ?_ | refine jq_freezeOG (v := pp.vB) 1 0 (rest.length + 1) 10 (row := pp.row.set 5 (.list (pp.t.inputs.map InRow))) rfl (by simp) rfl (by rw [hc]; simp [hb, Ch.bs]) ?_ | refine jq_freezeOG (v := pp.vB) 1 1 (rest.length + 1) 10 (row := pp.row.set 5 (.list (pp.t.inputs.map InRow))) rfl (by simp) rfl (by rw [hc]; simp [hb, Ch.bs]) ?_ | refine jq_freezeOG (v := pp.vB) 1 2 (rest.length + 1) 10 (row := pp.row.set 5 (.list (pp.t.inputs.map InRow))) rfl (by simp) rfl (by rw [hc]; simp [hb, Ch.bs]) ?_ | refine jq_freezeOG (v := pp.vB) 1 3 (rest.length + 1) 10 (row := pp.row.set 5 (.list (pp.t.inputs.map InRow))) rfl (by simp) rfl (by rw [hc]; simp [hb, Ch.bs]) ?_ | refine jq_freezeOG (v := pp.vB) 1 4 (rest.length + 1) 10 (row := pp.row.set 5 (.list (pp.t.inputs.map InRow))) rfl (by simp) rfl (by rw [hc]; simp [hb, Ch.bs]) ?_ | refine jq_freezeOG (v := pp.vB) 1 5 (rest.length + 1) 10 (row := pp.row.set 5 (.list (pp.t.inputs.map InRow))) rfl (by simp) rfl (by rw [hc]; simp [hb, Ch.bs]) ?_ | refine jq_freezeOG (v := pp.vB) 2 0 (rest.length + 1) 10 (row := pp.row.set 5 (.list (pp.t.inputs.map InRow))) rfl (by simp) rfl (by rw [hc]; simp [hb, Ch.bs]) ?_ | refine jq_freezeOG (v := pp.vB) 2 1 (rest.length + 1) 10 (row := pp.row.set 5 (.list (pp.t.inputs.map InRow))) rfl (by simp) rfl (by rw [hc]; simp [hb, Ch.bs]) ?_ | refine jq_freezeOG (v := pp.vB) 2 2 (rest.length + 1) 10 (row := pp.row.set 5 (.list (pp.t.inputs.map InRow))) rfl (by simp) rfl (by rw [hc]; simp [hb, Ch.bs]) ?_ | refine jq_freezeOG (v := pp.vB) 2 3 (rest.length + 1) 10 (row := pp.row.set 5 (.list (pp.t.inputs.map InRow))) rfl (by simp) rfl (by rw [hc]; simp [hb, Ch.bs]) ?_ | refine jq_freezeOG (v := pp.vB) 2 4 (rest.length + 1) 10 (row := pp.row.set 5 (.list (pp.t.inputs.map InRow))) rfl (by simp) rfl (by rw [hc]; simp [hb, Ch.bs]) ?_ | refine jq_freezeOG (v := pp.vB) 2 5 (rest.length + 1) 10 (row := pp.row.set 5 (.list (pp.t.inputs.map InRow))) rfl (by simp) rfl (by rw [hc]; simp [hb, Ch.bs]) ?_ | refine jq_freezeOG (v := pp.vB) 3 0 (rest.length + 1) 10 (row := pp.row.set 5 (.list (pp.t.inputs.map InRow))) rfl (by simp) rfl (by rw [hc]; simp [hb, Ch.bs]) ?_ | refine jq_freezeOG (v := pp.vB) 3 1 (rest.length + 1) 10 (row := pp.row.set 5 (.list (pp.t.inputs.map InRow))) rfl (by simp) rfl (by rw [hc]; simp [hb, Ch.bs]) ?_ | refine jq_freezeOG (v := pp.vB) 3 2 (rest.length + 1) 10 (row := pp.row.set 5 (.list (pp.t.inputs.map InRow))) rfl (by simp) rfl (by rw [hc]; simp [hb, Ch.bs]) ?_ | refine jq_freezeOG (v := pp.vB) 3 3 (rest.length + 1) 10 (row := pp.row.set 5 (.list (pp.t.inputs.map InRow))) rfl (by simp) rfl (by rw [hc]; simp [hb, Ch.bs]) ?_ | refine jq_freezeOG (v := pp.vB) 3 4 (rest.length + 1) 10 (row := pp.row.set 5 (.list (pp.t.inputs.map InRow))) rfl (by simp) rfl (by rw [hc]; simp [hb, Ch.bs]) ?_ | refine jq_freezeOG (v := pp.vB) 3 5 (rest.length + 1) 10 (row := pp.row.set 5 (.list (pp.t.inputs.map InRow))) rfl (by simp) rfl (by rw [hc]; simp [hb, Ch.bs]) ?_ | refine jq_freezeOG (v := pp.vB) 4 0 (rest.length + 1) 10 (row := pp.row.set 5 (.list (pp.t.inputs.map InRow))) rfl (by simp) rfl (by rw [hc]; simp [hb, Ch.bs]) ?_ | refine jq_freezeOG (v := pp.vB) 4 1 (rest.length + 1) 10 (row := pp.row.set 5 (.list (pp.t.inputs.map InRow))) rfl (by simp) rfl (by rw [hc]; simp [hb, Ch.bs]) ?_ | refine jq_freezeOG (v := pp.vB) 4 2 (rest.length + 1) 10 (row := pp.row.set 5 (.list (pp.t.inputs.map InRow))) rfl (by simp) rfl (by rw [hc]; simp [hb, Ch.bs]) ?_ | refine jq_freezeOG (v := pp.vB) 4 3 (rest.length + 1) 10 (row := pp.row.set 5 (.list (pp.t.inputs.map InRow))) rfl (by simp) rfl (by rw [hc]; simp [hb, Ch.bs]) ?_ | refine jq_freezeOG (v := pp.vB) 4 4 (rest.length + 1) 10 (row := pp.row.set 5 (.list (pp.t.inputs.map InRow))) rfl (by simp) rfl (by rw [hc]; simp [hb, Ch.bs]) ?_ | refine jq_freezeOG (v := pp.vB) 4 5 (rest.length + 1) 10 (row := pp.row.set 5 (.list (pp.t.inputs.map InRow))) rfl (by simp) rfl (by rw [hc]; simp [hb, Ch.bs]) ?_ | refine jq_freezeOG (v := pp.vB) 5 0 (rest.length + 1) 10 (row := pp.row.set 5 (.list (pp.t.inputs.map InRow))) rfl (by simp) rfl (by rw [hc]; simp [hb, Ch.bs]) ?_ | refine jq_freezeOG (v := pp.vB) 5 1 (rest.length + 1) 10 (row := pp.row.set 5 (.list (pp.t.inputs.map InRow))) rfl (by simp) rfl (by rw [hc]; simp [hb, Ch.bs]) ?_ | refine jq_freezeOG (v := pp.vB) 5 2 (rest.length + 1) 10 (row := pp.row.set 5 (.list (pp.t.inputs.map InRow))) rfl (by simp) rfl (by rw [hc]; simp [hb, Ch.bs]) ?_ | refine jq_freezeOG (v := pp.vB) 5 3 (rest.length + 1) 10 (row := pp.row.set 5 (.list (pp.t.inputs.map InRow))) rfl (by simp) rfl (by rw [hc]; simp [hb, Ch.bs]) ?_ | refine jq_freezeOG (v := pp.vB) 5 4 (rest.length + 1) 10 (row := pp.row.set 5 (.list (pp.t.inputs.map InRow))) rfl (by simp) rfl (by rw [hc]; simp [hb, Ch.bs]) ?_ | refine jq_freezeOG (v := pp.vB) 5 5 (rest.length + 1) 10 (row := pp.row.set 5 (.list (pp.t.inputs.map InRow))) rfl (by simp) rfl (by rw [hc]; simp [hb, Ch.bs]) ?_ | refine jq_freezeOG (v := pp.vB) 6 0 (rest.length + 1) 10 (row := pp.row.set 5 (.list (pp.t.inputs.map InRow))) rfl (by simp) rfl (by rw [hc]; simp [hb, Ch.bs]) ?_ | refine jq_freezeOG (v := pp.vB) 6 1 (rest.length + 1) 10 (row := pp.row.set 5 (.list (pp.t.inputs.map InRow))) rfl (by simp) rfl (by rw [hc]; simp [hb, Ch.bs]) ?_ | refine jq_freezeOG (v := pp.vB) 6 2 (rest.length + 1) 10 (row := pp.row.set 5 (.list (pp.t.inputs.map InRow))) rfl (by simp) rfl (by rw [hc]; simp [hb, Ch.bs]) ?_ | refine jq_freezeOG (v := pp.vB) 6 3 (rest.length + 1) 10 (row := pp.row.set 5 (.list (pp.t.inputs.map InRow))) rfl (by simp) rfl (by rw [hc]; simp [hb, Ch.bs]) ?_ | refine jq_freezeOG (v := pp.vB) 6 4 (rest.length + 1) 10 (row := pp.row.set 5 (.list (pp.t.inputs.map InRow))) rfl (by simp) rfl (by rw [hc]; simp [hb, Ch.bs]) ?_ | refine jq_freezeOG (v := pp.vB) 6 5 (rest.length + 1) 10 (row := pp.row.set 5 (.list (pp.t.inputs.map InRow))) rfl (by simp) rfl (by rw [hc]; simp [hb, Ch.bs]) ?_)
          rw [show ∀ y : List C, ((o.row :: rest.map Tk.rowX) ++ [pp.row.set 5 (.list (pp.t.inputs.map InRow))]).set (rest.length + 1) y = (o.row :: rest.map Tk.rowX) ++ [y] from fun y => set_last _ _ _ (by simp)]
          rw [show (o.row :: rest.map Tk.rowX) ++ [(pp.row.set 5 (.list (pp.t.inputs.map InRow))).set 10 (.list (pp.t.body.map Sm.row))] = o.row :: (rest ++ [pp.t]).map Tk.rowX by simp]
          refine ay_ (al_ (an_ (M_ r_ (o_ r_ (bj_ r_ r_ g_ (E_ r_ (ak_ (jq_againS (i := (k, u12, some (o, rest))) (k + 1, vT1, some (o, rest ++ [pp.t])) ⟨by dsimp only; omega, by simp only [Po.tks, List.length_cons, List.length_append, List.length_nil]; omega, ?_⟩ (by dsimp only; omega) ?_ ?_))))))))
          · intro j hj
            dsimp only [Po.tks] at hj ⊢
            by_cases hjl : j < (o.t :: rest).length
            · have := hg j hjl
              simp only [Po.tks] at this
              rw [show (o.t :: (rest ++ [pp.t]))[j] = ((o.t :: rest) ++ [pp.t])[j]'(by simpa using hj) from rfl, List.getElem_append_left hjl]
              exact this
            · have hjk : j = k := by simp only [List.length_cons, List.length_append, List.length_nil] at hj hjl; omega
              subst hjk
              rw [show (o.t :: (rest ++ [pp.t]))[j] = ((o.t :: rest) ++ [pp.t])[j]'(by simpa using hj) from rfl, List.getElem_append_right (by omega)]
              simp only [List.getElem_singleton]
              exact hpp
          · dsimp only [Po.rws, Po.chsO]
            exact bc_ 1 r_ (bc_ 0 r_ (bc_ 0 r_ (bc_ 0 r_ (bc_ 0 r_ (bc_ 0 r_ sub_end)))))
          · (repeat (first | exact True.intro | refine ⟨rfl, ?_⟩))
      · rcases oo with _ | ⟨o, rest⟩
        · simp only [Po.tks, List.length_nil] at hls
          omega
        · dsimp only [Po.rws, Po.chsO]
          refine am_ (R_ (M_ r_ (M_ r_ (o_ r_ (bw_ r_ r_ (T_ (ap_ r_ w_ (av_ (ax_ (ax_ (ba_ (jq_cutS (vT, o, rest) ⟨by simp only [Po.tks, List.length_cons] at hls; dsimp only; omega, hg⟩ ?_ ?_))))))))))))
          · exact bc_ 0 r_ (bc_ 0 r_ (bc_ 0 r_ (bc_ 0 r_ (bc_ 0 r_ (bc_ 0 r_ sub_end)))))
          · (repeat (first | exact True.intro | refine ⟨rfl, ?_⟩))
  rintro ⟨vT, o, rest⟩ ⟨hls, hg⟩
  dsimp only at hls hg ⊢
  refine R_ (A_ 0 r_ (S_ 3 r_ (T_ (ar_ ?_))))
  (first | refine jq_retRowS rfl rfl rfl rfl 0 rfl (fun K h => h ⟨⟨lR, Sh, o.t :: rest⟩, o, rest, vT⟩ ⟨⟨⟨n1, hn12, hlR⟩, hSh, hls, hg⟩, rfl⟩) ?_ | refine jq_retRowS rfl rfl rfl rfl 1 rfl (fun K h => h ⟨⟨lR, Sh, o.t :: rest⟩, o, rest, vT⟩ ⟨⟨⟨n1, hn12, hlR⟩, hSh, hls, hg⟩, rfl⟩) ?_ | refine jq_retRowS rfl rfl rfl rfl 2 rfl (fun K h => h ⟨⟨lR, Sh, o.t :: rest⟩, o, rest, vT⟩ ⟨⟨⟨n1, hn12, hlR⟩, hSh, hls, hg⟩, rfl⟩) ?_)
  exact bc_ 3 r_ (bc_ 2 r_ (bc_ 2 r_ (bc_ 2 r_ sub_end)))
theorem gProgramO_c (hL : InR L) (hLn : L.length ≤ 400) (T : Int) :
    Con Tryz.prog 8 [Ptr bd, In .i64 T] [Dk bd L] (fun K => ∀ o : Po, (PgG (max 1 (min T 6)).toNat 300 o.p ∧ o.p.tasks = o.o.t :: o.rest) → K (.row o.row) (Dk bd L :: o.chs)) := by
  refine con_intro Tryz.func8 rfl rfl (Nat.le_of_ble_eq_true rfl) (fun c hc => R_ (o_ r_ (bl_ rfl rfl (fun b4 => T_ (R_ (M_ r_ (M_ r_ (o_ r_ (cl_ r_ r_ (o_ r_ (ck_ r_ r_ (o_ r_ (bt_ [1] rfl rfl (programsO_c hL hLn _ _ _ g_ g_ g_) (fun p hp => S_ 4 r_ (T_ (ar_ ?_))))))))))))))))
  (first | refine jq_retRowS rfl rfl rfl rfl 0 rfl (fun K h => h p hp) ?_ | refine jq_retRowS rfl rfl rfl rfl 1 rfl (fun K h => h p hp) ?_)
  exact bc_ 1 r_ (bc_ 1 r_ (bc_ 1 r_ (bc_ 1 r_ sub_end)))
end
end Go.Proofs.YtlniadfidfmckaaGreatDoor
end

section
namespace Go.Proofs.YtlniadfidfmckaaGreatDoor
open Go.Vc
theorem con_conseq {P : Program} [Gl P] {f : FuncId} {ss : List S} {Hin : List Ch} {post post' : (S → List Ch → Prop) → Prop} (hp : ∀ K, post' K → post K) (h : Con P f ss Hin post) : Con P f ss Hin post' := by
  intro vs w A h1 h2 h3 h4 h5 h6
  refine (h vs w A h1 h2 h3 h4 h5 h6).mono ?_
  rintro e w' ⟨v, s, Ho, he, hK, hs, hrest⟩
  exact ⟨v, s, Ho, he, fun K h => hK K (hp K h), hs, hrest⟩
attribute [local irreducible] JL JC JQ OpWp Con ConN
theorem gNewT_c (L : List Int) : Con Tryz.prog 7 [.cell (.list (L.map Irow))] [] (fun K => ∀ b : Nat, True → K (Ptr b) [Dk b L]) := con_conseq (fun _ h b => h b trivial) (gNew_c L)
end Go.Proofs.YtlniadfidfmckaaGreatDoor
end

section
namespace Go.Proofs.YtlniadfidfmckaaGreatDoor
open Go.Vc
attribute [local irreducible] JL JC JQ OpWp Con ConN
attribute [local irreducible] progT StG BlG
attribute [local irreducible] progF

theorem TaskG.sz {Sh : List Shd} {nm : ByteArray} {W : Int} {t : Tk} (h : TaskG Sh nm W t) : TkSz t := by
  obtain ⟨lab, l, n, hl, hb⟩ := h.body
  have h1 := body_szs hl
  have h2 := Sm.szs_take l n
  refine ⟨by have := h.inputs.1; omega, by rw [h.vars]; decide, ?_, ?_, ?_, by rw [hb]; omega⟩
  · rcases h.arrays with e | ⟨k, _, e⟩ <;> rw [e] <;> simp
  · rcases h.modes with e | ⟨x, lo, hi, _, _, e⟩ <;> rw [e] <;> simp
  · rcases h.claims with e | ⟨a, b, _, _, _, e⟩ <;> rw [e] <;> simp
theorem PgG.sz {T : Nat} {W : Int} {p : Pg} (hT : T ≤ 1000) (h : PgG T W p) : PgSz p := by
  refine ⟨?_, ?_, by rw [h.len]; exact hT, ?_⟩
  · obtain ⟨n, hn, e⟩ := h.res
    rw [e]
    rcases n with _ | _ | n <;> simp [RSl]
  · rcases h.shared with e | ⟨r, k, _, _, e⟩ <;> rw [e] <;> simp
  · intro t ht
    obtain ⟨i, hi, rfl⟩ := List.mem_iff_getElem.1 ht
    exact (h.tasks i hi).sz
end Go.Proofs.YtlniadfidfmckaaGreatDoor
end

section
namespace Go.Proofs.YtlniadfidfmckaaGreatDoor
open Go.Vc

theorem nmOk_lit {s : ByteArray} (h : (isName s && !hasW s) = true) : nmOk s := by
  simp only [Bool.and_eq_true, Bool.not_eq_true'] at h
  exact h
theorem ExG.fine {V U : List ByteArray} (hV : ∀ s ∈ V, nmOk s) (hU : ∀ s ∈ U, nmOk s) : ∀ {d : Nat} {t : T}, ExG V U d t → t.ok ∧ t.dep ≤ d + 1 := by
  intro d t h
  induction h with
  | nu d n h => exact ⟨h, by simp [T.dep]⟩
  | nm d s h => exact ⟨hV s h, by simp [T.dep]⟩
  | ix d s t h _ ih => exact ⟨⟨hU s h, ih.1⟩, by simp only [T.dep]; omega⟩
  | bn d o a b ho _ _ iha ihb => exact ⟨⟨ho, iha.1, ihb.1⟩, by simp only [T.dep]; omega⟩
theorem pc_all {St : Int → Int → List Sm → Prop} {P : Sm → Prop} (h : ∀ a b l, St a b l → 0 ≤ a → a ≤ b ∧ ∀ s ∈ l, P s) {k : Nat} {a b : Int} {l : List Sm} (hp : PcG St k a b l) (h0 : 0 ≤ a) : a ≤ b ∧ ∀ s ∈ l, P s := by
  induction hp with
  | nil => exact ⟨Int.le_refl _, by simp⟩
  | snoc k _ _ _ l l2 _ h2 ih =>
    obtain ⟨i1, i2⟩ := ih h0
    obtain ⟨j1, j2⟩ := h _ _ _ h2 (by omega)
    refine ⟨by omega, fun s hs => ?_⟩
    rcases List.mem_append.1 hs with hs | hs
    · exact i2 s hs
    · exact j2 s hs
theorem bl_all {St : Int → Int → List Sm → Prop} {P : Sm → Prop} (h : ∀ a b l, St a b l → 0 ≤ a → a ≤ b ∧ ∀ s ∈ l, P s) {m : Int} {a b : Int} {l : List Sm} (hp : BlG St m a b l) (h0 : 0 ≤ a) : a ≤ b ∧ ∀ s ∈ l, P s := by
  obtain ⟨k, _, hp⟩ := hp
  exact pc_all h hp h0
/-- An expression as makers make it. -/
def Fm (x : T) : Prop := x.ok ∧ x.dep ≤ 3
theorem Fm.fx {x : T} (h : Fm x) : Fx x := ⟨h.1, Nat.le_trans h.2 (by decide)⟩
/-- A statement as the grammar has it: of at most a depth. -/
def mdS : Nat → Sm → Prop
  | 0, _ => False
  | n + 1, s =>
    (∃ v x, nmOk v ∧ Fm x ∧ s = .mk 1 v [] [x] 0 0 [] []) ∨
    (∃ v y x, nmOk v ∧ Fm y ∧ Fm x ∧ s = .mk 2 v [y] [x] 0 0 [] []) ∨
    (∃ x lab t e, Fm x ∧ Pl lab ∧ (∀ u ∈ t, mdS n u) ∧ (∀ u ∈ e, mdS n u) ∧ s = .mk 3 E0 [] [x] 0 lab t e) ∨
    (∃ x mx lab t, Fm x ∧ Pl mx ∧ Pl lab ∧ (∀ u ∈ t, mdS n u) ∧ s = .mk 4 E0 [] [x] mx lab t []) ∨
    (∃ v t, nmOk v ∧ (∀ u ∈ t, mdS n u) ∧ s = .mk 5 v [] [] 0 0 t [])
theorem mdS.fine : ∀ {n : Nat} {s : Sm}, mdS n s → fineS n s
  | 0, _, h => h.elim
  | n + 1, s, h => by
    unfold mdS at h
    unfold fineS
    rcases h with ⟨v, x, hv, hx, rfl⟩ | ⟨v, y, x, hv, hy, hx, rfl⟩ | ⟨x, lab, t, e, hx, hl, ht, he, rfl⟩ | ⟨x, mx, lab, t, hx, hm, hl, ht, rfl⟩ | ⟨v, t, hv, ht, rfl⟩
    · exact .inl ⟨rfl, hv, x, rfl, hx.fx⟩
    · exact .inr (.inl ⟨rfl, hv, y, x, rfl, rfl, hy.fx, hx.fx⟩)
    · exact .inr (.inr (.inl ⟨rfl, ⟨x, rfl, hx.fx⟩, hl, fun u hu => (ht u hu).fine, fun u hu => (he u hu).fine⟩))
    · exact .inr (.inr (.inr (.inl ⟨rfl, ⟨x, rfl, hx.fx⟩, hm, hl, fun u hu => (ht u hu).fine, rfl⟩)))
    · exact .inr (.inr (.inr (.inr ⟨rfl, hv, fun u hu => (ht u hu).fine, rfl⟩)))
theorem md_set {n : Nat} {v : ByteArray} {x : T} (hv : nmOk v) (hx : Fm x) : mdS (n + 1) (.mk 1 v [] [x] 0 0 [] []) := .inl ⟨v, x, hv, hx, rfl⟩
theorem StG.md {V A : List ByteArray} {Sh : List Shd} (hV : ∀ s ∈ V, nmOk s) (hU : ∀ hs, ∀ s ∈ usableF A Sh hs, nmOk s) (hR : ∀ x ∈ Sh, nmOk x.2.2) : ∀ (d : Nat) (il : Int) (hs : ByteArray) (a b : Int) (l : List Sm), StG V A Sh d il hs a b l → 0 ≤ a → a ≤ b ∧ ∀ s ∈ l, mdS (d + 1) s := by
  have ex : ∀ {hs : ByteArray} {d : Nat} {t : T}, ExG V (usableF A Sh hs) d t → d ≤ 2 → Fm t := fun h hd => ⟨(h.fine hV (hU _)).1, by have := (h.fine hV (hU _)).2; omega⟩
  have leaf : ∀ {n : Nat} {hs : ByteArray} {a b : Int} {l : List Sm}, LeafG V (usableF A Sh hs) a b l → a ≤ b ∧ ∀ s ∈ l, mdS (n + 1) s := by
    rintro n hs a b l ⟨rfl, ⟨s, e, h1, h2, rfl⟩ | ⟨s, e1, e2, h1, h2, h3, rfl⟩⟩
    · refine ⟨Int.le_refl _, fun t ht => ?_⟩
      rw [List.mem_singleton.1 ht]
      exact md_set (hV s h1) (ex h2 (by omega))
    · refine ⟨Int.le_refl _, fun t ht => ?_⟩
      rw [List.mem_singleton.1 ht]
      exact .inr (.inl ⟨s, e1, e2, hU _ s h1, ex h2 (by omega), ex h3 (by omega), rfl⟩)
  intro d
  induction d with
  | zero => intro il hs a b l h _; exact leaf h
  | succ d ih =>
    intro il hs a b l h h0
    rcases h with h | ⟨hl, c, l1, l2, lab1, hc, hb1, hb2, rfl⟩ | ⟨_, hl, ⟨c, mx, l1, hc, hm, hb, rfl⟩ | ⟨v, n, op, top, mx, l1, st, hv, hn, ho, ht, hm, hst, hb, rfl⟩⟩ | ⟨_, sh, hsh, l1, hb, rfl⟩
    · exact leaf h
    · obtain ⟨g1, g2⟩ := bl_all (ih il hs) hb1 (by omega)
      have g3 : lab1 ≤ b ∧ ∀ s ∈ l2, mdS (d + 1) s := by
        rcases hb2 with ⟨rfl, rfl⟩ | hb2
        · exact ⟨Int.le_refl _, by simp⟩
        · exact bl_all (ih il hs) hb2 (by omega)
      refine ⟨by omega, fun t ht => ?_⟩
      rw [List.mem_singleton.1 ht]
      exact .inr (.inr (.inl ⟨c, a + 1, l1, l2, ex hc (by omega), ⟨by omega, by omega⟩, g2, g3.2, rfl⟩))
    · obtain ⟨g1, g2⟩ := bl_all (ih (il + 1) hs) hb (by omega)
      refine ⟨by omega, fun t ht => ?_⟩
      rw [List.mem_singleton.1 ht]
      exact .inr (.inr (.inr (.inl ⟨c, mx, a + 1, l1, ex hc (by omega), ⟨by omega, by omega⟩, ⟨by omega, by omega⟩, g2, rfl⟩)))
    · obtain ⟨g1, g2⟩ := bl_all (ih (il + 1) hs) hb (by omega)
      have hv2 := hV v hv
      have htop : top.ok ∧ top.dep ≤ 1 := by
        rcases ht with ⟨t, ht, rfl⟩ | ⟨s, hs, rfl⟩
        · exact ⟨by show _ ∧ _; omega, by simp [T.dep]⟩
        · exact ⟨hV s hs, by simp [T.dep]⟩
      have hfn : Fm (.nu n) := ⟨by show _ ∧ _; omega, by simp [T.dep]⟩
      have hfc : Fm (.bn (11 + op) (.nm v) top) := ⟨⟨by omega, hv2, htop.1⟩, by simp only [T.dep]; omega⟩
      have hfs : Fm (.bn 1 (.nm v) (.nu st)) := ⟨⟨by omega, hv2, by show _ ∧ _; omega⟩, by simp [T.dep]⟩
      refine ⟨by omega, fun t ht => ?_⟩
      rcases List.mem_cons.1 ht with rfl | ht
      · exact md_set hv2 hfn
      · rw [List.mem_singleton.1 ht]
        refine .inr (.inr (.inr (.inl ⟨_, mx, a + 1, _, hfc, ⟨by omega, by omega⟩, ⟨by omega, by omega⟩, fun s hs => ?_, rfl⟩)))
        rcases List.mem_append.1 hs with hs | hs
        · exact g2 s hs
        · rw [List.mem_singleton.1 hs]
          exact md_set hv2 hfs
    · obtain ⟨g1, g2⟩ := bl_all (ih il sh.2.2) hb h0
      refine ⟨g1, fun t ht => ?_⟩
      rw [List.mem_singleton.1 ht]
      exact .inr (.inr (.inr (.inr ⟨sh.2.2, l1, hR sh hsh, g2, rfl⟩)))
/-- The names of a made task. -/
structure NmsG (Sh : List Shd) (t : Tk) : Prop where
  vars : ∀ s ∈ t.inputs.map (·.1) ++ VS, nmOk s
  usable : ∀ hs, ∀ s ∈ usableF (t.arrays.map (·.1)) Sh hs, nmOk s
  locks : ∀ x ∈ Sh, nmOk x.2.2
theorem RS_ok {n : Nat} : ∀ s ∈ RSl n, nmOk s := by
  rcases n with _ | _ | n
  · simp [RSl]
  · intro s hs
    simp only [RSl, List.mem_singleton] at hs
    subst hs
    exact nmOk_lit (by decide +kernel)
  · intro s hs
    simp only [RSl, List.mem_cons, List.not_mem_nil, or_false] at hs
    rcases hs with rfl | rfl <;> exact nmOk_lit (by decide +kernel)
theorem nms_of {R : List ByteArray} {n : Nat} {Sh : List Shd} {nm : ByteArray} {W : Int} {t : Tk} (hR : R = RSl n) (hSh : ShG R Sh) (h : TaskG Sh nm W t) : NmsG Sh t := by
  have hshN : ∀ x ∈ Sh, nmOk x.1 ∧ nmOk x.2.2 := by
    rcases hSh with rfl | ⟨r, k, hr, _, rfl⟩
    · simp
    · intro x hx
      rw [List.mem_singleton.1 hx]
      exact ⟨nmOk_lit (s := ⟨#[98, 117, 102]⟩) (by decide +kernel), RS_ok (n := n) r (by rw [← hR]; exact List.mem_of_getElem? hr)⟩
  refine ⟨?_, ?_, fun x hx => (hshN x hx).2⟩
  · intro s hs
    rcases List.mem_append.1 hs with hs | hs
    · rw [h.inputs.2.1] at hs
      have := List.mem_of_mem_take hs
      simp only [List.mem_cons, List.not_mem_nil, or_false] at this
      rcases this with rfl | rfl <;> exact nmOk_lit (by decide +kernel)
    · simp only [List.mem_cons, List.not_mem_nil, or_false] at hs
      rcases hs with rfl | rfl | rfl <;> exact nmOk_lit (by decide +kernel)
  · intro hs s hm
    unfold usableF at hm
    rcases List.mem_append.1 hm with hm | hm
    · rcases h.arrays with e | ⟨k, _, e⟩
      · rw [e] at hm; simp at hm
      · rw [e] at hm
        simp only [List.map_cons, List.map_nil, List.mem_singleton] at hm
        subst hm
        exact nmOk_lit (by decide +kernel)
    · obtain ⟨x, hx, he⟩ := List.mem_filterMap.1 hm
      split at he
      · rw [← Option.some.inj he]
        exact (hshN x hx).1
      · cases he
theorem TaskG.md {Sh : List Shd} {nm : ByteArray} {W : Int} {t : Tk} (hN : NmsG Sh t) (h : TaskG Sh nm W t) : ∀ s ∈ t.body, mdS 4 s := by
  obtain ⟨lab, l, n, hl, hb⟩ := h.body
  obtain ⟨_, g⟩ := bl_all (StG.md hN.vars hN.usable hN.locks 3 0 E0) hl (Int.le_refl _)
  intro s hs
  rw [hb] at hs
  exact g s (List.mem_of_mem_take hs)
theorem PgG.md {T : Nat} {W : Int} {p : Pg} (h : PgG T W p) : ∀ t ∈ p.tasks, ∀ s ∈ t.body, mdS 4 s := by
  intro t ht
  obtain ⟨i, hi, rfl⟩ := List.mem_iff_getElem.1 ht
  obtain ⟨n, _, hR⟩ := h.res
  exact (h.tasks i hi).md (nms_of hR h.shared (h.tasks i hi))
end Go.Proofs.YtlniadfidfmckaaGreatDoor
end

section
namespace Go.Vc
open Go.RowKit
set_option maxHeartbeats 1000000

theorem done_first {n m : Nat} {done : Array Bool} (hsz : done.size = n) (hm : m ≤ n) (hd : ∀ j, j < n → (done.getD j true = true ↔ j < m)) : done = (List.replicate m true ++ List.replicate (n - m) false).toArray := by
  apply Array.ext
  · simp only [List.size_toArray, List.length_append, List.length_replicate]; omega
  · intro i h1 h2
    have h3 := hd i (by omega)
    rw [Array.getD_eq_getD_getElem?, Array.getElem?_eq_getElem h1, Option.getD_some] at h3
    simp only [List.getElem_toArray]
    by_cases him : i < m
    · rw [List.getElem_append_left (by simpa using him), List.getElem_replicate]
      exact h3.2 him
    · rw [List.getElem_append_right (by simpa using Nat.le_of_not_lt him), List.getElem_replicate]
      cases hdi : done[i] with
      | false => rfl
      | true => exact absurd (h3.1 hdi) him
section
variable {P : Program} [Gl P] {nt : Nat} {c : Cx P nt} {env : Env} {H Hr : List Ch} {ops : Array Oper} {Q : Exit → Act → World → Prop}
theorem jc_anyH {id n : Nat} (m m2 : Nat) (hn : ops.size = n) (hm : P.follows .mixedOrders = true) (hc : anyChkE ops m none = true) (hdn : ops.toList.all (fun o => o.dst.all (fun d => decide (d < nt))) = true)
    (h : AnyOk P nt ops H (fun env' => HP c ops Q (Keep []) m2 (n - m) (List.replicate m true ++ List.replicate (n - m) false).toArray env' H) (ops.toList.take m) env) : JC c (.region id ops true) Q env H := by
  subst hn
  have hmle : m ≤ ops.size := by
    have hc := hc
    unfold anyChkE at hc
    rw [Bool.and_eq_true, Bool.and_eq_true] at hc
    simpa using hc.1.1
  refine any_coreW (F := fun a w => anyX P .any ops Q (Keep []) m2 (ops.size - m) (List.replicate m true ++ List.replicate (ops.size - m) false).toArray a w) m none [] (.inl rfl) rfl rfl (fun done a w hsz hd hF => ?_) hm hc hdn ?_
  · rw [done_first hsz hmle hd]
    exact any_of_x _ _ _ _ hF
  · have e : (fun env' => HP c ops Q (Keep []) m2 (ops.size - m) (List.replicate m true ++ List.replicate (ops.size - m) false).toArray env' H) = fun env' => AFinW c ops (fun a w => anyX P .any ops Q (Keep []) m2 (ops.size - m) (List.replicate m true ++ List.replicate (ops.size - m) false).toArray a w) H env' none := by
      funext env'
      apply propext
      constructor
      · intro h a w hs
        exact h a w hs (by intro p hp; cases hp)
      · intro h a w hs _
        exact h a w hs
    rw [e] at h
    exact h
theorem hok_nilCheckInn {Sw : World → Prop} {d : Option Tmp} {x : Operand} {ty : TypeId} {pos : String} {af : Array Edge} {v : Value} {o : Nat} (hx : env.ev x = some (.cell (.inn v o))) : HOk c Sw env H ⟨d, .nilCheck x, ty, pos, af, none⟩ (.cell (.inn v o)) :=
  fun _ _ h _ => by
    obtain ⟨b, n, cap, hv, hxe⟩ := ev_ok h hx
    exact ⟨.pointer (some ⟨b, o, none⟩), fun _ _ => by simp [execOp, hxe], b, n, cap, hv, rfl⟩
theorem hok_fieldAddrInn {Sw : World → Prop} {d : Option Tmp} {x : Operand} {t ty : TypeId} {pos : String} {af : Array Edge} {v : Value} {o f off size : Nat} [TI P t] [TS P t] (hs : structB (TI.u P t) = true) (hx : env.ev x = some (.cell (.inn v o))) (hf : (TS.pl P t)[f]? = some (off, size)) (hz : 0 < size) : HOk c Sw env H ⟨d, .fieldAddr t x f, ty, pos, af, none⟩ (.cell (.inn v (o + off))) :=
  fun _ _ h _ => by
    obtain ⟨b, n, cap, hv, hxe⟩ := ev_ok h hx
    exact ⟨.pointer (some ⟨b, o + off, none⟩), fun _ _ => by simp only [execOp, hxe, Sem.run_bind, run_fieldAt t hs hf hz, Result.andThen_ok, Sem.run_pure], b, n, cap, hv, rfl⟩
/-- A weaker account of the elements of a slice of one's own. -/
theorem st_rows {a : Act} {w : World} {j : Nat} {v : Value} {e : TypeId} {k : Nat} {rows rows' : List (List C)} (h : St c env H a w) (hp : pick [j] H = some ([.own v e k rows], Hr)) (hr : RowsLe rows rows') : St c env (.own v e k rows' :: Hr) a w := by
  obtain ⟨vs, g1, g2, g3⟩ := h.heap.ok (.own v e k rows) ((pick_perm hp).mem_iff.2 (by simp))
  exact st_chg h hp rfl ⟨vs, by rw [hr.len]; exact g1, hr.rd g2, g3⟩
theorem jq_rows {ex : Exit} (j : Nat) {v : Value} {e : TypeId} {k : Nat} {rows : List (List C)} (rows' : List (List C)) (hp : pick [j] H = some ([.own v e k rows], Hr)) (hr : RowsLe rows rows') (h : JQ c Q ex env (.own v e k rows' :: Hr)) : JQ c Q ex env H := fun a w hs => h a w (st_rows hs hp hr)
theorem RowsLe.map {α : Type _} {f g : α → List C} (h : ∀ a, RowLe (f a) (g a)) : ∀ l : List α, RowsLe (l.map f) (l.map g)
  | [] => RowsLe.nil
  | a :: l => .cons (h a) (RowsLe.map h l)
end
end Go.Vc
end
