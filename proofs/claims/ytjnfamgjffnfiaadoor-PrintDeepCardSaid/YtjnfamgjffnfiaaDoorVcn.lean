import Derived.Test.YtjnfamgjffnfiaaDoorVcm
import Derived.OrdersHeld
namespace Go.Vc
open Go.RowKit

/-! A region whose order is drawn, where some operations only look at blocks that nobody in it turns: those are taken first; the others come one by one. -/
def Keep (L : List (Nat × List Value × TypeId)) (w : World) : Prop := ∀ p ∈ L, w.heap[p.1]? = some (.cells p.2.1.toArray p.2.2 (0, 0))
theorem rdRow_vals {w : World} {A : Nat → Prop} : ∀ {vs cs : List Value}, RdRow w A (vs.map C.val) cs → cs = vs
  | [], _, h => h
  | v :: vs, _, h => by
    obtain ⟨x, r, rfl, g1, g2⟩ := h
    rw [g1.1, rdRow_vals g2]
theorem rdRow_exact {w w' : World} {A A' : Nat → Prop} {row : List C} {cs : List Value} (h : RdRow w A row cs) : RdRow w' A' (cs.map C.val) cs := by
  have h1 := rdRow_one h
  clear h
  induction cs with
  | nil => rfl
  | cons v vs ih => exact ⟨v, vs, rfl, ⟨rfl, h1 v (by simp)⟩, ih (fun u hu => h1 u (by simp [hu]))⟩

section
variable {P : Program} [Gl P] {nt : Nat} {c : Cx P nt} {env : Env} {H Hr : List Ch} {ops : Array Oper} {Q : Exit → Act → World → Prop} {Sw : World → Prop} {L : List (Nat × List Value × TypeId)}
variable {fuel : Nat} {listed : Array Bool} {d ty t t' : TypeId} {pos : String} {af : Array Edge} {x y : Operand}

def HL (c : Cx P nt) (ops : Array Oper) (Q : Exit → Act → World → Prop) (Sw : World → Prop) (fuel : Nat) (listed : Array Bool) (env : Env) (H : List Ch) : Prop :=
  ∀ a w, St c env H a w → Sw w → wpAnyH P .any ops (np Q) Sw fuel listed a w
def HOk (c : Cx P nt) (Sw : World → Prop) (env : Env) (H : List Ch) (o : Oper) (s : S) : Prop :=
  ∀ a w, St c env H a w → Sw w → ∃ v, (∀ w', Sw w' → (execOp a.eval o).run P w' = .ok (.value v) w') ∧ SOk w (c.av H) s v

theorem hl_take {i : Nat} {op : Op} {s : S} (hi : ops[i]? = some ⟨some d, op, ty, pos, af, none⟩) (hs : Region.noSelect ops = true) (hf : Region.free .any ops listed i = true) (hr : (Region.ready .any ops listed).contains i = true) (hd : d < nt)
    (hop : HOk c Sw env H ⟨some d, op, ty, pos, af, none⟩ s) (h : HL c ops Q Sw fuel (listed.setIfInBounds i true) ((d, s) :: env) H) : HL c ops Q Sw (fuel + 1) listed env H := by
  intro a w hst hS
  obtain ⟨v, h1, h2⟩ := hop a w hst hS
  exact wpAnyH_take hi hs hf hr (fun _ _ _ h => h.elim) (.inl ⟨rfl, h1⟩) hS (h _ _ (hst.next hd hst.heap h2 (fun _ _ h => h)) hS)
theorem hl_op {i : Nat} {op : Op} (hi : ops[i]? = some ⟨some d, op, ty, pos, af, none⟩) (hr : Region.ready .any ops listed = [i]) (hd : d < nt)
    (h : OpWp c ⟨some d, op, ty, pos, af, none⟩ env H (fun s H' => (∀ w, StW c H' w → Sw w) ∧ HL c ops Q Sw fuel (listed.setIfInBounds i true) ((d, s) :: env) H')) : HL c ops Q Sw (fuel + 1) listed env H := by
  intro a w hst hS
  refine wpAnyH_all hr (by simp) (fun j hj => ?_)
  obtain rfl : j = i := by simpa using hj
  unfold wpOp
  rw [hi]
  dsimp only
  rw [if_pos (show Region.wanted _ _ = true from rfl)]
  refine .inl (h a w hst _ _ ?_)
  intro s H' v w' hK hw' hv hk
  exact ⟨hK.1 _ hw', hK.2 _ _ (hst.next hd hw' hv hk) (hK.1 _ hw')⟩
theorem hl_op0 {i : Nat} {op : Op} (hi : ops[i]? = some ⟨none, op, ty, pos, af, none⟩) (hr : Region.ready .any ops listed = [i])
    (h : OpWp c ⟨none, op, ty, pos, af, none⟩ env H (fun _ H' => (∀ w, StW c H' w → Sw w) ∧ HL c ops Q Sw fuel (listed.setIfInBounds i true) env H')) : HL c ops Q Sw (fuel + 1) listed env H := by
  intro a w hst hS
  refine wpAnyH_all hr (by simp) (fun j hj => ?_)
  obtain rfl : j = i := by simpa using hj
  unfold wpOp
  rw [hi]
  dsimp only
  rw [if_pos (show Region.wanted _ _ = true from rfl)]
  refine .inl (h a w hst _ _ ?_)
  intro s H' v w' hK hw' hv hk
  exact ⟨hK.1 _ hw', hK.2 _ _ (hst.next0 hw' hk) (hK.1 _ hw')⟩
theorem hl_done (hr : Region.ready .any ops listed = []) (h : JQ c Q .normal env H) : HL c ops Q Sw fuel listed env H :=
  fun a w hst _ => wpAnyH_done (Q := np Q) hr (show np Q .normal a w from h a w hst) fuel
theorem hl_exact {b : Nat} {bt : TypeId} {row : List C} {cs : List Value} (j : Nat) (hp : pick [j] H = some ([.blk b bt row], Hr)) (hm : (b, cs, bt) ∈ L) (h : HL c ops Q (Keep L) fuel listed env (.blk b bt (cs.map C.val) :: Hr)) : HL c ops Q (Keep L) fuel listed env H := by
  intro a w hst hS
  obtain ⟨cs', g1, g2⟩ := blk_ok hst hp
  have g3 := hS _ hm
  dsimp only at g3
  rw [g1] at g3
  obtain rfl : cs' = cs := by simpa using g3
  exact h a w (st_row hst hp ⟨cs', g1, rdRow_exact g2⟩) hS
theorem hl_freeze (i j : Nat) {v : Value} {e : TypeId} {k : Nat} {rows : List (List C)} (hi : env.lookup i = some (.cell (.val v))) (hp : pick [j] H = some ([.own v e k rows], Hr)) (hX : ∀ b ∈ c.X, b ∈ hb Hr)
    (h : HL c ops Q Sw fuel listed ((i, .cell (.list rows)) :: env) Hr) : HL c ops Q Sw fuel listed env H := fun a w hs hS => h a w (st_freeze hs hi hp hX) hS
/-- What stands in H still stands. -/
theorem keep_of (h : ∀ p ∈ L, Ch.blk p.1 p.2.2 (p.2.1.map C.val) ∈ H) : ∀ w, StW c H w → Keep L w := by
  intro w hw p hp
  obtain ⟨cs, g1, g2⟩ := hw.ok _ (h p hp)
  rw [rdRow_vals g2] at g1
  exact g1
theorem keep_of2 {b1 b2 : Nat} {t1 t2 : TypeId} {cs1 cs2 : List Value} (h1 : Ch.blk b1 t1 (cs1.map C.val) ∈ H) (h2 : Ch.blk b2 t2 (cs2.map C.val) ∈ H) : ∀ w, StW c H w → Keep [(b1, cs1, t1), (b2, cs2, t2)] w :=
  keep_of (fun p hp => by
    rcases List.mem_cons.1 hp with rfl | hp
    · exact h1
    · obtain rfl := List.mem_singleton.1 hp
      exact h2)
theorem jc_held2 {id n : Nat} (hn : ops.size = n) {b1 b2 : Nat} {t1 t2 : TypeId} {r1 r2 : List C} (j1 j2 : Nat) (hm : P.follows .mixedOrders = true) (hp : pick [j1, j2] H = some ([.blk b1 t1 r1, .blk b2 t2 r2], Hr))
    (h : ∀ cs1 cs2 : List Value, HL c ops Q (Keep [(b1, cs1, t1), (b2, cs2, t2)]) n (Array.replicate n false) env H) : JC c (.region id ops true) Q env H := by
  subst hn
  intro a w hs
  have e1 := hs.heap.ok (.blk b1 t1 r1) ((pick_perm hp).mem_iff.2 (by simp))
  have e2 := hs.heap.ok (.blk b2 t2 r2) ((pick_perm hp).mem_iff.2 (by simp))
  obtain ⟨cs1, g1, _⟩ := e1
  obtain ⟨cs2, g2, _⟩ := e2
  have hw : (Code.region id ops true).wp P (np Q) a w := by
    refine wp_region_held (S := Keep [(b1, cs1, t1), (b2, cs2, t2)]) hm ?_
    obtain ⟨d1, d2⟩ := stw_drew hs.heap
    refine h cs1 cs2 a _ ⟨hs.size, hs.defers, fun t s hl => d2 _ _ (hs.slots t s hl), d1⟩ ?_
    intro p hp
    rcases List.mem_cons.1 hp with rfl | hp
    · exact g1
    · obtain rfl := List.mem_singleton.1 hp
      exact g2
  refine Code.wp_mono ?_ hw
  intro e a w hq
  cases e with
  | panic ch => exact hq.elim
  | _ => exact hq

theorem hok_move {d : Option Tmp} {s : S} (hx : env.ev x = some s) : HOk c Sw env H ⟨d, .move x, ty, pos, af, none⟩ s :=
  fun a _ hst _ => ⟨a.eval x, fun _ _ => rfl, ev_ok hst hx⟩
theorem hok_mul {d : Option Tmp} {m n : Int} (hx : env.ev x = some (In .i64 m)) (hy : env.ev y = some (In .i64 n)) (hb : -9223372036854775808 ≤ m * n ∧ m * n ≤ 9223372036854775807) : HOk c Sw env H ⟨d, .binOp .mul t x y t', ty, pos, af, none⟩ (In .i64 (m * n)) :=
  fun _ _ hst _ => ⟨.int .i64 (m * n), fun _ _ => by simp [execOp, ev_val hst hx, ev_val hst hy, eqGuard, binOp, Op.intArith, IntWalk.i64_in _ hb], rfl, rfl⟩
theorem hok_add {d : Option Tmp} {m n : Int} (hx : env.ev x = some (In .i64 m)) (hy : env.ev y = some (In .i64 n)) (hb : -9223372036854775808 ≤ m + n ∧ m + n ≤ 9223372036854775807) : HOk c Sw env H ⟨d, .binOp .add t x y t', ty, pos, af, none⟩ (In .i64 (m + n)) :=
  fun _ _ hst _ => ⟨.int .i64 (m + n), fun _ _ => by simp [execOp, ev_val hst hx, ev_val hst hy, eqGuard, binOp, Op.intArith, IntWalk.i64_in _ hb], rfl, rfl⟩
theorem hok_extract {d : Option Tmp} {l : List S} {i : Nat} {s : S} (hx : env.ev x = some (.tup l)) (hi : l[i]? = some s) : HOk c Sw env H ⟨d, .extract x i, ty, pos, af, none⟩ s :=
  fun _ _ h _ => by
    obtain ⟨vs, he, hs⟩ := ev_ok h hx
    obtain ⟨v, hv, hr⟩ := soks_get hs hi
    have hv' : vs.toArray[i]? = some v := by simpa using hv
    exact ⟨v, fun _ _ => by simp only [execOp, he, Instr.extract, hv', Sem.run_bind, Sem.run_pure, Result.andThen_ok], hr⟩
theorem hok_fieldAddr {d : Option Tmp} {b o f off size : Nat} [TI P t] [TS P t] (hs : structB (TI.u P t) = true) (hx : env.ev x = some (.cell (.val (.pointer (some ⟨b, o, none⟩))))) (hf : (TS.pl P t)[f]? = some (off, size)) (hz : 0 < size) :
    HOk c Sw env H ⟨d, .fieldAddr t x f, ty, pos, af, none⟩ (.cell (.val (.pointer (some ⟨b, o + off, none⟩)))) :=
  fun _ _ hst _ => ⟨.pointer (some ⟨b, o + off, none⟩), fun _ _ => by simp only [execOp, ev_val hst hx, Sem.run_bind, run_fieldAt t hs hf hz, Result.andThen_ok, Sem.run_pure], rfl, rfl⟩
theorem blk_keep {a : Act} {w : World} {b : Nat} {bt : TypeId} {row : List C} {cs : List Value} {is : List Nat} (hst : St c env H a w) (hp : pick is H = some ([.blk b bt row], Hr)) (hS : Keep L w) (hm : (b, cs, bt) ∈ L) : RdRow w (c.av H) row cs := by
  obtain ⟨cs', g1, g2⟩ := blk_ok hst hp
  have g3 := hS _ hm
  dsimp only at g3
  rw [g1] at g3
  obtain rfl : cs' = cs := by simpa using g3
  exact g2
theorem hok_load {d : Option Tmp} {b o : Nat} {row : List C} {e : C} {bt : TypeId} {cs : List Value} [TI P t] (j : Nat) (ha : aggB (TI.u P t) = false) (hx : env.ev x = some (.cell (.val (.pointer (some ⟨b, o, none⟩))))) (hp : pick [j] H = some ([.blk b bt row], Hr))
    (hm : (b, cs, bt) ∈ L) (he : row[o]? = some e) : HOk c (Keep L) env H ⟨d, .load t x, ty, pos, af, none⟩ (.cell e) :=
  fun _ _ hst hS => by
    obtain ⟨v, hv, hrd⟩ := rdRow_get (blk_keep hst hp hS hm) he
    refine ⟨v, fun w' hS' => ?_, hrd⟩
    have hh := hS' _ hm
    simp only [execOp, ev_val hst hx, Instr.loadAt, Instr.sureAddr, Sem.run_bind, Sem.run_pure, Result.andThen_ok, run_loadVar1 t ha (show w'.cell? ⟨b, o, none⟩ = some v by simp [World.cell?, hh, hv])]
theorem hok_loadAll {d : Option Tmp} {b : Nat} {row : List C} {bt : TypeId} {cs : List Value} [TI P t] (j : Nat) (ha : aggB (TI.u P t) = true) (hx : env.ev x = some (.cell (.val (.pointer (some ⟨b, 0, none⟩))))) (hp : pick [j] H = some ([.blk b bt row], Hr))
    (hm : (b, cs, bt) ∈ L) (hz : (TI.i P t).size = row.length) : HOk c (Keep L) env H ⟨d, .load t x, ty, pos, af, none⟩ (.row row) :=
  fun _ _ hst hS => by
    have hrd := blk_keep hst hp hS hm
    refine ⟨.agg cs.toArray, fun w' hS' => ?_, cs.toArray, rfl, by simpa using hrd⟩
    have hh := hS' _ hm
    simp only [execOp, ev_val hst hx, Instr.loadAt, Instr.sureAddr, Sem.run_bind, Sem.run_pure, Result.andThen_ok, run_loadVarN t ha (hz.trans (rdRow_length hrd).symm) (cells_of_blk hh 0)]
end
end Go.Vc
