import Derived.Test.YtjnfamgjffnfiaaDoorVc3
namespace Go.Vc
open Go.RowKit

section
variable {P : Program} [Gl P] {nt : Nat} {c : Cx P nt} {env : Env} {H : List Ch} {K : S → List Ch → Prop}
variable {d : Option Tmp} {ty t t' : TypeId} {pos : String} {af : Array Edge} {g : Option (Nat × Bool)} {x y : Operand}

theorem hb_app (X Y : List Ch) : hb (X ++ Y) = hb X ++ hb Y := by simp [hb]

/-- The cells of a slot's value. -/
def S.cells : S → Option (List C)
  | .cell c => some [c]
  | .row r => some r
  | _ => none

theorem cells_ok {w : World} {A : Nat → Prop} {s : S} {v : Value} {r : List C} (h : SOk w A s v) (hr : s.cells = some r) : RdRow w A r v.cells.toList := by
  cases s with
  | cell c1 =>
    simp only [S.cells, Option.some.injEq] at hr
    subst hr
    have h : Rd1 w A c1 v := h
    rw [cells_one (rd1_one _ _ h)]
    exact ⟨v, [], rfl, h, rfl⟩
  | row r' =>
    simp only [S.cells, Option.some.injEq] at hr
    subst hr
    obtain ⟨cs, rfl, h⟩ := h
    exact h
  | _ => simp [S.cells] at hr

/-! Stores -/
theorem setRow_grow (w : World) (b : Nat) (cs : Array Value) : Grow [b] w (w.setRow b cs) :=
  ⟨rfl, rfl, rfl, by simp, fun k _ hX => setRow_other w b k cs (by simpa using hX)⟩

theorem stw_store {w : World} {b : Nat} {bt : TypeId} {row row' : List C} {cs cs' : List Value} {Hr : List Ch} (h : StW c (.blk b bt row :: Hr) w) (hh : w.heap[b]? = some (.cells cs.toArray bt (0, 0))) (hr : RdRow w (c.av (.blk b bt row :: Hr)) row' cs') :
    StW c (.blk b bt row' :: Hr) (w.setRow b cs'.toArray) ∧ (∀ s v, SOk w (c.av (.blk b bt row :: Hr)) s v → SOk (w.setRow b cs'.toArray) (c.av (.blk b bt row' :: Hr)) s v) := by
  have hg : Grow (hb [.blk b bt row]) w (w.setRow b cs'.toArray) := setRow_grow w b _
  refine StW.step (H1 := [.blk b bt row]) (H1' := [.blk b bt row']) h hg (by simp [hb, Ch.bs]) (by simp [hb, Ch.bs]) ?_
  intro ch hch
  simp only [List.mem_singleton] at hch
  subst hch
  refine ⟨cs', setRow_heap w b _ _ bt _ hh, ?_⟩
  refine rdRow_up (A := c.av (.blk b bt row :: Hr)) (hg.up ?_) ?_ row' cs' hr
  · intro b' hb'
    exact .inr (List.mem_append.2 (.inl hb'))
  · intro b' hb'
    exact .inl hb'

theorem ow_storeN {b o : Nat} {row r row' : List C} {s : S} {bt : TypeId} {Hr : List Ch} [TI P t] (j : Nat) (hx : env.ev x = some (.cell (.val (.pointer (some ⟨b, o, none⟩))))) (hy : env.ev y = some s) (hs : s.cells = some r) (hp : pick [j] H = some ([.blk b bt row], Hr))
    (hz : (TI.i P t).size = r.length) (hlen : o + r.length ≤ row.length) (hrow : row.take o ++ r ++ row.drop (o + r.length) = row') (hK : K .void (.blk b bt row' :: Hr)) : OpWp c ⟨d, .store t x y, ty, pos, af, g⟩ env H K := by
  intro a w h next Q hn
  have h' : StW c (.blk b bt row :: Hr) w := h.heap.perm (pick_perm hp)
  have hav : c.av (.blk b bt row :: Hr) = c.av H := av_perm c (pick_perm hp)
  obtain ⟨cs, hh, hr⟩ := blk_ok h hp
  have hcv := cells_ok (ev_ok h hy) hs
  have hlr := rdRow_length hr
  have hlv := rdRow_length hcv
  have hst := run_storeCells_at P b o bt (a.eval y).cells.toList 0 cs.toArray w hh (by simp only [Nat.add_zero, hlv, List.size_toArray]; omega) (rdRow_one hcv)
  simp only [Nat.add_zero] at hst
  have hrun : (execOp a.eval ⟨d, .store t x y, ty, pos, af, g⟩).run P w = .ok .skip (w.setRow b (cs.take o ++ (a.eval y).cells.toList ++ cs.drop (o + r.length)).toArray) := by
    have hsz : ¬ (a.eval y).cells.size ≠ (TI.i P t).size := by rw [hz, ← hlv]; simp
    simp only [execOp, ev_val h hx, Instr.storeAt, Instr.sureAddr, storeVar, Sem.run_bind, Sem.run_pure, Result.andThen_ok, run_sizeOf, if_neg hsz, hst]
    simp [hlv]
  have hnew : RdRow w (c.av (.blk b bt row :: Hr)) row' (cs.take o ++ (a.eval y).cells.toList ++ cs.drop (o + r.length)) := by
    subst hrow
    rw [hav]
    exact rdRow_append (rdRow_append (rdRow_take o hr) hcv) (rdRow_drop _ hr)
  obtain ⟨g1, g2⟩ := stw_store h' hh hnew
  unfold Oper.wp
  rw [hrun]
  exact hn .void _ undef _ hK g1 trivial (fun s v hs => g2 s v (by rw [hav]; exact hs))

theorem ow_storeAll {b : Nat} {row r : List C} {s : S} {bt : TypeId} {Hr : List Ch} [TI P t] (j : Nat) (hx : env.ev x = some (.cell (.val (.pointer (some ⟨b, 0, none⟩))))) (hy : env.ev y = some s) (hs : s.cells = some r) (hp : pick [j] H = some ([.blk b bt row], Hr))
    (hz : (TI.i P t).size = r.length) (hlen : row.length = r.length) (hK : K .void (.blk b bt r :: Hr)) : OpWp c ⟨d, .store t x y, ty, pos, af, g⟩ env H K :=
  ow_storeN j hx hy hs hp hz (by omega) (by simp [← hlen]) hK
theorem ow_store1 {b o : Nat} {row : List C} {c1 : C} {bt : TypeId} {Hr : List Ch} [TI P t] (j : Nat) (hx : env.ev x = some (.cell (.val (.pointer (some ⟨b, o, none⟩))))) (hy : env.ev y = some (.cell c1)) (hp : pick [j] H = some ([.blk b bt row], Hr))
    (hz : (TI.i P t).size = 1) (hlen : o < row.length) (hK : K .void (.blk b bt (row.set o c1) :: Hr)) : OpWp c ⟨d, .store t x y, ty, pos, af, g⟩ env H K :=
  ow_storeN (r := [c1]) j hx hy rfl hp hz hlen (by rw [List.set_eq_take_append_cons_drop]; simp [hlen]) hK

/-! Struct and slice literals -/
def fillC (pl : Array (Nat × Nat)) : List C → List (Nat × S) → Option (List C)
  | row, [] => some row
  | row, (i, s) :: rest =>
    match pl[i]?, s.cells with
    | some (off, size), some r => if r.length = size ∧ off + size ≤ row.length then fillC pl (row.take off ++ r ++ row.drop (off + size)) rest else none
    | _, _ => none

theorem foldl_set (off : Nat) : ∀ (l : List Value) (j : Nat) (cs : Array Value), off + j + l.length ≤ cs.size →
    (l.zipIdx j).foldl (fun cs (x : Value × Nat) => cs.setIfInBounds (off + x.2) x.1) cs = (cs.toList.take (off + j) ++ l ++ cs.toList.drop (off + j + l.length)).toArray
  | [], j, cs, _ => by simp
  | v :: l, j, cs, h => by
    simp only [List.length_cons] at h
    simp only [List.zipIdx_cons, List.foldl_cons]
    rw [foldl_set off l (j + 1) _ (by simp; omega)]
    apply Array.ext'
    simp only [Array.toList_setIfInBounds]
    have hlt : off + j < cs.toList.length := by simp; omega
    rw [show off + (j + 1) = off + j + 1 by omega, List.take_succ_eq_append_getElem (by simpa using hlt)]
    simp only [List.length_cons]
    rw [List.take_set_of_le (by omega), List.drop_set_of_lt (by omega)]
    simp only [List.getElem_set_self, List.append_assoc, List.cons_append, List.nil_append]
    rw [show off + j + 1 + l.length = off + j + (l.length + 1) by omega]

theorem foldl_set' (off : Nat) (vs : Array Value) (cs : Array Value) (h : off + vs.size ≤ cs.size) :
    vs.zipIdx.foldl (fun cs (x : Value × Nat) => cs.setIfInBounds (off + x.2) x.1) cs = (cs.toList.take off ++ vs.toList ++ cs.toList.drop (off + vs.size)).toArray := by
  have := foldl_set off vs.toList 0 cs (by simpa using h)
  simp only [Nat.add_zero, Array.length_toList] at this
  rw [← this, ← Array.foldl_toList]
  simp

def Parts (w : World) (A : Nat → Prop) : List (Nat × S) → List (Nat × Value) → Prop
  | [], vs => vs = []
  | (i, s) :: r, vs => ∃ v vr, vs = (i, v) :: vr ∧ SOk w A s v ∧ Parts w A r vr

theorem fill_ok {w : World} {A : Nat → Prop} {pl : Array (Nat × Nat)} : ∀ {ps : List (Nat × S)} {vs : List (Nat × Value)} {row row' : List C} {cs : List Value}, Parts w A ps vs → RdRow w A row cs → fillC pl row ps = some row' →
    ∃ cs' : List Value, Instr.fill (pl[·]?) cs.toArray vs = some cs'.toArray ∧ RdRow w A row' cs'
  | [], _, row, row', cs, hp, hr, hf => by
    simp only [Parts] at hp
    subst hp
    simp only [fillC, Option.some.injEq] at hf
    subst hf
    exact ⟨cs, rfl, hr⟩
  | (i, s) :: ps, _, row, row', cs, hp, hr, hf => by
    obtain ⟨v, vr, rfl, hv, hp⟩ := hp
    simp only [fillC] at hf
    split at hf
    · rename_i off size r h1 h2
      split at hf
      · rename_i hle
        obtain ⟨hrl, hle⟩ := hle
        have hc := cells_ok hv h2
        have hl := rdRow_length hc
        simp only [Array.length_toList] at hl
        have hl2 := rdRow_length hr
        obtain ⟨cs', g1, g2⟩ := fill_ok hp (rdRow_append (rdRow_append (rdRow_take off hr) hc) (rdRow_drop (off + size) hr)) hf
        refine ⟨cs', ?_, g2⟩
        simp only [Instr.fill, h1]
        have hn : ¬ (v.cells.size ≠ size || off + v.cells.size > cs.toArray.size) = true := by
          simp only [List.size_toArray, ne_eq, gt_iff_lt, Bool.or_eq_true, decide_eq_true_eq, not_or, Decidable.not_not]
          omega
        rw [if_neg hn, foldl_set' off v.cells cs.toArray (by simp only [List.size_toArray]; omega)]
        rw [show v.cells.size = size by omega]
        exact g1
      · cases hf
    · cases hf

def Env.parts (env : Env) : List (Nat × Operand) → Option (List (Nat × S))
  | [] => some []
  | (i, x) :: r => match env.ev x, Env.parts env r with
    | some s, some ss => some ((i, s) :: ss)
    | _, _ => none

theorem parts_ok {a : Act} {w : World} (h : St c env H a w) : ∀ {ps : List (Nat × Operand)} {ss : List (Nat × S)}, env.parts ps = some ss → Parts w (c.av H) ss (ps.map fun (i, x) => (i, a.eval x))
  | [], ss, hp => by simp only [Env.parts, Option.some.injEq] at hp; subst hp; rfl
  | (i, x) :: ps, ss, hp => by
    simp only [Env.parts] at hp
    split at hp
    · rename_i s ss' h1 h2
      simp only [Option.some.injEq] at hp
      subst hp
      exact ⟨_, _, rfl, ev_ok h h1, parts_ok h h2⟩
    · cases hp

theorem ow_build [TI P t] [TS P t] (hs : structB (TI.u P t) = true) {z : Value} (hz : (TI.i P t).zero = some z) (h1 : z.cells.toList.all Value.oneCell' = true) {ps : Array (Nat × Operand)} {ss : List (Nat × S)} (hp : env.parts ps.toList = some ss) {row : List C}
    (hf : fillC (TS.pl P t) (zeroRow z) ss = some row) (hK : K (.row row) H) : OpWp c ⟨d, .build t ps, ty, pos, af, g⟩ env H K :=
  ow_val (s := .row row) (fun a w h => by
    obtain ⟨cs, g1, g2⟩ := fill_ok (parts_ok h hp) (rdRow_zero _ (List.all_eq_true.1 h1)) hf
    refine ⟨.agg cs.toArray, ?_, cs.toArray, rfl, by simpa using g2⟩
    simp only [Array.toArray_toList] at g1
    simp only [execOp, Instr.build, Sem.run_bind, run_zeroValue t hz, run_fields t hs, Result.andThen_ok, TS.hpl, Array.toList_map, g1, Sem.run_pure]) hK

/-- A slice literal, each of whose elements is written out, in order. -/
def sliceRows (size : Nat) : Nat → List (Nat × S) → Option (List (List C))
  | _, [] => some []
  | n, (i, s) :: r => match s.cells with
    | some row => if i = n ∧ row.length = size then (sliceRows size (n + 1) r).map (row :: ·) else none
    | none => none

theorem fill_rows {w : World} {A : Nat → Prop} {size : Nat} : ∀ {ps : List (Nat × S)} {vs : List (Nat × Value)} {n : Nat} {rows : List (List C)} {pre post : List Value}, Parts w A ps vs → sliceRows size n ps = some rows → pre.length = n * size → post.length = rows.length * size →
    ∃ cs : List Value, Instr.fill (fun i => some (i * size, size)) (pre ++ post).toArray vs = some (pre ++ cs).toArray ∧ RdRows w A size rows cs
  | [], _, n, rows, pre, post, hp, hs, h1, h2 => by
    simp only [Parts] at hp
    subst hp
    simp only [sliceRows, Option.some.injEq] at hs
    subst hs
    have : post = [] := List.eq_nil_of_length_eq_zero (by simpa using h2)
    subst this
    exact ⟨[], rfl, rfl⟩
  | (i, s) :: ps, _, n, rows, pre, post, hp, hs, h1, h2 => by
    obtain ⟨v, vr, rfl, hv, hp⟩ := hp
    simp only [sliceRows] at hs
    split at hs
    · rename_i row hc
      split at hs
      · rename_i hi
        obtain ⟨rfl, hrl⟩ := hi
        obtain ⟨rows', hs', rfl⟩ := Option.map_eq_some_iff.1 hs
        have hcv := cells_ok hv hc
        have hl := rdRow_length hcv
        simp only [Array.length_toList] at hl
        simp only [List.length_cons, Nat.add_mul, Nat.one_mul] at h2
        obtain ⟨cs, g1, g2⟩ := fill_rows (pre := pre ++ v.cells.toList) (post := post.drop size) hp hs' (by simp [h1, Nat.add_mul]; omega) (by simp [h2])
        refine ⟨v.cells.toList ++ cs, ?_, v.cells.toList, cs, rfl, by simp; omega, hcv, g2⟩
        simp only [Instr.fill]
        have hn : ¬ (v.cells.size ≠ size || i * size + v.cells.size > (pre ++ post).toArray.size) = true := by
          simp only [List.size_toArray, List.length_append, ne_eq, gt_iff_lt, Bool.or_eq_true, decide_eq_true_eq, not_or, Decidable.not_not]
          omega
        rw [if_neg hn, foldl_set' (i * size) v.cells (pre ++ post).toArray (by simp only [List.size_toArray, List.length_append]; omega)]
        rw [← List.append_assoc, ← g1]
        congr 2
        rw [← h1]
        simp only [List.take_left']
        rw [List.drop_append]
        simp [show v.cells.size = size by omega]
      · cases hs
    · cases hs

omit [Gl P] in
theorem run_buildSlice [SL P t] {z : Value} (hz : (TI.i P (SL.e P t)).zero = some z) {w : World} {A : Nat → Prop} {size len : Nat} (hsz : (TI.i P (SL.e P t)).size = size) {ps : List (Nat × S)} {vs : List (Nat × Value)} {rows : List (List C)}
    (hp : Parts w A ps vs) (hs : sliceRows size 0 ps = some rows) (hl : rows.length = len) (hlim : len * size ≤ 16777216) :
    ∃ cs : List Value, (Instr.buildSlice t len vs.toArray).run P w = .ok (.slice (some ⟨w.heap.size, 0, none⟩) len len) (w.alloc (.cells cs.toArray (SL.e P t))) ∧ RdRows w A size rows cs := by
  subst hl
  have hpost : ∀ zz : Array Value, ((Array.range (rows.length * size)).map fun i => zz[i % zz.size]!).toList.length = rows.length * size := by intro zz; simp
  have hng : ¬ rows.length * size > 2 ^ 24 := by omega
  have key : ∀ zz : Array Value, ∃ cs : List Value, Instr.fill (fun i => some (i * size, size)) ((Array.range (rows.length * size)).map fun i => zz[i % zz.size]!) vs = some cs.toArray ∧ RdRows w A size rows cs := by
    intro zz
    obtain ⟨cs, g1, g2⟩ := fill_rows (pre := []) (post := ((Array.range (rows.length * size)).map fun i => zz[i % zz.size]!).toList) hp hs (by simp) (hpost zz)
    simp only [List.nil_append, Array.toArray_toList] at g1
    exact ⟨cs, g1, g2⟩
  by_cases h0 : rows.length * size = 0
  · obtain ⟨cs, g1, g2⟩ := key #[]
    refine ⟨cs, ?_, g2⟩
    simp only [Instr.buildSlice, Sem.run_bind, run_elem t, Result.andThen_ok, run_sizeOf, hsz, if_neg hng, if_pos h0, Sem.run_pure, g1, newRow, run_newObj, World.alloc_eq]
  · obtain ⟨cs, g1, g2⟩ := key z.cells
    refine ⟨cs, ?_, g2⟩
    simp only [Instr.buildSlice, Sem.run_bind, run_elem t, Result.andThen_ok, run_sizeOf, hsz, if_neg hng, if_neg h0, Sem.run_pure, run_zeroValue _ hz, g1, newRow, run_newObj, World.alloc_eq]

theorem rdRows_cells {w : World} {A : Nat → Prop} {k : Nat} {rows : List (List C)} {vs : List Value} {b : Nat} {e : TypeId} (h : RdRows w A k rows vs) (hk : 0 < k) (hh : w.heap[b]? = some (.cells vs.toArray e (0, 0))) (hb : ¬ A b) (cap : Nat) (h1 : rows.length ≤ cap) (h2 : cap ≤ maxLen) :
    Rd1 w A (.list rows) (.slice (some ⟨b, 0, none⟩) rows.length cap) :=
  ⟨_, cap, rfl, h1, h2, .inr ⟨b, 0, vs, k, rfl, hb, by simpa using cells_of_blk hh 0, hk, h⟩⟩

/-- As what is only read. -/
theorem ow_buildSlice [SL P t] {z : Value} (hz : (TI.i P (SL.e P t)).zero = some z) {ps : Array (Nat × Operand)} {ss : List (Nat × S)} (hp : env.parts ps.toList = some ss) {rows : List (List C)} {len : Nat}
    (hpos : 0 < (TI.i P (SL.e P t)).size) (hs : sliceRows (TI.i P (SL.e P t)).size 0 ss = some rows) (hl : rows.length = len) (hlim : len * (TI.i P (SL.e P t)).size ≤ 16777216) (hK : K (.cell (.list rows)) H) : OpWp c ⟨d, .buildSlice t len ps, ty, pos, af, g⟩ env H K := by
  intro a w h next Q hn
  obtain ⟨cs, g1, g2⟩ := run_buildSlice (P := P) (t := t) hz rfl (parts_ok h hp) hs hl hlim
  have hg : Grow (hb []) w (w.alloc (.cells cs.toArray (SL.e P t))) := ⟨rfl, rfl, rfl, by simp, fun k hk _ => Below.heap_alloc _ _ _ hk⟩
  have h' : StW c ([] ++ H) w := h.heap
  obtain ⟨s1, s2⟩ := StW.step (H1' := []) h' hg (by simp [hb]) (by simp [hb]) (by simp)
  have hav : ¬ c.av H w.heap.size := fun hx => by have := h.heap.avlt _ hx; omega
  have hr := rdRows_up (hg.up (A := c.av H) (by simp [hb])) (fun b hb => Or.inl hb) _ _ _ g2
  unfold Oper.wp
  have hrun : (execOp a.eval ⟨d, .buildSlice t len ps, ty, pos, af, g⟩).run P w = .ok (.value (.slice (some ⟨w.heap.size, 0, none⟩) len len)) (w.alloc (.cells cs.toArray (SL.e P t))) := by
    have : (ps.map fun (i, x) => (i, a.eval x)) = (ps.toList.map fun (i, x) => (i, a.eval x)).toArray := by apply Array.ext'; simp
    simp only [execOp, this, Sem.run_bind, g1, Result.andThen_ok, Sem.run_pure]
  rw [hrun]
  refine hn _ H _ _ hK s1 ?_ s2
  subst hl
  exact rdRows_cells (e := SL.e P t) hr hpos (by show (w.heap.push _)[w.heap.size]? = _; simp) hav _ (Nat.le_refl _) (by unfold maxLen; have : rows.length * 1 ≤ rows.length * (TI.i P (SL.e P t)).size := Nat.mul_le_mul_left _ hpos; omega)

/-- A slice whose block, if any, was made later. -/
def FreshN (n : Nat) (v : Value) : Prop := ∀ b, v.ownBlock = some b → n ≤ b
theorem FreshN.mono {n m : Nat} {v : Value} (h : FreshN m v) (hn : n ≤ m) : FreshN n v := fun b hb => Nat.le_trans hn (h b hb)
theorem freshN_nil {n : Nat} : FreshN n (.slice none 0 0) := fun b hb => by simp [Value.ownBlock] at hb
/-- .. since the function began. -/
def Cx.Fresh {P : Program} [Gl P] {nt : Nat} (c : Cx P nt) (v : Value) : Prop := FreshN c.B.heap.size v
theorem fresh_nil : c.Fresh (.slice none 0 0) := freshN_nil

/-- As a slice of one's own, that may grow. -/
theorem ow_buildSliceOwn [SL P t] {z : Value} (hz : (TI.i P (SL.e P t)).zero = some z) {ps : Array (Nat × Operand)} {ss : List (Nat × S)} (hp : env.parts ps.toList = some ss) {rows : List (List C)} {len : Nat}
    (hpos : 0 < (TI.i P (SL.e P t)).size) (hs : sliceRows (TI.i P (SL.e P t)).size 0 ss = some rows) (hl : rows.length = len) (hlim : len * (TI.i P (SL.e P t)).size ≤ 16777216)
    (hK : ∀ v, v.oneCell' = true → c.Fresh v → K (.cell (.val v)) (.own v (SL.e P t) (TI.i P (SL.e P t)).size rows :: H)) : OpWp c ⟨d, .buildSlice t len ps, ty, pos, af, g⟩ env H K := by
  intro a w h next Q hn
  obtain ⟨cs, g1, g2⟩ := run_buildSlice (P := P) (t := t) hz rfl (parts_ok h hp) hs hl hlim
  have hg : Grow (hb []) w (w.alloc (.cells cs.toArray (SL.e P t))) := ⟨rfl, rfl, rfl, by simp, fun k hk _ => Below.heap_alloc _ _ _ hk⟩
  have h' : StW c ([] ++ H) w := h.heap
  have hlen := rdRows_length g2
  subst hl
  have hmax : rows.length ≤ maxLen := by unfold maxLen; have : rows.length * 1 ≤ rows.length * (TI.i P (SL.e P t)).size := Nat.mul_le_mul_left _ hpos; omega
  obtain ⟨s1, s2⟩ := StW.step (H1' := [.own (.slice (some ⟨w.heap.size, 0, none⟩) rows.length rows.length) (SL.e P t) (TI.i P (SL.e P t)).size rows]) h' hg (by simp [hb, Ch.bs, Value.ownBlock]) (by simp [hb, Ch.bs, Value.ownBlock]) (by
    intro ch hch
    simp only [List.mem_singleton] at hch
    subst hch
    refine ⟨cs, ⟨hlen, .inr ⟨w.heap.size, rows.length, cs.toArray, rfl, Nat.zero_le _, by show (w.heap.push _)[w.heap.size]? = _; simp, Nat.le_refl _, hmax, by simpa using hlen, by simp [← hlen]⟩⟩, ?_, hpos⟩
    refine rdRows_up (hg.up (A := c.av H) (by simp [hb])) ?_ _ _ _ g2
    intro b hb'
    rcases hb' with hb' | hb'
    · exact .inl (.inl hb')
    · rw [hb_app] at hb'
      rcases List.mem_append.1 hb' with hb' | hb'
      · simp only [hb, Ch.bs, Value.ownBlock, List.flatMap_cons, List.flatMap_nil, List.append_nil, Option.mem_toList, Option.some.injEq] at hb'
        exact .inr (by omega)
      · exact .inl (.inr hb'))
  unfold Oper.wp
  have hrun : (execOp a.eval ⟨d, .buildSlice t rows.length ps, ty, pos, af, g⟩).run P w = .ok (.value (.slice (some ⟨w.heap.size, 0, none⟩) rows.length rows.length)) (w.alloc (.cells cs.toArray (SL.e P t))) := by
    have : (ps.map fun (i, x) => (i, a.eval x)) = (ps.toList.map fun (i, x) => (i, a.eval x)).toArray := by apply Array.ext'; simp
    simp only [execOp, this, Sem.run_bind, g1, Result.andThen_ok, Sem.run_pure]
  rw [hrun]
  exact hn _ _ _ _ (hK _ rfl (fun b hb => by simp only [Value.ownBlock, Option.some.injEq] at hb; have := h.heap.size; omega)) s1 ⟨rfl, rfl⟩ s2
end
end Go.Vc
