import Derived.Test.YtjnfamgjffnfiaaDoorVcd
import Derived.Laws.IdiomStrings
import Derived.MapKept
namespace Go.Vc
open Go.RowKit

/-- A string's byte. -/
def byteAt (s : ByteArray) (n : Nat) : Int := ((s.data.toList.getD n 0).toNat : Int)
theorem byteAt_bd (s : ByteArray) (n : Nat) : 0 ≤ byteAt s n ∧ byteAt s n ≤ 255 := by
  unfold byteAt
  have := (s.data.toList.getD n 0).toNat_lt
  omega
abbrev bytesI (s : ByteArray) : List Int := s.data.toList.map (fun b => (b.toNat : Int))
/-- Is a string one of some? -/
def hasS (ks : List ByteArray) (s : ByteArray) : Bool := ks.any fun k => decide (k = s)
theorem hasS_iff {ks : List ByteArray} {s : ByteArray} : hasS ks s = true ↔ s ∈ ks := by simp [hasS]
/-- A set of strings, as a map. -/
abbrev setE (ks : List ByteArray) : List (Value × Value) := ks.map (fun k => (Value.string k, Value.bool true))

section
variable {P : Program} [Gl P] {nt : Nat} {c : Cx P nt} {env : Env} {H : List Ch} {K : S → List Ch → Prop}
variable {d : Option Tmp} {ty t t' : TypeId} {pos : String} {af : Array Edge} {g : Option (Nat × Bool)} {x y z : Operand}

theorem ow_indexStr [TI P t] (ht : TI.u P t = .string) {s : ByteArray} {k : IntKind} {i : Int} (hx : env.ev x = some (Str s)) (hy : env.ev y = some (In k i)) (h0 : 0 ≤ i) (hlt : i.toNat < s.size) (hK : K (In .u8 (byteAt s i.toNat)) H) : OpWp c ⟨d, .index t x y, ty, pos, af, g⟩ env H K :=
  ow_valx rfl (fun a w h => by
    have hu : P.underlying t = some .string := by rw [TI.hu (P := P) (t := t), ht]
    have hb : s[i.toNat]? = some (s.data.toList[i.toNat]'(by simpa using hlt)) := by
      rw [getElem?_pos s i.toNat hlt]
      rfl
    have hv : byteAt s i.toNat = ((s.data.toList[i.toNat]'(by simpa using hlt)).toNat : Int) := by
      unfold byteAt
      rw [List.getD_eq_getElem?_getD, List.getElem?_eq_getElem (by simpa using hlt)]
      rfl
    rw [hv]
    simp only [execOp, ev_val h hx, ev_val h hy, Instr.index, asIntOf, Sem.run_bind, Sem.run_pure, Result.andThen_ok, run_underlying hu, if_pos h0, hb]) hK

omit [Gl P] in
theorem run_substr [TI P t] (ht : TI.u P t = .string) {w : World} {s : ByteArray} {lo hi : Option Value} {l r : Nat} (hlo : (lo = none ∧ l = 0) ∨ ∃ k m, lo = some (.int k m) ∧ 0 ≤ m ∧ m.toNat = l) (hhi : (hi = none ∧ r = s.size) ∨ ∃ k m, hi = some (.int k m) ∧ 0 ≤ m ∧ m.toNat = r) (hlr : l ≤ r) (hr : r ≤ s.size) :
    (Instr.sliceAt t (.string s) lo hi none).run P w = .ok (.string (s.extract l r)) w := by
  have hu : P.underlying t = some .string := by rw [TI.hu (P := P) (t := t), ht]
  have bound : ∀ (k : IntKind) (m : Int) (y : Nat) (code : BoundsCode), 0 ≤ m → m.toNat ≤ y → (Instr.sliceBound (.int k m) y code).run P w = .ok m.toNat w := by
    intro k m y code h0 h1
    have : 0 ≤ m ∧ m ≤ (y : Int) := ⟨h0, by omega⟩
    simp [Instr.sliceBound, asIntOf, this]
  rcases hlo with ⟨rfl, rfl⟩ | ⟨k, m, rfl, h0, rfl⟩ <;> rcases hhi with ⟨rfl, rfl⟩ | ⟨k', m', rfl, h0', rfl⟩
  · simp [Instr.sliceAt, Instr.slice, Instr.sliceBounds, run_underlying hu]
  · simp [Instr.sliceAt, Instr.slice, Instr.sliceBounds, run_underlying hu, bound _ m' _ _ h0' hr]
  · simp [Instr.sliceAt, Instr.slice, Instr.sliceBounds, run_underlying hu, bound _ m _ _ h0 hlr]
  · simp [Instr.sliceAt, Instr.slice, Instr.sliceBounds, run_underlying hu, bound _ m' _ _ h0' hr, bound _ m _ _ h0 hlr]

theorem ow_substrLo [TI P t] (ht : TI.u P t = .string) {s : ByteArray} {k : IntKind} {i : Int} (hx : env.ev x = some (Str s)) (hy : env.ev y = some (In k i)) (h0 : 0 ≤ i) (hle : i.toNat ≤ s.size) (hK : K (Str (s.extract i.toNat s.size)) H) : OpWp c ⟨d, .slice t x (some y) none none, ty, pos, af, g⟩ env H K :=
  ow_valx rfl (fun a w h => by
    simp only [execOp, ev_val h hx, ev_val h hy, Option.map_some, Option.map_none, Sem.run_bind, run_substr ht (.inr ⟨k, i, rfl, h0, rfl⟩) (.inl ⟨rfl, rfl⟩) hle (Nat.le_refl _), Result.andThen_ok, Sem.run_pure]) hK
theorem ow_substrHi [TI P t] (ht : TI.u P t = .string) {s : ByteArray} {k : IntKind} {i : Int} (hx : env.ev x = some (Str s)) (hy : env.ev y = some (In k i)) (h0 : 0 ≤ i) (hle : i.toNat ≤ s.size) (hK : K (Str (s.extract 0 i.toNat)) H) : OpWp c ⟨d, .slice t x none (some y) none, ty, pos, af, g⟩ env H K :=
  ow_valx rfl (fun a w h => by
    simp only [execOp, ev_val h hx, ev_val h hy, Option.map_some, Option.map_none, Sem.run_bind, run_substr ht (.inl ⟨rfl, rfl⟩) (.inr ⟨k, i, rfl, h0, rfl⟩) (Nat.zero_le _) hle, Result.andThen_ok, Sem.run_pure]) hK
theorem ow_substr [TI P t] (ht : TI.u P t = .string) {s : ByteArray} {k k' : IntKind} {i j : Int} (hx : env.ev x = some (Str s)) (hy : env.ev y = some (In k i)) (hz : env.ev z = some (In k' j)) (h0 : 0 ≤ i) (hij : i ≤ j) (hle : j.toNat ≤ s.size) (hK : K (Str (s.extract i.toNat j.toNat)) H) : OpWp c ⟨d, .slice t x (some y) (some z) none, ty, pos, af, g⟩ env H K :=
  ow_valx rfl (fun a w h => by
    simp only [execOp, ev_val h hx, ev_val h hy, ev_val h hz, Option.map_some, Option.map_none, Sem.run_bind, run_substr ht (.inr ⟨k, i, rfl, h0, rfl⟩) (.inr ⟨k', j, rfl, by omega, rfl⟩) (by omega) hle, Result.andThen_ok, Sem.run_pure]) hK

omit [Gl P] in
theorem soks_get {w : World} {A : Nat → Prop} : ∀ {ss : List S} {vs : List Value} {i : Nat} {s : S}, SOks w A ss vs → ss[i]? = some s → ∃ v, vs[i]? = some v ∧ SOk w A s v
  | [], _, _, _, _, h => by simp at h
  | s0 :: ss, vs, i, s, h, hi => by
    obtain ⟨v, r, rfl, h1, h2⟩ := h
    cases i with
    | zero => simp at hi; subst hi; exact ⟨v, by simp, h1⟩
    | succ i => simpa using soks_get h2 (by simpa using hi)
theorem ow_extract {l : List S} {i : Nat} {s : S} (hx : env.ev x = some (.tup l)) (hi : l[i]? = some s) (hK : K s H) : OpWp c ⟨d, .extract x i, ty, pos, af, g⟩ env H K :=
  ow_val (fun a w h => by
    obtain ⟨vs, he, hs⟩ := ev_ok h hx
    obtain ⟨v, hv, hr⟩ := soks_get hs hi
    have hv' : vs.toArray[i]? = some v := by simpa using hv
    exact ⟨v, by simp only [execOp, he, Instr.extract, hv', Sem.run_bind, Sem.run_pure, Result.andThen_ok], hr⟩) hK

theorem ow_subU8 {m n : Int} (hx : env.ev x = some (In .u8 m)) (hy : env.ev y = some (In .u8 n)) (hr : 0 ≤ m - n ∧ m - n ≤ 255) (hK : K (In .u8 (m - n)) H) : OpWp c ⟨d, .binOp .sub t x y t', ty, pos, af, g⟩ env H K :=
  ow_sub hx hy (by rw [wrap_u8 _ hr]; exact hK)

theorem ow_quo64 {m n : Int} (hx : env.ev x = some (In .i64 m)) (hy : env.ev y = some (In .i64 n)) (hm : 0 ≤ m ∧ m ≤ 9223372036854775807) (h0 : 0 < n) (hK : K (In .i64 (m / n)) H) : OpWp c ⟨d, .binOp .quo t x y t', ty, pos, af, g⟩ env H K :=
  ow_quo hx hy (by omega) (by
    have h1 : m / n ≤ m := Int.ediv_le_self n hm.1
    have h2 : 0 ≤ m / n := Int.ediv_nonneg hm.1 (by omega)
    rw [Int.tdiv_eq_ediv_of_nonneg hm.1, IntWalk.i64_in _ (by omega)]; exact hK)
/-- The bytes of a string, as a slice that is only read. -/
theorem ow_strBytes [TI P t] [SL P t'] (ht : TI.u P t = .string) (he : TI.u P (SL.e P t') = .int .u8) {s : ByteArray} (hs : s.size ≤ 9223372036854775807) (hx : env.ev x = some (Str s)) (hK : K (.cell (.list ((bytesI s).map Brow))) H) : OpWp c ⟨d, .convert t t' x, ty, pos, af, g⟩ env H K := by
  intro a w h next Q hn
  have hrun := run_bytes_of_string (P := P) w t t' (SL.e P t') s (by rw [TI.hu (P := P) (t := t), ht]) SL.hs (by rw [TI.hu (P := P) (t := SL.e P t'), he])
  have hge := grownCap_ge w s.size 0 (SL.e P t')
  have hcm : grownCap w s.size 0 (SL.e P t') ≤ maxLen := grownCap_le_maxLen w s.size 0 (SL.e P t') (by unfold maxLen; omega)
  generalize grownCap w s.size 0 (SL.e P t') = cap at hrun hge hcm
  generalize hww : w.drew.alloc (.cells (bytesRow s cap) (SL.e P t') ((bytesRow s cap).size, (bytesRow s cap).size + 1)) = w' at hrun
  have hsz : w'.heap.size = w.heap.size + 1 := by rw [← hww]; simp
  have hold : ∀ k, k < w.heap.size → w'.heap[k]? = w.heap[k]? := fun k hk => by rw [← hww]; exact (MapKept.heap_alloc w.drew _).2 k hk
  have hnew : w'.heap[w.heap.size]? = some (.cells (bytesRow s cap) (SL.e P t') ((bytesRow s cap).size, (bytesRow s cap).size + 1)) := by rw [← hww]; exact (MapKept.heap_alloc w.drew _).1
  have hg : Grow (hb []) w w' := ⟨by rw [← hww]; rfl, by rw [← hww]; rfl, by rw [← hww]; rfl, by omega, fun k hk _ => hold k hk⟩
  have h' : StW c ([] ++ H) w := h.heap
  obtain ⟨s1, s2⟩ := StW.step (H1' := []) h' hg (by simp [hb]) (by simp [hb]) (by simp)
  unfold Oper.wp
  have hex : (execOp a.eval ⟨d, .convert t t' x, ty, pos, af, g⟩).run P w = .ok (.value (.slice (some ⟨w.heap.size, 0, none⟩) s.size cap)) w' := by
    simp only [execOp, ev_val h hx, Sem.run_bind, hrun, Result.andThen_ok, Sem.run_pure]
  rw [hex]
  refine hn _ H _ _ hK s1 ?_ s2
  have hlen : ((bytesI s).map Brow).length = s.size := by simp
  refine ⟨_, cap, by rw [hlen], by rw [hlen]; exact hge, hcm, .inr ⟨w.heap.size, 0, (bytesI s).map (Value.int .u8), 1, rfl, fun hx => by have := h.heap.avlt _ hx; omega, ?_, Nat.one_pos, ?_⟩⟩
  · intro j v hj
    have hjl : j < s.data.toList.length := by
      have := (List.getElem?_eq_some_iff.1 hj).1
      simpa using this
    have : (bytesRow s cap)[j]? = some v := by
      unfold bytesRow
      rw [Array.getElem?_append_left (by simpa using hjl)]
      simp only [Array.getElem?_map]
      simp only [bytesI, List.map_map, List.getElem?_map, Array.getElem?_toList] at hj ⊢
      exact hj
    simp [World.cell?, hnew, this]
  · generalize bytesI s = L
    induction L with
    | nil => rfl
    | cons n L ih => exact ⟨[.int .u8 n], L.map (Value.int .u8), rfl, rfl, ⟨_, _, rfl, ⟨rfl, rfl⟩, rfl⟩, ih⟩

/-! Maps -/
theorem ow_makeMap (hK : ∀ b, c.B.heap.size ≤ b → K (.cell (.val (.map (some b)))) (.mapc b (setE []) :: H)) : OpWp c ⟨d, .makeMap t none, ty, pos, af, g⟩ env H K := by
  intro a w h next Q hn
  have hg : Grow (hb []) w (w.alloc (.map #[] 0)) := ⟨rfl, rfl, rfl, by simp, fun k hk _ => (MapKept.heap_alloc w _).2 k hk⟩
  have h' : StW c ([] ++ H) w := h.heap
  obtain ⟨s1, s2⟩ := StW.step (H1' := [.mapc w.heap.size []]) h' hg (by simp [hb, Ch.bs]) (by simp [hb, Ch.bs]) (by
    intro ch hch
    simp only [List.mem_singleton] at hch
    subst hch
    exact ⟨#[], 0, (MapKept.heap_alloc w _).1, rfl⟩)
  unfold Oper.wp
  have hex : (execOp a.eval ⟨d, .makeMap t none, ty, pos, af, g⟩).run P w = .ok (.value (.map (some w.heap.size))) (w.alloc (.map #[] 0)) := by
    simp [execOp, Instr.makeMap]
  rw [hex]
  exact hn _ _ _ _ (hK _ h.heap.size) s1 ⟨rfl, rfl⟩ s2

theorem ow_insertSet [MP P t] {b : Nat} {ks : List ByteArray} {s : ByteArray} {Hr : List Ch} (j : Nat) (hx : env.ev x = some (.cell (.val (.map (some b))))) (hp : pick [j] H = some ([.mapc b (setE ks)], Hr)) (hy : env.ev y = some (Str s)) (hz : env.ev z = some (Bl true)) (hs0 : hasS ks s = false)
    (hK : K .void (.mapc b (setE (ks ++ [s])) :: Hr)) : OpWp c ⟨d, .insert t x y z, ty, pos, af, g⟩ env H K := by
  have hs : s ∉ ks := fun h => by rw [hasS_iff.2 h] at hs0; cases hs0
  intro a w h next Q hn
  have hperm := pick_perm hp
  have h' : StW c (.mapc b (setE ks) :: Hr) w := h.heap.perm hperm
  have hav : c.av (.mapc b (setE ks) :: Hr) = c.av H := av_perm c hperm
  obtain ⟨ents, clock, hh, he⟩ := h'.ok (.mapc b (setE ks)) (by simp)
  have hkeys : ∀ e ∈ ents.toList, MapKept.IsKey .string e.key ∧ e.key ≠ .string s := by
    intro e hm
    have : (e.key, e.val) ∈ setE ks := by rw [← he]; exact List.mem_map.2 ⟨e, hm, rfl⟩
    obtain ⟨k, hk, hke⟩ := List.mem_map.1 this
    have hk1 : e.key = .string k := (congrArg Prod.fst hke).symm
    rw [hk1]
    exact ⟨by simp [MapKept.IsKey], fun q => by simp only [Value.string.injEq] at q; subst q; exact hs hk⟩
  have hf : Instr.findNow .string (.string s) ents.toList 0 = some none := by
    rcases MapKept.findNow_spec (d := .string) (k := .string s) (by simp [MapKept.IsKey]) ents.toList 0 (fun e hm => (hkeys e hm).1) with ⟨h1, _⟩ | ⟨j, e, _, h2, h3⟩
    · exact h1
    · exact absurd h3 (hkeys e (List.mem_of_getElem? h2)).2
  have hc : (Instr.checkKey false 10000 (MP.k P t) (.string s)).run P w = .ok () w := MapKept.run_checkKey (k := .string s) MP.hk (by simp [MapKept.IsKey]) false 9999
  let w' : World := { w with heap := w.heap.setIfInBounds b (.map (ents.push { key := .string s, val := .bool true, born := clock }) (clock + 1)) }
  have hrun : (Instr.mapUpdate t (.map (some b)) (.string s) (.bool true)).run P w = .ok () w' := by
    simp [Instr.mapUpdate, run_underlying (MP.hm (P := P) (t := t)), MapKept.run_getObj_map hh, hc, MapKept.run_findKey MP.hk hf, MapKept.run_setObj_map _ hh, Result.andThen, w']
  obtain ⟨g1, g2⟩ := MapKept.heap_set (o' := .map (ents.push { key := .string s, val := .bool true, born := clock }) (clock + 1)) hh
  have hg : Grow (hb [.mapc b (setE ks)]) w w' := ⟨rfl, rfl, rfl, by simp [w'], fun k hk hn => g2 k (fun e => hn (by simp [hb, Ch.bs, e]))⟩
  obtain ⟨s1, s2⟩ := StW.step (H1 := [.mapc b (setE ks)]) (H1' := [.mapc b (setE (ks ++ [s]))]) h' hg (by simp [hb, Ch.bs]) (by simp [hb, Ch.bs]) (by
    intro ch hch
    simp only [List.mem_singleton] at hch
    subst hch
    exact ⟨_, _, g1, by simp only [Array.toList_push, List.map_append, he, List.map_cons, List.map_nil, setE]⟩)
  unfold Oper.wp
  have hex : (execOp a.eval ⟨d, .insert t x y z, ty, pos, af, g⟩).run P w = .ok .skip w' := by
    simp only [execOp, ev_val h hx, ev_val h hy, ev_val h hz, Sem.run_bind, hrun, Result.andThen_ok, Sem.run_pure]
  rw [hex]
  exact hn .void _ undef _ hK s1 trivial (fun s v hs => s2 s v (by rw [List.singleton_append, hav]; exact hs))

theorem ow_lookupSet [MP P t] [TI P (MP.e P t)] {ks : List ByteArray} {s : ByteArray} (hzv : (TI.i P (MP.e P t)).zero = some (.bool false)) (hx : env.ev x = some (.cell (.map (setE ks)))) (hy : env.ev y = some (Str s)) (hK : K (Bl (hasS ks s)) H) : OpWp c ⟨d, .lookup t x y false, ty, pos, af, g⟩ env H K :=
  ow_valx rfl (fun a w h => by
    obtain ⟨b, ents, clock, hxe, _, hh, he⟩ := ev_ok h hx
    have hkey : ∀ e ∈ ents.toList, ∃ k ∈ ks, e.key = .string k ∧ e.val = .bool true := by
      intro e hm
      have : (e.key, e.val) ∈ setE ks := by rw [← he]; exact List.mem_map.2 ⟨e, hm, rfl⟩
      obtain ⟨k, hk, hke⟩ := List.mem_map.1 this
      exact ⟨k, hk, (congrArg Prod.fst hke).symm, (congrArg Prod.snd hke).symm⟩
    have hc : (Instr.checkKey ents.isEmpty 10000 (MP.k P t) (.string s)).run P w = .ok () w := MapKept.run_checkKey (k := .string s) MP.hk (by simp [MapKept.IsKey]) _ 9999
    have hkeys : ∀ e ∈ ents.toList, MapKept.IsKey .string e.key := fun e hm => by
      obtain ⟨k, _, h1, _⟩ := hkey e hm
      rw [h1]; simp [MapKept.IsKey]
    rcases MapKept.findNow_spec (d := .string) (k := .string s) (by simp [MapKept.IsKey]) ents.toList 0 hkeys with ⟨h1, h2⟩ | ⟨j, e, h1, h2, h3⟩
    · have hno : s ∉ ks := fun hm => by
        have : (Value.string s, Value.bool true) ∈ ents.toList.map (fun e => (e.key, e.val)) := by rw [he]; exact List.mem_map.2 ⟨s, hm, rfl⟩
        obtain ⟨e, hm2, hee⟩ := List.mem_map.1 this
        exact h2 e hm2 (congrArg Prod.fst hee)
      have hn : hasS ks s = false := by rw [Bool.eq_false_iff]; exact fun q => hno (hasS_iff.1 q)
      simp [execOp, hxe, ev_val h hy, Instr.lookup, run_underlying (MP.hm (P := P) (t := t)), MapKept.run_getObj_map hh, hc, MapKept.run_findKey MP.hk h1, run_zeroValue _ hzv, hn]
    · obtain ⟨k, hk, h4, h5⟩ := hkey e (List.mem_of_getElem? h2)
      have : k = s := by rw [h4] at h3; simpa using h3
      subst this
      have hn : hasS ks k = true := hasS_iff.2 hk
      simp [execOp, hxe, ev_val h hy, Instr.lookup, run_underlying (MP.hm (P := P) (t := t)), MapKept.run_getObj_map hh, hc, MapKept.run_findKey MP.hk h1, h5, hn]) hK

/-- A map of one's own that will not turn any more. -/
theorem st_freezeM {a : Act} {w : World} {i j b : Nat} {es : List (Value × Value)} {Hr : List Ch} (h : St c env H a w) (hi : env.lookup i = some (.cell (.val (.map (some b))))) (hp : pick [j] H = some ([.mapc b es], Hr)) (hb' : c.B.heap.size ≤ b) :
    St c ((i, .cell (.map es)) :: env) Hr a w := by
  have h1 := h.perm (pick_perm hp)
  have h2 : St c env Hr a w := h1.drop
  obtain ⟨ents, clock, hh, he⟩ := h1.heap.ok (.mapc b es) (by simp)
  have hnd := h1.heap.nodup
  refine ⟨h2.size, h2.defers, ?_, h2.heap⟩
  intro t s hl
  rcases lookup_cons hl with ⟨rfl, rfl⟩ | ⟨_, hl⟩
  · have : a.tmps.getD t undef = .map (some b) := (h.slots t _ hi).1
    rw [this]
    refine ⟨b, ents, clock, rfl, fun hx => ?_, hh, he⟩
    rcases hx with hx | hx
    · have := c.bnd b hx; omega
    · simp only [hb_cons, Ch.bs, List.cons_append, List.nil_append, List.nodup_cons] at hnd
      exact hnd.1 hx
  · exact h2.slots t s hl
theorem jq_freezeM {ex : Exit} {Q : Exit → Act → World → Prop} (i j : Nat) {b : Nat} {es : List (Value × Value)} {Hr : List Ch} (hi : env.lookup i = some (.cell (.val (.map (some b))))) (hp : pick [j] H = some ([.mapc b es], Hr)) (hb' : c.B.heap.size ≤ b)
    (h : JQ c Q ex ((i, .cell (.map es)) :: env) Hr) : JQ c Q ex env H := fun a w hs => h a w (st_freezeM hs hi hp hb')
theorem jl_freezeM {ops : Array Oper} {l : List Oper} {Q : Exit → Act → World → Prop} (i j : Nat) {b : Nat} {es : List (Value × Value)} {Hr : List Ch} (hi : env.lookup i = some (.cell (.val (.map (some b))))) (hp : pick [j] H = some ([.mapc b es], Hr)) (hb' : c.B.heap.size ≤ b)
    (h : JL c ops Q l ((i, .cell (.map es)) :: env) Hr) : JL c ops Q l env H := fun a w hs => h a w (st_freezeM hs hi hp hb')
end
end Go.Vc
