import Derived.Test.YtpolnonbgaolkaaMu1
import Derived.Laws.StructEq
import Derived.Lib.SliceRun
import Derived.Laws.OwnMore
import Derived.OrdersHeld
import Derived.Recover
import Derived.KernelRfl
import Derived.Lib.AppendStr
import Derived.Lib.AppendZerosOnto
section
namespace Go.Vc
open Go.RowKit

/-- Keys. -/
class KY (κ : Type) where
  dec : DecidableEq κ
  d : TypeDesc
  v : κ → Value
  key : ∀ x, MapKept.IsKey d (v x)
  inj : ∀ {x y}, v x = v y → x = y
instance (κ : Type) [KY κ] : DecidableEq κ := KY.dec
instance kyI : KY Int := ⟨inferInstance, .int .i64, .int .i64, fun _ => rfl, fun h => by injection h⟩
def aget {κ α : Type} [KY κ] : List (κ × α) → κ → Option α
  | [], _ => none
  | e :: M, k => if e.1 = k then some e.2 else aget M k
def aset {κ α : Type} [KY κ] : List (κ × α) → κ → α → List (κ × α)
  | [], k, v => [(k, v)]
  | e :: M, k, v => if e.1 = k then (k, v) :: M else e :: aset M k v
theorem aset_new {κ α : Type} [KY κ] {k : κ} (v : α) : ∀ {M : List (κ × α)}, aget M k = none → aset M k v = M ++ [(k, v)]
  | [], _ => rfl
  | e :: M, h => by
    by_cases h1 : e.1 = k
    · rw [aget, if_pos h1] at h; cases h
    · rw [aget, if_neg h1] at h
      rw [aset, if_neg h1, aset_new v h]; rfl
abbrev mapE {κ α : Type} [KY κ] (vv : α → Value) (M : List (κ × α)) : List (Value × Value) := M.map (fun e => (KY.v e.1, vv e.2))

theorem findNow_map {κ α : Type} [KY κ] {vv : α → Value} {k : κ} (v : α) : ∀ (M : List (κ × α)) (l : List MapEntry) (i : Nat), l.map (fun e => (e.key, e.val)) = mapE vv M →
    (aget M k = none ∧ Instr.findNow (KY.d κ) (KY.v k) l i = some none) ∨
    ∃ j u e, aget M k = some u ∧ Instr.findNow (KY.d κ) (KY.v k) l i = some (some (i + j, vv u)) ∧ l[j]? = some e ∧ e.key = KY.v k ∧ (l.modify j (fun e => { e with key := KY.v k, val := vv v })).map (fun e => (e.key, e.val)) = mapE vv (aset M k v)
  | [], l, i, h => by
    cases l with
    | nil => exact .inl ⟨rfl, rfl⟩
    | cons e l => simp [mapE] at h
  | m :: M, l, i, h => by
    cases l with
    | nil => simp [mapE] at h
    | cons e l =>
      simp only [mapE, List.map_cons, List.cons.injEq, Prod.mk.injEq] at h
      obtain ⟨⟨hk, hv⟩, ht⟩ := h
      obtain ⟨r, hr, hiff⟩ := MapKept.sameNow_of_keys (d := KY.d κ) (a := KY.v k) (b := e.key) (KY.key k) (by rw [hk]; exact KY.key _)
      by_cases h1 : m.1 = k
      · have hr1 : r = true := hiff.2 (by rw [hk, h1])
        refine .inr ⟨0, m.2, e, by rw [aget, if_pos h1], by simp [Instr.findNow, hr, hr1, hv], rfl, by rw [hk, h1], ?_⟩
        rw [aset, if_pos h1]
        simp only [List.modify_zero_cons, List.map_cons, mapE]
        rw [ht]
      · have hr1 : r = false := by
          cases r with
          | false => rfl
          | true => exact absurd (KY.inj ((hk.symm.trans (hiff.1 rfl).symm))) h1
        rcases findNow_map (vv := vv) (k := k) v M l (i + 1) ht with ⟨a1, a2⟩ | ⟨j, u, e', a1, a2, a3, a4, a5⟩
        · exact .inl ⟨by rw [aget, if_neg h1]; exact a1, by simp [Instr.findNow, hr, hr1, a2]⟩
        · refine .inr ⟨j + 1, u, e', by rw [aget, if_neg h1]; exact a1, ?_, by simpa using a3, a4, ?_⟩
          · simp only [Instr.findNow, hr, hr1, a2]
            rw [show i + 1 + j = i + (j + 1) by omega]
          · rw [aset, if_neg h1]
            simp only [List.modify_succ_cons, List.map_cons, mapE, a5, hk, hv]

section
variable {P : Program} [Gl P] {nt : Nat} {c : Cx P nt} {env : Env} {H : List Ch} {K : S → List Ch → Prop}
variable {d : Option Tmp} {ty t t' : TypeId} {pos : String} {af : Array Edge} {g : Option (Nat × Bool)} {x y z : Operand}
variable {κ α : Type} [KY κ]

theorem ow_makeMapE (κ α : Type) [KY κ] (vv : α → Value) (hK : ∀ b, c.B.heap.size ≤ b → K (.cell (.val (.map (some b)))) (.mapc b (mapE vv ([] : List (κ × α))) :: H)) : OpWp c ⟨d, .makeMap t none, ty, pos, af, g⟩ env H K :=
  ow_makeMap hK
omit [Gl P] in
theorem run_mapUpdate {w : World} {b : Nat} {ents : Array MapEntry} {clock : Nat} [MK P t] (hd : MK.d P t = KY.d κ) {vv : α → Value} {M : List (κ × α)} (k : κ) (v : α) (hh : w.heap[b]? = some (.map ents clock)) (he : ents.toList.map (fun e => (e.key, e.val)) = mapE vv M) :
    ∃ ents' clock', ents'.toList.map (fun e => (e.key, e.val)) = mapE vv (aset M k v) ∧ (Instr.mapUpdate t (.map (some b)) (KY.v k) (vv v)).run P w = .ok () { w with heap := w.heap.setIfInBounds b (.map ents' clock') } := by
  have hkk : P.underlying (MK.k P t) = some (KY.d κ) := by rw [← hd]; exact MK.hk
  have hc : (Instr.checkKey false 10000 (MK.k P t) (KY.v k)).run P w = .ok () w := MapKept.run_checkKey hkk (KY.key k) false 9999
  rcases findNow_map (vv := vv) (k := k) v M ents.toList 0 he with ⟨a1, a2⟩ | ⟨j, u, e, a1, a2, a3, a4, a5⟩
  · refine ⟨ents.push { key := KY.v k, val := vv v, born := clock }, clock + 1, ?_, ?_⟩
    · rw [aset_new v a1]
      simp only [Array.toList_push, List.map_append, he, List.map_cons, List.map_nil, mapE]
    · simp [Instr.mapUpdate, run_underlying (MK.hm (P := P) (t := t)), MapKept.run_getObj_map hh, hc, MapKept.run_findKey hkk a2, MapKept.run_setObj_map _ hh, Result.andThen]
  · refine ⟨ents.modify j (fun e => { e with key := KY.v k, val := vv v }), clock, ?_, ?_⟩
    · rw [Array.toList_modify, a5]
    · have hj : ents[j]? = some e := by rw [← Array.getElem?_toList]; exact a3
      rw [Nat.zero_add] at a2
      simp [Instr.mapUpdate, run_underlying (MK.hm (P := P) (t := t)), MapKept.run_getObj_map hh, hc, MapKept.run_findKey hkk a2, hj, a4, MapKept.run_keyThatStays (KY.key k), MapKept.run_setObj_map _ hh, Result.andThen]
theorem ow_mapUp {o : Op} (ho : o = .mapUpdate t x y z ∨ o = .insert t x y z) [MK P t] {b : Nat} {vv : α → Value} {M : List (κ × α)} {k : κ} {v : α} {Hr : List Ch} (j : Nat) (hd : MK.d P t = KY.d κ) (hx : env.ev x = some (.cell (.val (.map (some b))))) (hp : pick [j] H = some ([.mapc b (mapE vv M)], Hr)) (hy : env.ev y = some (.cell (.val (KY.v k)))) (hz : env.ev z = some (.cell (.val (vv v))))
    (hK : K .void (.mapc b (mapE vv (aset M k v)) :: Hr)) : OpWp c ⟨d, o, ty, pos, af, g⟩ env H K := by
  intro a w h next Q hn
  have hperm := pick_perm hp
  have h' : StW c (.mapc b (mapE vv M) :: Hr) w := h.heap.perm hperm
  have hav : c.av (.mapc b (mapE vv M) :: Hr) = c.av H := av_perm c hperm
  obtain ⟨ents, clock, hh, he⟩ := h'.ok (.mapc b (mapE vv M)) (by simp)
  obtain ⟨ents', clock', he', hrun⟩ := run_mapUpdate (P := P) (t := t) hd k v hh he
  obtain ⟨g1, g2⟩ := MapKept.heap_set (o' := .map ents' clock') hh
  have hg : Grow (hb [.mapc b (mapE vv M)]) w { w with heap := w.heap.setIfInBounds b (.map ents' clock') } := ⟨rfl, rfl, rfl, by simp, fun k hk hn => g2 k (fun e => hn (by simp [hb, Ch.bs, e]))⟩
  obtain ⟨s1, s2⟩ := StW.step (H1 := [.mapc b (mapE vv M)]) (H1' := [.mapc b (mapE vv (aset M k v))]) h' hg (by simp [hb, Ch.bs]) (by simp [hb, Ch.bs]) (by
    intro ch hch
    simp only [List.mem_singleton] at hch
    subst hch
    exact ⟨_, _, g1, he'⟩)
  unfold Oper.wp
  have hex : (execOp a.eval ⟨d, o, ty, pos, af, g⟩).run P w = .ok .skip { w with heap := w.heap.setIfInBounds b (.map ents' clock') } := by
    rcases ho with rfl | rfl <;> simp only [execOp, ev_val h hx, ev_val h hy, ev_val h hz, Sem.run_bind, hrun, Result.andThen_ok, Sem.run_pure]
  rw [hex]
  exact hn .void _ undef _ hK s1 trivial (fun s v hs => s2 s v (by rw [List.singleton_append, hav]; exact hs))
theorem ow_mapPut [MK P t] {b : Nat} {vv : α → Value} {M : List (κ × α)} {k : κ} {v : α} {Hr : List Ch} (j : Nat) (hd : MK.d P t = KY.d κ) (hx : env.ev x = some (.cell (.val (.map (some b))))) (hp : pick [j] H = some ([.mapc b (mapE vv M)], Hr)) (hy : env.ev y = some (.cell (.val (KY.v k)))) (hz : env.ev z = some (.cell (.val (vv v))))
    (hK : K .void (.mapc b (mapE vv (aset M k v)) :: Hr)) : OpWp c ⟨d, .mapUpdate t x y z, ty, pos, af, g⟩ env H K := ow_mapUp (.inl rfl) j hd hx hp hy hz hK
omit [Gl P] in
theorem run_mapGet {w : World} {b : Nat} {ents : Array MapEntry} {clock : Nat} [MK P t] [TI P (MK.e P t)] (hd : MK.d P t = KY.d κ) {vv : α → Value} {M : List (κ × α)} (k : κ) {zv : Value} (hzv : (TI.i P (MK.e P t)).zero = some zv) (co : Bool) (hh : w.heap[b]? = some (.map ents clock)) (he : ents.toList.map (fun e => (e.key, e.val)) = mapE vv M) :
    (Instr.lookup t (.map (some b)) (KY.v k) co).run P w = .ok (if co then .tuple #[((aget M k).map vv).getD zv, .bool (aget M k).isSome] else ((aget M k).map vv).getD zv) w := by
  have hkk : P.underlying (MK.k P t) = some (KY.d κ) := by rw [← hd]; exact MK.hk
  have hc : (Instr.checkKey ents.isEmpty 10000 (MK.k P t) (KY.v k)).run P w = .ok () w := MapKept.run_checkKey hkk (KY.key k) _ 9999
  by_cases hM : ∃ v : α, True
  · obtain ⟨v, _⟩ := hM
    rcases findNow_map (vv := vv) (k := k) v M ents.toList 0 he with ⟨a1, a2⟩ | ⟨j, u, e, a1, a2, a3, a4, a5⟩
    · simp [Instr.lookup, run_underlying (MK.hm (P := P) (t := t)), MapKept.run_getObj_map hh, hc, MapKept.run_findKey hkk a2, run_zeroValue _ hzv, a1]
    · simp [Instr.lookup, run_underlying (MK.hm (P := P) (t := t)), MapKept.run_getObj_map hh, hc, MapKept.run_findKey hkk a2, a1]
  · have h0 : M = [] := by
      cases M with
      | nil => rfl
      | cons e M => exact absurd ⟨e.2, trivial⟩ hM
    subst h0
    have h1 : ents.toList = [] := by simpa [mapE] using he
    have a2 : Instr.findNow (KY.d κ) (KY.v k) ents.toList 0 = some none := by rw [h1]; rfl
    simp [Instr.lookup, run_underlying (MK.hm (P := P) (t := t)), MapKept.run_getObj_map hh, hc, MapKept.run_findKey hkk a2, run_zeroValue _ hzv, aget]
/-- A look into a map of one's own. -/
theorem ow_mapGetO [MK P t] [TI P (MK.e P t)] {b : Nat} {vv : α → Value} {M : List (κ × α)} {k : κ} {zv : Value} {Hr : List Ch} (j : Nat) (hd : MK.d P t = KY.d κ) (hzv : (TI.i P (MK.e P t)).zero = some zv) (h1 : (((aget M k).map vv).getD zv).oneCell' = true) (hx : env.ev x = some (.cell (.val (.map (some b))))) (hp : pick [j] H = some ([.mapc b (mapE vv M)], Hr)) (hy : env.ev y = some (.cell (.val (KY.v k))))
    (hK : K (.cell (.val (((aget M k).map vv).getD zv))) H) : OpWp c ⟨d, .lookup t x y false, ty, pos, af, g⟩ env H K :=
  ow_valx h1 (fun a w h => by
    obtain ⟨ents, clock, hh, he⟩ := (h.heap.perm (pick_perm hp)).ok (.mapc b (mapE vv M)) (by simp)
    simp [execOp, ev_val h hx, ev_val h hy, run_mapGet hd k hzv false hh he]) hK
end
end Go.Vc
end

section
namespace Go.Vc
open Go.RowKit
section
variable {P : Program} [Gl P] {nt : Nat} {c : Cx P nt} {env : Env} {H : List Ch}
theorem jq_ownNil {ex : Exit} {Q : Exit → Act → World → Prop} (e : TypeId) (k : Nat) (hk : 0 < k) (h : JQ c Q ex env (.own (.slice none 0 0) e k [] :: H)) : JQ c Q ex env H :=
  fun a w hs => h a w (st_ownNil hs e k hk)
end

end Go.Vc
end

section
namespace Go.Vc
open Go.RowKit
section
variable {P : Program} [Gl P] {nt : Nat} {c : Cx P nt} {env : Env} {H : List Ch} {K : S → List Ch → Prop}
variable {d : Option Tmp} {ty t t' : TypeId} {pos : String} {af : Array Edge} {g : Option (Nat × Bool)} {x y z : Operand}
theorem ow_shr1 {m : Int} (hx : env.ev x = some (In .u64 m)) (hy : env.ev y = some (In .u64 1)) (_hm : 0 ≤ m) (hK : K (In .u64 (m / 2)) H) : OpWp c ⟨d, .binOp .shr t x y t', ty, pos, af, g⟩ env H K :=
  ow_shr hx hy (by omega) (by
    rw [show (2 : Int) ^ (min (1 : Int).toNat IntKind.u64.bits) = 2 from rfl, Int.fdiv_eq_ediv_of_nonneg m (by omega)]
    exact hK)
/-- An element at an index that is known, of whatever kind of integer. -/
theorem ow_indexAddrN [SL P t] {rows : List (List C)} {k : IntKind} {m : Int} {row : List C} (i : Nat) (hx : env.ev x = some (.cell (.list rows))) (hy : env.ev y = some (In k m)) (hm : m = (i : Int)) (hrow : rows[i]? = some row)
    (hz : (TI.i P (SL.e P t)).size = row.length) (hp : 0 < row.length) (hK : K (.cell (.place row)) H) : OpWp c ⟨d, .indexAddr t x y, ty, pos, af, g⟩ env H K :=
  ow_val (fun a w h => by
    subst hm
    obtain ⟨hlt, _⟩ := List.getElem?_eq_some_iff.1 hrow
    obtain ⟨ad, cap, he, _, _, hb⟩ := ev_ok h hx
    rcases hb with hb | ⟨b, off, vs, k, rfl, hA, hc, hk, hr⟩
    · omega
    · obtain ⟨cs, h1, h2, h3⟩ := rdRows_get hr hc hrow
      have hkl : k = row.length := by rw [← h2, rdRow_length h1]
      refine ⟨.pointer (some ⟨b, off + i * k, none⟩), ?_, b, _, cs, rfl, hA, hp, h3, h1⟩
      have : (0 : Int) ≤ (i : Int) ∧ (i : Int) < ↑rows.length := ⟨by omega, by omega⟩
      simp [execOp, he, ev_val h hy, Instr.indexAt, asIntOf, run_elem t, this, run_sizeOf, add_at, hz, hkl]
      intro hle
      exact absurd hle (by omega)) hK
end
end Go.Vc
end

section
namespace Go.Vc
open Go.RowKit

theorem rdRows_store {w : World} {A : Nat → Prop} {k : Nat} {r : List C} {rv : List Value} {o : Nat} (hr : RdRow w A r rv) (hle : o + r.length ≤ k) : ∀ {rows : List (List C)} {vs : List Value} {i : Nat} {row : List C}, RdRows w A k rows vs → rows[i]? = some row →
    RdRows w A k (rows.set i (row.take o ++ r ++ row.drop (o + r.length))) (vs.take (i * k + o) ++ rv ++ vs.drop (i * k + o + rv.length))
  | [], _, _, _, _, h => by simp at h
  | r0 :: rows, vs, i, row, h, hi => by
    have hl := rdRow_length hr
    obtain ⟨c0, rest, rfl, h1, h2, h3⟩ := h
    cases i with
    | zero =>
      simp only [List.getElem?_cons_zero, Option.some.injEq] at hi
      subst hi
      refine ⟨c0.take o ++ rv ++ c0.drop (o + rv.length), rest, ?_, ?_, ?_, h3⟩
      · rw [Nat.zero_mul, Nat.zero_add, List.take_append_of_le_length (by omega), List.drop_append_of_le_length (by omega)]
        simp
      · simp only [List.length_append, List.length_take, List.length_drop]; omega
      · rw [hl]
        exact rdRow_append (rdRow_append (rdRow_take o h2) hr) (rdRow_drop _ h2)
    | succ i =>
      have ih := rdRows_store (o := o) hr hle h3 (show rows[i]? = some row by simpa using hi)
      refine ⟨c0, _, ?_, h1, h2, ih⟩
      have e1 : (i + 1) * k + o = c0.length + (i * k + o) := by rw [Nat.add_mul, h1]; omega
      rw [e1, List.take_length_add_append, show c0.length + (i * k + o) + rv.length = c0.length + (i * k + o + rv.length) by omega, List.drop_length_add_append]
      simp

theorem store_lists {α : Type} (cur rv : List α) (n off len : Nat) (hl : rv.length = len) (h1 : off + len ≤ n) (h2 : n ≤ cur.length) :
    (cur.take off ++ rv ++ cur.drop (off + len)).length = cur.length ∧ (cur.take off ++ rv ++ cur.drop (off + len)).take n = (cur.take n).take off ++ rv ++ (cur.take n).drop (off + len) := by
  constructor
  · simp only [List.length_append, List.length_take, List.length_drop]; omega
  · rw [List.append_assoc, List.append_assoc, List.take_append, List.take_append, List.take_take, List.take_take, List.length_take, List.drop_take, show min n off = off by omega, show min off n = off by omega, show min off cur.length = off by omega, List.take_of_length_le (show rv.length ≤ n - off by omega), hl, show n - off - len = n - (off + len) by omega]

section
variable {P : Program} [Gl P] {nt : Nat} {c : Cx P nt} {env : Env} {H : List Ch} {K : S → List Ch → Prop}
variable {d : Option Tmp} {ty t t' : TypeId} {pos : String} {af : Array Edge} {g : Option (Nat × Bool)} {x y : Operand}

/-- The field of an element of a slice of one's own. -/
theorem ow_fieldAddrInn {v : Value} {o f off size : Nat} [TI P t] [TS P t] (hs : structB (TI.u P t) = true) (hx : env.ev x = some (.cell (.inn v o))) (hf : (TS.pl P t)[f]? = some (off, size))
    (hz : 0 < size) (hK : K (.cell (.inn v (o + off))) H) : OpWp c ⟨d, .fieldAddr t x f, ty, pos, af, g⟩ env H K :=
  ow_val (fun a w h => by
    obtain ⟨b, n, cap, hv, hxe⟩ := ev_ok h hx
    refine ⟨.pointer (some ⟨b, o + off, none⟩), ?_, b, n, cap, hv, rfl⟩
    simp only [execOp, hxe, Sem.run_bind, run_fieldAt t hs hf hz, Result.andThen_ok, Sem.run_pure]) hK

/-- An element as a whole. -/
theorem ow_loadInnN [TI P t] {v : Value} {e : TypeId} {k off : Nat} {rows : List (List C)} {Hr : List Ch} {row : List C} (j i : Nat) (ha : aggB (TI.u P t) = true) (hx : env.ev x = some (.cell (.inn v off))) (hp : pick [j] H = some ([.own v e k rows], Hr)) (hoff : off = i * k)
    (hi : rows[i]? = some row) (hz : (TI.i P t).size = k) (hK : K (.row row) H) : OpWp c ⟨d, .load t x, ty, pos, af, g⟩ env H K :=
  ow_val (fun a w h => by
    obtain ⟨b, n, cap, hv, hxe⟩ := ev_ok h hx
    subst hv
    obtain ⟨vs, ho, hr, hk⟩ := h.heap.ok (.own (.slice (some ⟨b, 0, none⟩) n cap) e k rows) ((pick_perm hp).mem_iff.2 (by simp))
    have hcells : Cells w b 0 vs := fun j u hu => by
      have := ho.cells (g := b) rfl j u hu
      rw [add_at, Nat.zero_add] at this
      rw [Nat.zero_add]
      exact this
    obtain ⟨cs, h1, h2, h3⟩ := rdRows_get hr hcells hi
    rw [Nat.zero_add, ← hoff] at h3
    refine ⟨.agg cs.toArray, ?_, cs.toArray, rfl, by simpa using h1⟩
    simp only [execOp, hxe, Instr.loadAt, Instr.sureAddr, Sem.run_bind, Sem.run_pure, Result.andThen_ok, run_loadVarN t ha (hz.trans h2.symm) h3]) hK

theorem ow_storeInn [TI P t] {v : Value} {e : TypeId} {k off : Nat} {rows : List (List C)} {Hr : List Ch} {row r row' : List C} {s : S} (j i o : Nat) (hx : env.ev x = some (.cell (.inn v off))) (hy : env.ev y = some s) (hs : s.cells = some r) (hp : pick [j] H = some ([.own v e k rows], Hr)) (hoff : off = i * k + o)
    (hi : rows[i]? = some row) (hz : (TI.i P t).size = r.length) (hle : o + r.length ≤ k) (hrow : row.take o ++ r ++ row.drop (o + r.length) = row') (hK : K .void (.own v e k (rows.set i row') :: Hr)) : OpWp c ⟨d, .store t x y, ty, pos, af, g⟩ env H K := by
  intro a w h next Q hn
  have hperm := pick_perm hp
  have h' : StW c (.own v e k rows :: Hr) w := h.heap.perm hperm
  have hav : c.av (.own v e k rows :: Hr) = c.av H := av_perm c hperm
  obtain ⟨b, n, cap, hv, hxe⟩ := ev_ok h hx
  subst hv
  obtain ⟨vs, ho, hr, hk⟩ := h'.ok (.own (.slice (some ⟨b, 0, none⟩) n cap) e k rows) (by simp)
  have hlen := ho.1
  have hilt : i < rows.length := (List.getElem?_eq_some_iff.1 hi).1
  have hmul : i * k + k ≤ rows.length * k := by
    have := Nat.mul_le_mul_right k (show i + 1 ≤ rows.length by omega)
    rwa [Nat.add_mul, Nat.one_mul] at this
  rcases ho.2 with ⟨hno, _⟩ | ⟨b', cap', cur, hve, _, hh, g3, g4, g5, g6⟩
  · cases hno
  · have hbc : b' = b ∧ cap' = cap := by simp only [Value.slice.injEq, Option.some.injEq, Addr.mk.injEq] at hve; exact ⟨hve.1.1.symm, hve.2.2.symm⟩
    obtain ⟨rfl, rfl⟩ := hbc
    have hcv := cells_ok (ev_ok h hy) hs
    rw [← hav] at hcv
    have hlr := rdRow_length hcv
    have hcs : rows.length * k ≤ cap' * k := Nat.mul_le_mul_right k g3
    have hst := run_storeCells_at P b' off e (a.eval y).cells.toList 0 cur w hh (by simp only [Nat.add_zero, hlr]; omega) (rdRow_one hcv)
    simp only [Nat.add_zero] at hst
    have hrun : (execOp a.eval ⟨d, .store t x y, ty, pos, af, g⟩).run P w = .ok .skip (w.setRow b' (cur.toList.take off ++ (a.eval y).cells.toList ++ cur.toList.drop (off + r.length)).toArray) := by
      have hsz : ¬ (a.eval y).cells.size ≠ (TI.i P t).size := by rw [hz, ← hlr]; simp
      simp only [execOp, hxe, Instr.storeAt, Instr.sureAddr, storeVar, Sem.run_bind, Sem.run_pure, Result.andThen_ok, run_sizeOf, if_neg hsz, hst]
      simp [hlr]
    have hg : Grow (hb [.own (.slice (some ⟨b', 0, none⟩) n cap') e k rows]) w (w.setRow b' (cur.toList.take off ++ (a.eval y).cells.toList ++ cur.toList.drop (off + r.length)).toArray) := setRow_grow w b' _
    have hnew := rdRows_store (o := o) hcv hle hr hi
    rw [hrow, ← hoff, hlr] at hnew
    obtain ⟨s1, s2⟩ := StW.step (H1 := [.own (.slice (some ⟨b', 0, none⟩) n cap') e k rows]) (H1' := [.own (.slice (some ⟨b', 0, none⟩) n cap') e k (rows.set i row')]) h' hg (fun b hb => .inl hb) (by simp [hb, Ch.bs, Value.ownBlock]) (by
      intro ch hch
      simp only [List.mem_singleton] at hch
      subst hch
      obtain ⟨q1, q2⟩ := store_lists cur.toList (a.eval y).cells.toList (rows.length * k) off r.length hlr (by omega) (by show rows.length * k ≤ cur.size; rw [g5]; exact hcs)
      refine ⟨_, ⟨?_, .inr ⟨b', cap', _, ?_, Nat.zero_le _, setRow_heap w b' _ _ e _ hh, ?_, g4, ?_, ?_⟩⟩, rdRows_up (A := c.av (.own (.slice (some ⟨b', 0, none⟩) n cap') e k rows :: Hr)) (hg.up ?_) (fun b hb => .inl hb) k _ _ hnew, hk⟩
      · simp only [List.length_append, List.length_take, List.length_drop, List.length_set]; omega
      · rw [List.length_set]; exact hve
      · rw [List.length_set]; exact g3
      · rw [List.size_toArray, q1]
        exact g5
      · rw [List.length_set, ← g6]
        exact q2
      · intro b hb'
        exact .inr (List.mem_append.2 (.inl hb')))
    unfold Oper.wp
    rw [hrun]
    exact hn .void _ undef _ hK s1 trivial (fun s v hs => s2 s v (by rw [List.singleton_append, hav]; exact hs))
/-- .. of a whole element. -/
theorem ow_storeInnAll [TI P t] {v : Value} {e : TypeId} {k off : Nat} {rows : List (List C)} {Hr : List Ch} {row r : List C} {s : S} (j i : Nat) (hx : env.ev x = some (.cell (.inn v off))) (hy : env.ev y = some s) (hs : s.cells = some r) (hp : pick [j] H = some ([.own v e k rows], Hr)) (hoff : off = i * k)
    (hi : rows[i]? = some row) (hlen : row.length = k) (hz : (TI.i P t).size = r.length) (hk : r.length = k) (hK : K .void (.own v e k (rows.set i r) :: Hr)) : OpWp c ⟨d, .store t x y, ty, pos, af, g⟩ env H K :=
  ow_storeInn j i 0 hx hy hs hp (by omega) hi hz (by omega) (by rw [Nat.zero_add, List.take_zero, List.drop_of_length_le (by omega)]; simp) hK
end
end Go.Vc
end

section
namespace Go.Vc

section
variable {α : Type}
/-- Two elements exchanged. -/
def sw (l : List α) (i j : Nat) : List α := match l[i]?, l[j]? with
  | some x, some y => (l.set i y).set j x
  | _, _ => l
theorem sw_eq {l : List α} {i j : Nat} (hi : i < l.length) (hj : j < l.length) : sw l i j = (l.set i l[j]).set j l[i] := by
  unfold sw
  rw [List.getElem?_eq_getElem hi, List.getElem?_eq_getElem hj]
theorem sw_len (l : List α) (i j : Nat) : (sw l i j).length = l.length := by
  unfold sw
  split <;> simp
theorem sw_get {l : List α} {i j : Nat} (hi : i < l.length) (hj : j < l.length) (p : Nat) : (sw l i j)[p]? = l[if p = i then j else if p = j then i else p]? := by
  rw [sw_eq hi hj, List.getElem?_set, List.getElem?_set, List.length_set]
  by_cases h1 : j = p
  · subst h1
    by_cases h2 : j = i
    · subst h2; simp [hi]
    · simp [h2, hj, List.getElem?_eq_getElem hi]
  · by_cases h2 : i = p
    · subst h2; simp [h1, hi, List.getElem?_eq_getElem hj]
    · rw [if_neg h1, if_neg h2, if_neg (fun h => h2 h.symm), if_neg (fun h => h1 h.symm)]
theorem sw_perm {l : List α} {i j : Nat} (hi : i < l.length) (hj : j < l.length) : (sw l i j).Perm l := by
  rw [sw_eq hi hj]
  exact List.set_set_perm hi hj

/-- The elements from a on, up to b, have been moved about among themselves. -/
structure Mv (a b : Nat) (l l' : List α) : Prop where
  len : l'.length = l.length
  perm : l'.Perm l
  out : ∀ p, p < a ∨ b ≤ p → l'[p]? = l[p]?
  inn : ∀ p, a ≤ p → p < b → ∃ q, a ≤ q ∧ q < b ∧ l'[p]? = l[q]?
theorem Mv.refl (a b : Nat) (l : List α) : Mv a b l l := ⟨rfl, .refl _, fun _ _ => rfl, fun p h1 h2 => ⟨p, h1, h2, rfl⟩⟩
theorem Mv.trans {a b : Nat} {l l' l'' : List α} (h : Mv a b l l') (h' : Mv a b l' l'') : Mv a b l l'' :=
  ⟨h'.len.trans h.len, h'.perm.trans h.perm, fun p hp => (h'.out p hp).trans (h.out p hp), fun p h1 h2 => by
    obtain ⟨q, g1, g2, e⟩ := h'.inn p h1 h2
    obtain ⟨r, k1, k2, e2⟩ := h.inn q g1 g2
    exact ⟨r, k1, k2, e.trans e2⟩⟩
theorem Mv.mono {a b a' b' : Nat} {l l' : List α} (h : Mv a b l l') (ha : a' ≤ a) (hb : b ≤ b') : Mv a' b' l l' :=
  ⟨h.len, h.perm, fun p hp => h.out p (by omega), fun p h1 h2 => by
    by_cases hp : a ≤ p ∧ p < b
    · obtain ⟨q, g1, g2, e⟩ := h.inn p hp.1 hp.2
      exact ⟨q, by omega, by omega, e⟩
    · exact ⟨p, h1, h2, h.out p (by omega)⟩⟩
theorem Mv.sw {a b : Nat} {l : List α} {i j : Nat} (hb : b ≤ l.length) (hi : a ≤ i ∧ i < b) (hj : a ≤ j ∧ j < b) : Mv a b l (sw l i j) := by
  have h1 : i < l.length := by omega
  have h2 : j < l.length := by omega
  refine ⟨sw_len _ _ _, sw_perm h1 h2, fun p hp => ?_, fun p g1 g2 => ⟨_, ?_, ?_, sw_get h1 h2 p⟩⟩
  · rw [sw_get h1 h2, if_neg (by omega), if_neg (by omega)]
  · split
    · omega
    · split <;> omega
  · split
    · omega
    · split <;> omega

variable (key : α → Int)
/-- The key of an element. -/
def kk (l : List α) (p : Nat) : Int := (l[p]?.map key).getD 0
theorem kk_get {l : List α} {p : Nat} (h : p < l.length) : kk key l p = key l[p] := by
  unfold kk
  rw [List.getElem?_eq_getElem h]
  rfl
theorem kk_eq {l l' : List α} {p q : Nat} (h : l'[p]? = l[q]?) : kk key l' p = kk key l q := by
  unfold kk
  rw [h]
/-- In order, from a on, up to b. -/
def So (l : List α) (a b : Nat) : Prop := ∀ p q, a ≤ p → p ≤ q → q < b → kk key l p ≤ kk key l q
theorem So.sub {l : List α} {a b a' b' : Nat} (h : So key l a b) (ha : a ≤ a') (hb : b' ≤ b) : So key l a' b' := fun p q h1 h2 h3 => h p q (by omega) h2 (by omega)
theorem So.out {l l' : List α} {a b x y : Nat} (h : So key l a b) (hm : Mv x y l l') (hd : b ≤ x ∨ y ≤ a) : So key l' a b := fun p q h1 h2 h3 => by
  rw [kk_eq key (hm.out p (by omega)), kk_eq key (hm.out q (by omega))]
  exact h p q h1 h2 h3
theorem so_small {l : List α} {a b : Nat} (h : b ≤ a + 1) : So key l a b := fun p q h1 h2 h3 => by
  obtain rfl : p = q := by omega
  exact Int.le_refl _
theorem so_pairwise {l : List α} (h : So key l 0 l.length) : l.Pairwise (fun a b => key a ≤ key b) := by
  rw [List.pairwise_iff_getElem]
  intro i j hi hj hij
  have := h i j (by omega) (by omega) hj
  rwa [kk_get key hi, kk_get key hj] at this

/-- Behind its place j has come down from, all is in order but for it, and what lies behind it is greater. -/
structure Ins (l : List α) (a i j : Nat) : Prop where
  but : ∀ p q, a ≤ p → p ≤ q → q ≤ i → p ≠ j → q ≠ j → kk key l p ≤ kk key l q
  up : ∀ q, j < q → q ≤ i → kk key l j ≤ kk key l q
theorem ins_start {l : List α} {a i : Nat} (h : So key l a i) : Ins key l a i i :=
  ⟨fun p q h1 h2 h3 h4 h5 => h p q h1 h2 (by omega), fun q h1 h2 => by omega⟩
theorem ins_end {l : List α} {a i j : Nat} (h : Ins key l a i j) (hj : j = a ∨ kk key l (j - 1) ≤ kk key l j ∧ a < j) : So key l a (i + 1) := by
  intro p q h1 h2 h3
  by_cases hpq : p = q
  · subst hpq; exact Int.le_refl _
  by_cases hp : p = j
  · subst hp; exact h.up q (by omega) (by omega)
  by_cases hq : q = j
  · subst hq
    rcases hj with hj | ⟨hj, hj2⟩
    · omega
    · by_cases hp1 : p = q - 1
      · subst hp1; exact hj
      · have := h.but p (q - 1) h1 (by omega) (by omega) hp (by omega)
        omega
  exact h.but p q h1 h2 (by omega) hp hq
theorem ins_step {l : List α} {a i j : Nat} (hl : i < l.length) (h : Ins key l a i j) (hj : a < j) (hji : j ≤ i) (hlt : kk key l j < kk key l (j - 1)) : Ins key (sw l j (j - 1)) a i (j - 1) := by
  have hk : ∀ p, kk key (sw l j (j - 1)) p = kk key l (if p = j then j - 1 else if p = j - 1 then j else p) := fun p => kk_eq key (sw_get (by omega) (by omega) p)
  refine ⟨fun p q h1 h2 h3 h4 h5 => ?_, fun q h1 h2 => ?_⟩
  · rw [hk, hk]
    by_cases hp : p = j
    · rw [if_pos hp]
      by_cases hq : q = j
      · rw [if_pos hq]; exact Int.le_refl _
      · rw [if_neg hq, if_neg h5]
        exact h.but _ _ (by omega) (by omega) h3 (by omega) hq
    · rw [if_neg hp, if_neg h4]
      by_cases hq : q = j
      · rw [if_pos hq]
        exact h.but _ _ h1 (by omega) (by omega) hp (by omega)
      · rw [if_neg hq, if_neg h5]
        exact h.but _ _ h1 h2 h3 hp hq
  · rw [hk, hk, if_neg (by omega), if_pos rfl]
    by_cases hq : q = j
    · rw [if_pos hq]; omega
    · rw [if_neg hq, if_neg (by omega)]
      exact h.up q (by omega) h2

def swpI (a b n p : Nat) : Nat := if a ≤ p ∧ p < a + n then p - a + b else if b ≤ p ∧ p < b + n then p - b + a else p
def rotI (a m b p : Nat) : Nat := if a ≤ p ∧ p < a + (b - m) then p + (m - a) else if a + (b - m) ≤ p ∧ p < b then p - (b - m) else p
theorem swp_zero (a b p : Nat) : swpI a b 0 p = p := by
  unfold swpI
  rw [if_neg (by omega), if_neg (by omega)]
theorem swp_step {l l' : List α} {a b n : Nat} (hab : a + n < b) (hb : b + n < l.length) (hlen : l'.length = l.length) (h : ∀ p, l'[p]? = l[swpI a b n p]?) (p : Nat) : (sw l' (a + n) (b + n))[p]? = l[swpI a b (n + 1) p]? := by
  rw [sw_get (by omega) (by omega), h]
  congr 1
  unfold swpI
  repeat' split
  all_goals omega
theorem rot_gt (m i j p : Nat) (hi : i ≤ m) (hij : j < i) (hj : 0 < j) : rotI (m - i) m (m + j) p = swpI (m - i) m j (rotI (m - (i - j)) m (m + j) p) := by
  unfold rotI swpI
  repeat' split
  all_goals omega
theorem rot_lt (m i j p : Nat) (hi : i ≤ m) (hij : i < j) (h0 : 0 < i) : rotI (m - i) m (m + j) p = swpI (m - i) (m + j - i) i (rotI (m - i) m (m + (j - i)) p) := by
  unfold rotI swpI
  repeat' split
  all_goals omega
theorem rot_eq (m i p : Nat) (hi : i ≤ m) : rotI (m - i) m (m + i) p = swpI (m - i) m i p := by
  unfold rotI swpI
  repeat' split
  all_goals omega
theorem rot_in {a m b p : Nat} (h1 : a ≤ m) (h2 : m ≤ b) : (p < a ∨ b ≤ p → rotI a m b p = p) ∧ (a ≤ p → p < b → a ≤ rotI a m b p ∧ rotI a m b p < b) := by
  unfold rotI
  constructor
  · intro h
    rw [if_neg (by omega), if_neg (by omega)]
  · intro h3 h4
    repeat' split
    all_goals omega
end
end Go.Vc
end

section
namespace Go.Vc

section
variable {α : Type} (key : α → Int)
def shfI (a k p : Nat) : Nat := if a ≤ p ∧ p < k then p + 1 else if p = k then a else p
theorem shf_zero (a p : Nat) : shfI a a p = p := by
  unfold shfI
  rw [if_neg (by omega)]
  split
  · omega
  · rfl
theorem shf_step {l t : List α} {a k : Nat} (ha : a ≤ k) (hk : k + 1 < l.length) (hlen : t.length = l.length) (h : ∀ p, t[p]? = l[shfI a k p]?) (p : Nat) : (sw t k (k + 1))[p]? = l[shfI a (k + 1) p]? := by
  rw [sw_get (by omega) (by omega), h]
  congr 1
  unfold shfI
  repeat' split
  all_goals omega
/-- One element put among others that are in order. -/
theorem so_front {l t : List α} {a i b : Nat} (hs : So key l (a + 1) b) (hi : a + 1 ≤ i ∧ i ≤ b) (h1 : ∀ q, a + 1 ≤ q → q < i → kk key l q ≤ kk key l a) (h2 : ∀ q, i ≤ q → q < b → kk key l a ≤ kk key l q)
    (ht : ∀ p, t[p]? = l[shfI a (i - 1) p]?) : So key t a b := by
  intro p q hp hpq hq
  rw [kk_eq key (ht p), kk_eq key (ht q)]
  unfold shfI
  by_cases c1 : p < i - 1
  · rw [if_pos ⟨hp, c1⟩]
    by_cases c2 : q < i - 1
    · rw [if_pos ⟨by omega, c2⟩]; exact hs _ _ (by omega) (by omega) (by omega)
    · rw [if_neg (by omega)]
      split
      · exact h1 _ (by omega) (by omega)
      · exact hs _ _ (by omega) (by omega) (by omega)
  · rw [if_neg (by omega)]
    by_cases c2 : p = i - 1
    · rw [if_pos c2]
      rw [if_neg (by omega)]
      split
      · exact Int.le_refl _
      · exact h2 _ (by omega) hq
    · rw [if_neg c2, if_neg (by omega), if_neg (by omega)]
      exact hs _ _ (by omega) (by omega) (by omega)
def bakI (k m p : Nat) : Nat := if p = k then m else if k < p ∧ p ≤ m then p - 1 else p
theorem bak_zero (m p : Nat) : bakI m m p = p := by
  unfold bakI
  split
  · omega
  · rw [if_neg (by omega)]
theorem bak_step {l t : List α} {m k : Nat} (hk0 : 0 < k) (hk : k ≤ m) (hm : m < l.length) (hlen : t.length = l.length) (h : ∀ p, t[p]? = l[bakI k m p]?) (p : Nat) : (sw t k (k - 1))[p]? = l[bakI (k - 1) m p]? := by
  rw [sw_get (by omega) (by omega), h]
  congr 1
  unfold bakI
  repeat' split
  all_goals omega
theorem so_back {l t : List α} {a i m : Nat} (hs : So key l a m) (hi : a ≤ i ∧ i ≤ m) (h1 : ∀ q, a ≤ q → q < i → kk key l q ≤ kk key l m) (h2 : ∀ q, i ≤ q → q < m → kk key l m ≤ kk key l q)
    (ht : ∀ p, t[p]? = l[bakI i m p]?) : So key t a (m + 1) := by
  intro p q hp hpq hq
  rw [kk_eq key (ht p), kk_eq key (ht q)]
  unfold bakI
  by_cases c1 : p = i
  · rw [if_pos c1]
    by_cases c2 : q = i
    · rw [if_pos c2]; exact Int.le_refl _
    · rw [if_neg c2, if_pos (by omega)]
      exact h2 _ (by omega) (by omega)
  · rw [if_neg c1]
    by_cases c3 : p < i
    · rw [if_neg (by omega)]
      by_cases c2 : q = i
      · rw [if_pos c2]; exact h1 _ hp c3
      · rw [if_neg c2]
        split
        · exact hs _ _ hp (by omega) (by omega)
        · exact hs _ _ hp (by omega) (by omega)
    · rw [if_pos (by omega), if_neg (by omega), if_pos (by omega)]
      exact hs _ _ (by omega) (by omega) (by omega)

/-- The two halves behind the turn. -/
structure Half (t : List α) (a s mid e b : Nat) : Prop where
  ord : a ≤ s ∧ s ≤ mid ∧ mid ≤ e ∧ e ≤ b
  s1 : So key t a s
  s2 : So key t s mid
  s3 : So key t mid e
  s4 : So key t e b
  cross : ∀ p q, a ≤ p → p < mid → mid ≤ q → q < b → kk key t p ≤ kk key t q
theorem half_of {l t : List α} {a m b mid s s0 r0 : Nat} (ham : a < m) (_hmb : m < b) (hmid : mid = (a + b) / 2) (hs1 : So key l a m) (hs2 : So key l m b)
    (h0 : (mid < m ∧ s0 = mid + m - b ∧ r0 = mid) ∨ (m ≤ mid ∧ s0 = a ∧ r0 = m)) (hs : s0 ≤ s ∧ s ≤ r0)
    (k1 : ∀ c, s0 ≤ c → c < s → kk key l c ≤ kk key l (mid + m - 1 - c)) (k2 : ∀ c, s ≤ c → c < r0 → kk key l (mid + m - 1 - c) ≤ kk key l c)
    (ht : ∀ p, t[p]? = l[rotI s m (mid + m - s) p]?) : Half key t a s mid (mid + m - s) b := by
  have hk : ∀ p, kk key t p = kk key l (rotI s m (mid + m - s) p) := fun p => kk_eq key (ht p)
  have hsm : s ≤ m := by omega
  have hsmid : s ≤ mid := by omega
  have has : a ≤ s := by omega
  have r1 : ∀ p, p < s → rotI s m (mid + m - s) p = p := fun p hp => by unfold rotI; rw [if_neg (by omega), if_neg (by omega)]
  have r2 : ∀ p, s ≤ p → p < mid → rotI s m (mid + m - s) p = p + (m - s) := fun p h1 h2 => by unfold rotI; rw [if_pos (by omega)]
  have r3 : ∀ p, mid ≤ p → p < mid + m - s → rotI s m (mid + m - s) p = p - (mid - s) := fun p h1 h2 => by
    unfold rotI
    rw [if_neg (by omega), if_pos (by omega)]
    omega
  have r4 : ∀ p, mid + m - s ≤ p → rotI s m (mid + m - s) p = p := fun p h1 => by unfold rotI; rw [if_neg (by omega), if_neg (by omega)]
  refine ⟨by omega, ?_, ?_, ?_, ?_, ?_⟩
  · intro p q h1 h2 h3
    rw [hk, hk, r1 p (by omega), r1 q h3]
    exact hs1 p q h1 h2 (by omega)
  · intro p q h1 h2 h3
    rw [hk, hk, r2 p h1 (by omega), r2 q (by omega) h3]
    exact hs2 _ _ (by omega) (by omega) (by omega)
  · intro p q h1 h2 h3
    rw [hk, hk, r3 p h1 (by omega), r3 q (by omega) h3]
    exact hs1 _ _ (by omega) (by omega) (by omega)
  · intro p q h1 h2 h3
    rw [hk, hk, r4 p h1, r4 q (by omega)]
    exact hs2 _ _ (by omega) h2 h3
  · intro p q h1 h2 h3 h4
    rw [hk, hk]
    by_cases cp : p < s
    · rw [r1 p cp]
      by_cases cq : q < mid + m - s
      · rw [r3 q h3 cq]
        exact hs1 _ _ h1 (by omega) (by omega)
      · rw [r4 q (by omega)]
        -- the greatest of the one, the least of the other
        have e1 : kk key l p ≤ kk key l (s - 1) := hs1 _ _ h1 (by omega) (by omega)
        have e2 : kk key l (s - 1) ≤ kk key l (mid + m - 1 - (s - 1)) := k1 (s - 1) (by omega) (by omega)
        have e3 : kk key l (mid + m - 1 - (s - 1)) ≤ kk key l q := hs2 _ _ (by omega) (by omega) h4
        omega
    · rw [r2 p (by omega) h2]
      by_cases cq : q < mid + m - s
      · rw [r3 q h3 cq]
        have e1 : kk key l (p + (m - s)) ≤ kk key l (mid + m - 1 - s) := hs2 _ _ (by omega) (by omega) (by omega)
        have e2 : kk key l (mid + m - 1 - s) ≤ kk key l s := k2 s (by omega) (by omega)
        have e3 : kk key l s ≤ kk key l (q - (mid - s)) := hs1 _ _ has (by omega) (by omega)
        omega
      · rw [r4 q (by omega)]
        exact hs2 _ _ (by omega) (by omega) h4
theorem half_end {t t1 t2 : List α} {a s mid e b : Nat} (h : Half key t a s mid e b) (m1 : Mv a mid t t1) (o1 : So key t1 a mid) (m2 : Mv mid b t1 t2) (o2 : So key t2 mid b) : So key t2 a b := by
  intro p q h1 h2 h3
  by_cases cp : mid ≤ p
  · exact o2 p q cp h2 h3
  by_cases cq : q < mid
  · rw [kk_eq key (m2.out p (by omega)), kk_eq key (m2.out q (by omega))]
    exact o1 p q h1 h2 cq
  · obtain ⟨q', g1, g2, eq⟩ := m2.inn q (by omega) h3
    obtain ⟨p', g3, g4, ep⟩ := m1.inn p h1 (by omega)
    rw [kk_eq key (m2.out p (by omega)), kk_eq key eq, kk_eq key ep, kk_eq key (m1.out q' (by omega))]
    exact h.cross p' q' g3 g4 g1 g2

/-- Each block of bs, of those that begin at a multiple of it between x and y, is in order. -/
def Bl2 (l : List α) (bs n x y : Nat) : Prop := ∀ s, bs ∣ s → x ≤ s → s < y → So key l s (min (s + bs) n)
theorem dvd_gap {bs s a : Nat} (_hbs : 0 < bs) (h1 : bs ∣ s) (h2 : bs ∣ a) (h : s < a) : s + bs ≤ a := by
  obtain ⟨u, rfl⟩ := h1
  obtain ⟨v, rfl⟩ := h2
  have h3 : u < v := Nat.lt_of_mul_lt_mul_left h
  have h4 : bs * (u + 1) ≤ bs * v := Nat.mul_le_mul_left _ h3
  rw [Nat.mul_add, Nat.mul_one] at h4
  exact h4
theorem bl2_join {l : List α} {bs n x y z : Nat} (h1 : Bl2 key l bs n x y) (h2 : Bl2 key l bs n y z) : Bl2 key l bs n x z := fun s hs ha hb => by
  by_cases h : s < y
  · exact h1 s hs ha h
  · exact h2 s hs (by omega) hb
theorem bl2_one {l : List α} {bs n a : Nat} (hbs : 0 < bs) (ha : bs ∣ a) (h : So key l a (min (a + bs) n)) : Bl2 key l bs n a (a + bs) := fun s hs h1 h2 => by
  by_cases e : s = a
  · subst e; exact h
  · have := dvd_gap hbs ha hs (by omega)
    omega
theorem bl2_out {l l' : List α} {bs n x y a b : Nat} (h : Bl2 key l bs n x y) (hb : 0 < bs) (hy : bs ∣ y) (hm : Mv a b l l') (hd : y ≤ a ∨ b ≤ x) : Bl2 key l' bs n x y := fun s hs h1 h2 => by
  have := dvd_gap hb hs hy h2
  exact (h s hs h1 h2).out key hm (by omega)
theorem bl2_last {l : List α} {bs n a : Nat} (hbs : 0 < bs) (ha : bs ∣ a) (hn : n ≤ a + bs) (h : So key l a n) : Bl2 key l bs n a n := fun s hs h1 h2 => by
  by_cases e : s = a
  · subst e; rw [show min (s + bs) n = n by omega]; exact h
  · have := dvd_gap hbs ha hs (by omega)
    omega
theorem bl2_sub {l : List α} {bs n x y x' y' : Nat} (h : Bl2 key l bs n x y) (hx : x ≤ x') (hy : y' ≤ y) : Bl2 key l bs n x' y' := fun s hs h1 h2 => h s hs (by omega) (by omega)
theorem bl2_behind {l l' : List α} {bs n x y a b : Nat} (h : Bl2 key l bs n x y) (hm : Mv a b l l') (hd : b ≤ x) : Bl2 key l' bs n x y := fun s hs h1 h2 => (h s hs h1 h2).out key hm (.inr (by omega))
end
end Go.Vc
end

section
namespace Go.Vc
open Go.RowKit

theorem rdRows_zeros {w : World} {A : Nat → Prop} {z : Array Value} {k : Nat} (hk : z.size = k) (h1 : ∀ v ∈ z.toList, v.oneCell' = true) : ∀ n : Nat, RdRows w A k (List.replicate n (z.toList.map C.val)) ((List.range (n * k)).map fun i => z[i % z.size]!)
  | 0 => by simp [RdRows]
  | n + 1 => by
    have ih := rdRows_zeros (w := w) (A := A) hk h1 n
    rw [show (n + 1) * k = k + n * k by rw [Nat.add_mul]; omega, List.range_add, List.map_append]
    refine ⟨_, _, rfl, by simp, ?_, ?_⟩
    · have e : (List.range k).map (fun i => z[i % z.size]!) = z.toList := by
        apply List.ext_getElem?
        intro j
        by_cases hj : j < k
        · have hj' : j < z.size := by omega
          rw [List.getElem?_map, List.getElem?_range hj]
          simp [Nat.mod_eq_of_lt hj', hj']
        · rw [List.getElem?_eq_none (by simp; omega), List.getElem?_eq_none (by simp; omega)]
      rw [e]
      exact rdRow_zero _ h1
    · rw [List.map_map]
      have e : ((fun i => z[i % z.size]!) ∘ fun x => k + x) = fun i => z[i % z.size]! := by
        funext i
        simp only [Function.comp]
        rw [← hk, Nat.add_mod_left]
      rw [e]
      exact ih

section
variable {P : Program} [Gl P] {nt : Nat} {c : Cx P nt} {env : Env} {H : List Ch} {K : S → List Ch → Prop}
variable {d : Option Tmp} {ty t t' : TypeId} {pos : String} {af : Array Edge} {g : Option (Nat × Bool)} {x y : Operand}

/-- Whether a slice that is only read is nil: it is empty then. -/
theorem ow_slnil [SL P t] {rows : List (List C)} (hx : env.ev x = some (.cell (.list rows))) (hy : env.ev y = some (.cell (.val (.slice none 0 0)))) (hK : ∀ b, (b = true → rows = []) → K (Bl b) H) : OpWp c ⟨d, .binOp .eql t x y t', ty, pos, af, g⟩ env H K := by
  intro a w h next Q hn
  obtain ⟨ad, cap, he, _, _, hb⟩ := ev_ok h hx
  have e2 := Lib.run_eql_slice_nil (P := P) w t (SL.e P t) ad rows.length cap 0 0 SL.hs
  have hrun : (execOp a.eval ⟨d, .binOp .eql t x y t', ty, pos, af, g⟩).run P w = .ok (.value (.bool ad.isNone)) w := by
    simp only [execOp, he, ev_val h hy]
    simp [eqGuard, e2]
  unfold Oper.wp
  rw [hrun]
  refine hn (Bl ad.isNone) H _ w (hK _ fun hnone => ?_) h.heap ⟨rfl, rfl⟩ (fun _ _ h => h)
  rcases hb with hb | ⟨b, off, vs, k, rfl, _⟩
  · exact List.eq_nil_of_length_eq_zero hb
  · cases hnone

/-- make, of a slice of one's own. -/
theorem ow_makeSliceOwn [SL P t] {z : Value} (n : Nat) (hz : (TI.i P (SL.e P t)).zero = some z) (h1 : z.cells.toList.all Value.oneCell' = true) (hsz : (TI.i P (SL.e P t)).size = z.cells.size) (hpos : 0 < z.cells.size) {kl kc : IntKind}
    (hx : env.ev x = some (In kl (n : Int))) (hy : env.ev y = some (In kc (n : Int))) (hcells : n * z.cells.size ≤ 16777216) (hlim : (TI.i P (SL.e P t)).bytes * n ≤ 281474976710656) (hmax : n ≤ 140737488351232)
    (hK : ∀ v, v.oneCell' = true → c.Fresh v → K (.cell (.val v)) (.own v (SL.e P t) z.cells.size (List.replicate n (zeroRow z)) :: H)) : OpWp c ⟨d, .makeSlice t x y, ty, pos, af, g⟩ env H K := by
  intro a w h next Q hn
  obtain ⟨w', hrun, ho, hg⟩ := run_makeSlice_full (P := P) w 0 t (SL.e P t) _ z z.cells.size SL.hs TI.hi hz hsz kl kc n hcells hlim (by unfold maxLen; omega) (Nat.zero_le _)
  have hgr : Grow (hb []) w w' := by simpa [hb] using Grow.of_grownBy hg
  have h' : StW c ([] ++ H) w := h.heap
  have hav : ∀ b, c.av (.own (.slice (some ⟨w.heap.size, 0, none⟩) n n) (SL.e P t) z.cells.size (List.replicate n (zeroRow z)) :: H) b → c.av H b ∨ w.heap.size ≤ b := by
    intro b hb'
    rcases hb' with hb' | hb'
    · exact .inl (.inl hb')
    · rw [hb_cons] at hb'
      rcases List.mem_append.1 hb' with hb' | hb'
      · simp only [Ch.bs, Value.ownBlock, Option.mem_toList, Option.some.injEq] at hb'
        exact .inr (by omega)
      · exact .inl (.inr hb')
  obtain ⟨s1, s2⟩ := StW.step (H1' := [.own (.slice (some ⟨w.heap.size, 0, none⟩) n n) (SL.e P t) z.cells.size (List.replicate n (zeroRow z))]) h' hgr (by simp [hb, Ch.bs, Value.ownBlock]) (by simp [hb, Ch.bs, Value.ownBlock]) (by
    intro ch hch
    simp only [List.mem_singleton] at hch
    subst hch
    refine ⟨_, by rw [List.length_replicate]; exact ho, ?_, hpos⟩
    have e : (madeCells z.cells (n * z.cells.size)).toList = (List.range (n * z.cells.size)).map fun i => z.cells[i % z.cells.size]! := by simp [madeCells]
    rw [e]
    exact rdRows_up (A := c.av H) (hgr.up (by simp [hb])) hav _ _ _ (rdRows_zeros rfl (List.all_eq_true.1 h1) n))
  unfold Oper.wp
  have hex : (execOp a.eval ⟨d, .makeSlice t x y, ty, pos, af, g⟩).run P w = .ok (.value (.slice (some ⟨w.heap.size, 0, none⟩) n n)) w' := by
    simp only [execOp, ev_val h hx, ev_val h hy, Sem.run_bind, hrun, Result.andThen_ok, Sem.run_pure]
  rw [hex]
  exact hn _ _ _ _ (hK _ rfl (fun b hb => by simp only [Value.ownBlock, Option.some.injEq] at hb; have := h.heap.size; omega)) s1 ⟨rfl, rfl⟩ s2

/-- What lies behind the first m elements. -/
def sufV (v : Value) (m k : Nat) : Value := match v with
  | .slice a n cap => .slice (if cap = m then a else a.map (·.add (m * k))) (n - m) (cap - m)
  | v => v
end
end Go.Vc
end

section
namespace Go.Vc
open Go.RowKit

section
variable {P : Program} [Gl P] {nt : Nat} {c : Cx P nt} {env : Env} {H : List Ch} {K : S → List Ch → Prop}
variable {d : Option Tmp} {ty t t' : TypeId} {pos : String} {af : Array Edge} {g : Option (Nat × Bool)} {x y : Operand}

/-- What is asked of a type of two integers, to compare its values. -/
structure Two (P : Program) (t : TypeId) (u : TypeId) (k : IntKind) : Prop where
  ht : P.underlying t = some (.struct (P.fieldsOf t))
  hp : P.stoodInHeld t = false
  hm : P.eqGuardType P.depth t = false
  hf : ∃ f0 f1, (P.fieldsOf t).toList = [f0, f1] ∧ f0.name ≠ "_" ∧ f1.name ≠ "_" ∧ f0.offset = 0 ∧ f1.offset = 1 ∧ f0.type = u ∧ f1.type = u
  hu : P.underlying u = some (.int k)
end
end Go.Vc
end

section
namespace Go.Vc
open Go.RowKit

def Keep (L : List (Nat × List Value × TypeId)) (w : World) : Prop := ∀ p ∈ L, w.heap[p.1]? = some (.cells p.2.1.toArray p.2.2 (0, 0))
section
variable {P : Program} [Gl P] {nt : Nat} {c : Cx P nt} {env : Env} {H Hr : List Ch} {ops : Array Oper} {Q : Exit → Act → World → Prop} {Sw : World → Prop} {L : List (Nat × List Value × TypeId)}
variable {fuel : Nat} {listed : Array Bool} {d ty t t' : TypeId} {pos : String} {af : Array Edge} {x y : Operand}

def HOk (c : Cx P nt) (Sw : World → Prop) (env : Env) (H : List Ch) (o : Oper) (s : S) : Prop :=
  ∀ a w, St c env H a w → Sw w → ∃ v, (∀ w', Sw w' → (execOp a.eval o).run P w' = .ok (.value v) w') ∧ SOk w (c.av H) s v

theorem hok_move {d : Option Tmp} {s : S} (hx : env.ev x = some s) : HOk c Sw env H ⟨d, .move x, ty, pos, af, none⟩ s :=
  fun a _ hst _ => ⟨a.eval x, fun _ _ => rfl, ev_ok hst hx⟩
theorem hok_fieldAddr {d : Option Tmp} {b o f off size : Nat} [TI P t] [TS P t] (hs : structB (TI.u P t) = true) (hx : env.ev x = some (.cell (.val (.pointer (some ⟨b, o, none⟩))))) (hf : (TS.pl P t)[f]? = some (off, size)) (hz : 0 < size) :
    HOk c Sw env H ⟨d, .fieldAddr t x f, ty, pos, af, none⟩ (.cell (.val (.pointer (some ⟨b, o + off, none⟩)))) :=
  fun _ _ hst _ => ⟨.pointer (some ⟨b, o + off, none⟩), fun _ _ => by simp only [execOp, ev_val hst hx, Sem.run_bind, run_fieldAt t hs hf hz, Result.andThen_ok, Sem.run_pure], rfl, rfl⟩
theorem blk_keep {a : Act} {w : World} {b : Nat} {bt : TypeId} {row : List C} {cs : List Value} {is : List Nat} (hst : St c env H a w) (hp : pick is H = some ([.blk b bt row], Hr)) (hS : Keep L w) (hm : (b, cs, bt) ∈ L) : RdRow w (c.av H) row cs := by
  obtain ⟨cs', g1, g2⟩ := blk_ok hst hp
  have g3 := hS _ hm
  dsimp only at g3
  rw [g1] at g3
  obtain rfl : cs' = cs := by simpa using g3
  exact g2
theorem hok_load {d : Option Tmp} {b o : Nat} {row : List C} {e : C} {bt : TypeId} {cs : List Value} [TI P t] (j : Nat) (ha : aggB (TI.u P t) = false) (hx : env.ev x = some (.cell (.val (.pointer (some ⟨b, o, none⟩))))) (hp : pick [j] H = some ([.blk b bt row], Hr))
    (hm : (b, cs, bt) ∈ L) (he : row[o]? = some e) : HOk c (Keep L) env H ⟨d, .load t x, ty, pos, af, none⟩ (.cell e) :=
  fun _ _ hst hS => by
    obtain ⟨v, hv, hrd⟩ := rdRow_get (blk_keep hst hp hS hm) he
    refine ⟨v, fun w' hS' => ?_, hrd⟩
    have hh := hS' _ hm
    simp only [execOp, ev_val hst hx, Instr.loadAt, Instr.sureAddr, Sem.run_bind, Sem.run_pure, Result.andThen_ok, run_loadVar1 t ha (show w'.cell? ⟨b, o, none⟩ = some v by simp [World.cell?, hh, hv])]
theorem hok_loadAll {d : Option Tmp} {b : Nat} {row : List C} {bt : TypeId} {cs : List Value} [TI P t] (j : Nat) (ha : aggB (TI.u P t) = true) (hx : env.ev x = some (.cell (.val (.pointer (some ⟨b, 0, none⟩))))) (hp : pick [j] H = some ([.blk b bt row], Hr))
    (hm : (b, cs, bt) ∈ L) (hz : (TI.i P t).size = row.length) : HOk c (Keep L) env H ⟨d, .load t x, ty, pos, af, none⟩ (.row row) :=
  fun _ _ hst hS => by
    have hrd := blk_keep hst hp hS hm
    refine ⟨.agg cs.toArray, fun w' hS' => ?_, cs.toArray, rfl, by simpa using hrd⟩
    have hh := hS' _ hm
    simp only [execOp, ev_val hst hx, Instr.loadAt, Instr.sureAddr, Sem.run_bind, Sem.run_pure, Result.andThen_ok, run_loadVarN t ha (hz.trans (rdRow_length hrd).symm) (cells_of_blk hh 0)]
end
end Go.Vc
end

section
namespace Go.Vc
open Go.RowKit

section
variable {P : Program} [Gl P] {nt : Nat} {c : Cx P nt} {env : Env} {H : List Ch}
theorem st_chg {a : Act} {w : World} {j : Nat} {ch ch' : Ch} {Hr : List Ch} (h : St c env H a w) (hp : pick [j] H = some ([ch], Hr)) (hb' : ch'.bs = ch.bs) (hnew : Ch.ok w (c.av H) ch') : St c env (ch' :: Hr) a w := by
  have h1 := h.perm (pick_perm hp)
  have hav : c.av (ch :: Hr) = c.av H := av_perm c (pick_perm hp)
  have hbb : hb (ch' :: Hr) = hb (ch :: Hr) := by simp only [hb, List.flatMap_cons, hb']
  have hav' : c.av (ch' :: Hr) = c.av H := by rw [← hav]; funext b; unfold Cx.av; rw [hbb]
  refine ⟨h.size, h.defers, fun i s hi => by rw [hav']; exact h.slots i s hi, h.heap.os, h.heap.tape, h.heap.output, h.heap.size, h.heap.block, ?_, by rw [hbb]; exact h1.heap.nodup, by rw [hbb]; exact h1.heap.mine, by rw [hav']; exact h.heap.gl⟩
  intro ch2 hch
  rw [hav']
  rcases List.mem_cons.1 hch with rfl | hch
  · exact hnew
  · rw [← hav]
    exact h1.heap.ok ch2 (List.mem_cons_of_mem _ hch)
end
end Go.Vc
end

section
namespace Go.Vc
open Go.RowKit

section
variable {P : Program} [Gl P] {nt : Nat} {c : Cx P nt} {env : Env} {H : List Ch} {K : S → List Ch → Prop}
variable {d : Option Tmp} {ty t t' : TypeId} {pos : String} {af : Array Edge} {g : Option (Nat × Bool)} {x y : Operand}
/-- A package variable that reads so. -/
def GV (w : World) (A : Nat → Prop) (b : Nat) (row : List C) : Prop := ¬ A b ∧ ∃ cs t f, w.heap[b]? = some (.cells cs t f) ∧ RdRow w A row cs.toList
theorem GV.up {w w' : World} {A A' : Nat → Prop} {b : Nat} {row : List C} (hu : Up A w w') (hA : ∀ b, A' b → A b ∨ w.heap.size ≤ b) (h : GV w A b row) : GV w' A' b row := by
  obtain ⟨h1, cs, t, f, h2, h3⟩ := h
  have hlt : b < w.heap.size := (Array.getElem?_eq_some_iff.1 h2).1
  exact ⟨fun h => (hA b h).elim h1 (by omega), cs, t, f, by rw [hu.block b hlt h1]; exact h2, rdRow_up hu hA _ _ h3⟩
end
end Go.Vc
end

section
namespace Go.Vc
open Go.RowKit

section
variable {P : Program} [Gl P] {nt : Nat} {c : Cx P nt} {env : Env} {H : List Ch} {K : S → List Ch → Prop}
variable {d : Option Tmp} {ty t t' : TypeId} {pos : String} {af : Array Edge} {g : Option (Nat × Bool)} {x y : Operand}
/-- A struct and two more results. -/
theorem jq_retRow2 {fn : Func} {post : (S → List Ch → Prop) → Prop} {a u u2 : Tmp} {b : Nat} {bt t : TypeId} [TI P t] {row : List C} {s' s'' : S} {Hx Hout : List Ch} (hres : fn.results = #[.cell a t, .tmp u, .tmp u2]) (ha : aggB (TI.u P t) = true) (hz : (TI.i P t).size = row.length) (hl : env.lookup a = some (.cell (.val (.pointer (some ⟨b, 0, none⟩))))) (hl' : env.lookup u = some s') (hl'' : env.lookup u2 = some s'') (j : Nat) (hj : pick [j] H = some ([.blk b bt row], Hx)) (hpost : ∀ K, post K → K (.tup [.row row, s', s'']) Hout) (hp : Sub H Hout) :
    JQ c (bodyPost P fn (RR c post)) .ret env H :=
  let ⟨_, _, hp⟩ := hp
  jq_retG (ss := [.row row, s', s'']) (.inl rfl) (by rw [hres]; exact ⟨.row row, _, b, j, bt, row, Hx, rfl, hl, hj, res_row ha hz, s', _, rfl, hl', s'', _, rfl, hl'', rfl⟩) hp hpost
/-- A test that is decided. -/
theorem jc_condT {Q : Exit → Act → World → Prop} {thn els : Code} {b : Bool} (hx : env.ev x = some (Bl b)) (hb : b = true) (h : JC c thn Q env H) : JC c (.cond x thn els) Q env H := jc_cond hx (fun _ => h) (fun h => by rw [hb] at h; cases h)
theorem jc_condF {Q : Exit → Act → World → Prop} {thn els : Code} {b : Bool} (hx : env.ev x = some (Bl b)) (hb : b = false) (h : JC c els Q env H) : JC c (.cond x thn els) Q env H := jc_cond hx (fun h => by rw [hb] at h; cases h) (fun _ => h)
def Env.vals (env : Env) : List Operand → Option (List Value)
  | [] => some []
  | x :: r => match env.ev x, Env.vals env r with
    | some (.cell (.val v)), some vs => some (v :: vs)
    | _, _ => none
theorem vals_ok {a : Act} {w : World} (h : St c env H a w) : ∀ {xs : List Operand} {vs : List Value}, env.vals xs = some vs → xs.map a.eval = vs
  | [], vs, hp => by simp only [Env.vals, Option.some.injEq] at hp; subst hp; rfl
  | x :: xs, vs, hp => by
    simp only [Env.vals] at hp
    split at hp
    · rename_i v vs' h1 h2
      simp only [Option.some.injEq] at hp
      subst hp
      rw [List.map_cons, ev_val h h1, vals_ok h h2]
    · cases hp
theorem ow_makeFunc {f : FuncId} {xs : Array Operand} {vs : List Value} (hx : env.vals xs.toList = some vs) (hK : K (.cell (.val (.func (.func f) #[] vs.toArray))) H) : OpWp c ⟨d, .makeFunc (.func f) #[] xs, ty, pos, af, g⟩ env H K :=
  ow_valx rfl (fun a w h => by
    have e1 : xs.map a.eval = vs.toArray := by apply Array.ext'; simpa using vals_ok h hx
    simp only [execOp, Instr.makeFunc, e1, Array.map_empty, Sem.run_bind, Sem.run_pure, Result.andThen_ok]) hK
end
end Go.Vc
end

section
namespace Go.Vc
open Go.RowKit

def capS (cap : List Value) : List S := cap.map (fun v => .cell (.val v))
theorem cap_ok {w : World} {A : Nat → Prop} : ∀ {cap : List Value}, cap.all Value.oneCell' = true → SOks w A (capS cap) cap
  | [], _ => rfl
  | v :: cap, h => by
    rw [List.all_cons, Bool.and_eq_true] at h
    exact ⟨v, cap, rfl, ⟨rfl, h.1⟩, cap_ok h.2⟩
abbrev FC (F : FuncId) (cap : List Value) : S := .cell (.val (.func (.func F) #[] cap.toArray))
abbrev PV (b : Nat) : Value := .pointer (some ⟨b, 0, none⟩)
section
variable {P : Program} [Gl P] {nt : Nat} {c : Cx P nt} {env : Env} {H : List Ch} {K : S → List Ch → Prop}
variable {d : Option Tmp} {ty t t' : TypeId} {pos : String} {af : Array Edge} {g : Option (Nat × Bool)} {x y z : Operand}
theorem ow_callc {Hin Hr : List Ch} {f : FuncId} [FI P f] {cap : List Value} {xs : Array Operand} {at_ : Array TypeId} {ss : List S} {post : (S → List Ch → Prop) → Prop} (is : List Nat) (hz : env.ev z = some (FC f cap)) (hx : env.evs xs.toList = some ss)
    (hcap : cap.all Value.oneCell' = true) (hp : pick is H = some (Hin, Hr)) (con : Con P f (ss ++ capS cap) Hin post)
    (hpost : post (fun s Hout => K s (Hout ++ Hr))) : OpWp c ⟨d, .call { callee := .value z, args := xs, argTypes := at_ }, ty, pos, af, g⟩ env H K :=
  ow_callv is hz hx (fun _ _ => by simpa using cap_ok hcap) hp con hpost
theorem jq_ret2S {fn : Func} {post : (S → List Ch → Prop) → Prop} {t1 t2 : Tmp} {s1 s2 : S} {Hout : List Ch} (hres : fn.results = #[.tmp t1, .tmp t2]) (h1 : env.lookup t1 = some s1) (h2 : env.lookup t2 = some s2) (hpost : ∀ K, post K → K (.tup [s1, s2]) Hout) (hp : Sub H Hout) : JQ c (bodyPost P fn (RR c post)) .ret env H :=
  let ⟨is, _, hp⟩ := hp
  jq_ret2 hres h1 h2 is hp hpost
def andW (m n : Int) : Int := IntKind.i64.wrap ((BitVec.ofInt 64 m &&& BitVec.ofInt 64 n).toNat : Int)
theorem ow_and64 {m n : Int} (hx : env.ev x = some (In .i64 m)) (hy : env.ev y = some (In .i64 n)) (hK : K (In .i64 (andW m n)) H) : OpWp c ⟨d, .binOp .and t x y t', ty, pos, af, g⟩ env H K :=
  ow_valx rfl (fun _ _ hs => by simp [execOp, ev_val hs hx, ev_val hs hy, eqGuard, binOp, Op.intBits, andW]; rfl) hK
variable {κ : Type} [KY κ]
theorem ow_mapGetOB [MK P t] [TI P (MK.e P t)] {b : Nat} {Hr : List Ch} {M : List (κ × Bool)} {k : κ} (j : Nat) (hd : MK.d P t = KY.d κ) (hzv : (TI.i P (MK.e P t)).zero = some (.bool false)) (hx : env.ev x = some (.cell (.val (.map (some b))))) (hp : pick [j] H = some ([.mapc b (mapE Value.bool M)], Hr)) (hy : env.ev y = some (.cell (.val (KY.v k))))
    (hK : K (Bl ((aget M k).getD false)) H) : OpWp c ⟨d, .lookup t x y false, ty, pos, af, g⟩ env H K :=
  ow_mapGetO j hd hzv (by cases aget M k <;> rfl) hx hp hy (by cases h : aget M k <;> rw [h] at hK <;> exact hK)
end
end Go.Vc
end

section
namespace Go.Vc
open Go.RowKit

def PanI (Q : Exit → Act → World → Prop) : Prop := ∀ ch a d v w, Q (.panic ch) (Act.put a d v) w → Q (.panic ch) a w
theorem pani_then {K : Act → World → Prop} {Q : Exit → Act → World → Prop} (h : PanI Q) : PanI (Exit.then K Q) := h
theorem pani_block {id : Nat} {Q : Exit → Act → World → Prop} (h : PanI Q) : PanI (Exit.inBlock id Q) := h
theorem pani_body {P : Program} {fn : Func} {R : Ending → World → Prop} : PanI (bodyPost P fn R) := by
  intro ch a d v w h
  cases d <;> exact h

theorem len2 {α : Type} {l : List α} (h : l.length = 2) : ∃ v0 v1, l = [v0, v1] := by
  match l, h with
  | [v0, v1], _ => exact ⟨v0, v1, rfl⟩
theorem len3 {α : Type} {l : List α} (h : l.length = 3) : ∃ v0 v1 v2, l = [v0, v1, v2] := by
  match l, h with
  | [v0, v1, v2], _ => exact ⟨v0, v1, v2, rfl⟩
theorem len5 {α : Type} {l : List α} (h : l.length = 5) : ∃ v0 v1 v2 v3 v4, l = [v0, v1, v2, v3, v4] := by
  match l, h with
  | [v0, v1, v2, v3, v4], _ => exact ⟨v0, v1, v2, v3, v4, rfl⟩
theorem len8 {α : Type} {l : List α} (h : l.length = 8) : ∃ v0 v1 v2 v3 v4 v5 v6 v7, l = [v0, v1, v2, v3, v4, v5, v6, v7] := by
  match l, h with
  | [v0, v1, v2, v3, v4, v5, v6, v7], _ => exact ⟨v0, v1, v2, v3, v4, v5, v6, v7, rfl⟩
section
variable {P : Program} {ops : Array Oper} {Q : Exit → Act → World → Prop} {md : Region.Mode} {S : World → Prop} {m : Nat}
def anyX (P : Program) (md : Region.Mode) (ops : Array Oper) (Q : Exit → Act → World → Prop) (S : World → Prop) (m : Nat) : Nat → Array Bool → Act → World → Prop
  | 0, listed, a, w => Region.ready md ops listed = [] ∧ Q .normal a w
  | fuel + 1, listed, a, w => (Region.ready md ops listed = [] → Q .normal a w) ∧ ∀ i ∈ Region.ready md ops listed, wpOp P ops Q i (fun a' w' => (i < m → S w') ∧ anyX P md ops Q S m fuel (listed.setIfInBounds i true) a' w') a w
theorem any_of_x : ∀ (fuel : Nat) (listed : Array Bool) (a : Act) (w : World), anyX P md ops Q S m fuel listed a w → wpAny P md ops Q fuel listed a w
  | 0, _, _, _, h => h
  | fuel + 1, _, _, _, h => ⟨h.1, fun i hi => wpOp_mono (fun a' w' h' => any_of_x fuel _ a' w' h'.2) (h.2 i hi)⟩
/-- One that only looks is taken first; the later ones wait for it. -/
theorem anyX_first {i : Nat} {oi : Oper} {v : Value} (hi : ops[i]? = some oi) (hsel : ∀ (j : Nat) (o : Oper) cs b, ops[j]? = some o → o.op ≠ .select cs b) (hQ : ∀ c a w, Q (.panic c) (a.put oi.dst v) w → Q (.panic c) a w)
    (hlate : ∀ (j : Nat) (o : Oper), m ≤ j → ops[j]? = some o → j ≠ i → ∃ e ∈ o.after, Region.binds md e = true ∧ e.on = i) :
    ∀ (fuel : Nat) (listed : Array Bool) (a : Act) (w : World),
      (∀ j oj, ops[j]? = some oj → j ≠ i → listed.getD j true = false → (∀ e ∈ oj.after, Region.binds md e = true → e.on ≠ i) → oi.apart ops oj = true) →
      i ∈ Region.ready md ops listed → YieldsIf P ops S oi v a → S w →
      anyX P md ops Q S m fuel (listed.setIfInBounds i true) (a.put oi.dst v) w → anyX P md ops Q S m (fuel + 1) listed a w := by
  intro fuel
  induction fuel with
  | zero =>
    intro listed a w _ hr hy hS hX
    refine ⟨fun h => (by rw [h] at hr; cases hr), fun j hj => ?_⟩
    by_cases hji : j = i
    · subst hji; exact hy.wpOp hi hS ⟨fun _ => hS, hX⟩
    · have := ready_mono hj hji
      rw [hX.1] at this
      cases this
  | succ fuel ih =>
    intro listed a w hfree hr hy hS hX
    refine ⟨fun h => (by rw [h] at hr; cases hr), fun j hj => ?_⟩
    by_cases hji : j = i
    · subst hji; exact hy.wpOp hi hS ⟨fun _ => hS, hX⟩
    · obtain ⟨hjun, oj, hoj, hall⟩ := mem_ready.1 hj
      have hnot : ∀ e ∈ oj.after, Region.binds md e = true → e.on ≠ i := fun e he hbd heq => by
        have h1 := hall e he hbd
        have h0 := (mem_ready.1 hr).1
        rw [heq] at h1
        rw [Array.getD_eq_getD_getElem?] at h0 h1
        cases hl : listed[i]? with
        | none => rw [hl] at h1; cases h1
        | some bb => rw [hl] at h0 h1; simp only [Option.getD_some] at h0 h1; rw [h0] at h1; cases h1
      have hjm : j < m := by
        rcases Nat.lt_or_ge j m with h | h
        · exact h
        · obtain ⟨e, he, hbd, hon⟩ := hlate j oj h hoj hji
          exact absurd hon (hnot e he hbd)
      have h2 := wpOp_putIf hoj (hfree j oj hoj hji hjun hnot) (fun cs b => hsel i oi cs b hi) (fun cs b => hsel j oj cs b hoj) hQ hy (hX.2 j (ready_mono hj hji))
      refine wpOp_mono (fun a' w' h3 => ⟨fun _ => h3.2.1 hjm, ih (listed.setIfInBounds j true) a' w' ?_ (ready_mono hr (Ne.symm hji)) h3.1 (h3.2.1 hjm) ?_⟩) h2
      · intro k ok hk hki hun hno
        refine hfree k ok hk hki ?_ hno
        by_cases hjk : j = k
        · subst hjk; exact hjun
        · rw [getD_set_ne true hjk] at hun; exact hun
      · rw [Array.setIfInBounds_comm _ _ hji]
        exact h3.2.2
end

section
variable {P : Program} [Gl P] {nt : Nat} {c : Cx P nt} {env : Env} {H Hr : List Ch} {ops : Array Oper} {Q : Exit → Act → World → Prop} {Sw : World → Prop} {L : List (Nat × List Value × TypeId)}
variable {m fuel : Nat} {listed : Array Bool} {d ty t t' : TypeId} {pos : String} {af : Array Edge} {x y : Operand}

def HP (c : Cx P nt) (ops : Array Oper) (Q : Exit → Act → World → Prop) (Sw : World → Prop) (m fuel : Nat) (listed : Array Bool) (env : Env) (H : List Ch) : Prop :=
  ∀ a w, St c env H a w → Sw w → anyX P .any ops Q Sw m fuel listed a w
/-- From number m on each waits for this one. -/
def lateWait (ops : Array Oper) (m i : Nat) : Bool := ops.toList.zipIdx.all fun (o, j) => decide (j < m) || j == i || hasEdge o i
omit [Gl P] in
theorem late_spec {i : Nat} (h : lateWait ops m i = true) : ∀ (j : Nat) (o : Oper), m ≤ j → ops[j]? = some o → j ≠ i → ∃ e ∈ o.after, Region.binds .any e = true ∧ e.on = i := by
  intro j o hj ho hne
  have h1 := List.all_eq_true.1 h (o, j) (by rw [List.mem_zipIdx_iff_getElem?]; simpa using ho)
  have h2 : decide (j < m) = false := by simpa using hj
  have h3 : (j == i) = false := by simpa using hne
  simp only [h2, h3, Bool.false_or] at h1
  exact edge_spec h1
theorem hp_take {i : Nat} {op : Op} {s : S} (hi : ops[i]? = some ⟨some d, op, ty, pos, af, none⟩) (hs : (Region.noSelect ops && lateWait ops m i) = true) (hf : Region.free .any ops listed i = true) (hr : (Region.ready .any ops listed).contains i = true) (hd : d < nt) (hQ : PanI Q)
    (hop : HOk c Sw env H ⟨some d, op, ty, pos, af, none⟩ s) (h : HP c ops Q Sw m fuel (listed.setIfInBounds i true) ((d, s) :: env) H) : HP c ops Q Sw m (fuel + 1) listed env H := by
  intro a w hst hS
  obtain ⟨v, h1, h2⟩ := hop a w hst hS
  rw [Bool.and_eq_true] at hs
  exact anyX_first hi (Region.noSelect_spec hs.1) (fun ch a w h => hQ ch a _ _ w h) (late_spec hs.2) fuel listed a w (Region.free_spec hi hf) (by simpa using hr) (.inl ⟨rfl, h1⟩) hS (h _ _ (hst.next hd hst.heap h2 (fun _ _ h => h)) hS)
omit [Gl P] in
theorem anyX_all {rs : List Nat} {a : Act} {w : World} (hr : Region.ready .any ops listed = rs) (hne : rs ≠ []) (h : ∀ i ∈ rs, wpOp P ops Q i (fun a' w' => (i < m → Sw w') ∧ anyX P .any ops Q Sw m fuel (listed.setIfInBounds i true) a' w') a w) : anyX P .any ops Q Sw m (fuel + 1) listed a w :=
  ⟨fun h0 => absurd (hr ▸ h0) hne, hr ▸ h⟩
/-- The only one that may come up now. -/
theorem hp_op {i : Nat} {op : Op} (hi : ops[i]? = some ⟨some d, op, ty, pos, af, none⟩) (hr : Region.ready .any ops listed = [i]) (hd : d < nt)
    (h : OpWp c ⟨some d, op, ty, pos, af, none⟩ env H (fun s H' => (∀ w, StW c H' w → Sw w) ∧ HP c ops Q Sw m fuel (listed.setIfInBounds i true) ((d, s) :: env) H')) : HP c ops Q Sw m (fuel + 1) listed env H := by
  intro a w hst hS
  refine anyX_all hr (by simp) (fun j hj => ?_)
  obtain rfl : j = i := by simpa using hj
  unfold wpOp
  rw [hi]
  dsimp only
  rw [if_pos (show Region.wanted _ _ = true from rfl)]
  refine .inl (h a w hst _ _ ?_)
  intro s H' v w' hK hw' hv hk
  exact ⟨fun _ => hK.1 _ hw', hK.2 _ _ (hst.next hd hw' hv hk) (hK.1 _ hw')⟩
theorem hp_op0 {i : Nat} {op : Op} (hi : ops[i]? = some ⟨none, op, ty, pos, af, none⟩) (hr : Region.ready .any ops listed = [i])
    (h : OpWp c ⟨none, op, ty, pos, af, none⟩ env H (fun _ H' => (∀ w, StW c H' w → Sw w) ∧ HP c ops Q Sw m fuel (listed.setIfInBounds i true) env H')) : HP c ops Q Sw m (fuel + 1) listed env H := by
  intro a w hst hS
  refine anyX_all hr (by simp) (fun j hj => ?_)
  obtain rfl : j = i := by simpa using hj
  unfold wpOp
  rw [hi]
  dsimp only
  rw [if_pos (show Region.wanted _ _ = true from rfl)]
  refine .inl (h a w hst _ _ ?_)
  intro s H' v w' hK hw' hv hk
  exact ⟨fun _ => hK.1 _ hw', hK.2 _ _ (hst.next0 hw' hk) (hK.1 _ hw')⟩
theorem hp_done (hr : Region.ready .any ops listed = []) (h : JQ c Q .normal env H) : HP c ops Q Sw m fuel listed env H := by
  intro a w hst _
  cases fuel with
  | zero => exact ⟨hr, h a w hst⟩
  | succ fuel => exact ⟨fun _ => h a w hst, by rw [hr]; simp⟩
/-- What comes behind the first m, one after the other: nothing need hold any more. -/
def HT (c : Cx P nt) (ops : Array Oper) (Q : Exit → Act → World → Prop) (Sw : World → Prop) (m fuel : Nat) (listed : Array Bool) (env : Env) (H : List Ch) : Prop :=
  ∀ a w, St c env H a w → anyX P .any ops Q Sw m fuel listed a w
theorem hp_tail (h : HT c ops Q Sw m fuel listed env H) : HP c ops Q Sw m fuel listed env H := fun a w hst _ => h a w hst
theorem ht_op {i : Nat} {op : Op} (hi : ops[i]? = some ⟨some d, op, ty, pos, af, none⟩) (hr : Region.ready .any ops listed = [i]) (hd : d < nt) (hm : m ≤ i)
    (h : OpWp c ⟨some d, op, ty, pos, af, none⟩ env H (fun s H' => HT c ops Q Sw m fuel (listed.setIfInBounds i true) ((d, s) :: env) H')) : HT c ops Q Sw m (fuel + 1) listed env H := by
  intro a w hst
  refine anyX_all hr (by simp) (fun j hj => ?_)
  obtain rfl : j = i := by simpa using hj
  unfold wpOp
  rw [hi]
  dsimp only
  rw [if_pos (show Region.wanted _ _ = true from rfl)]
  refine .inl (h a w hst _ _ ?_)
  intro s H' v w' hK hw' hv hk
  exact ⟨fun hlt => absurd hlt (by omega), hK _ _ (hst.next hd hw' hv hk)⟩
theorem ht_op0 {i : Nat} {op : Op} (hi : ops[i]? = some ⟨none, op, ty, pos, af, none⟩) (hr : Region.ready .any ops listed = [i]) (hm : m ≤ i)
    (h : OpWp c ⟨none, op, ty, pos, af, none⟩ env H (fun _ H' => HT c ops Q Sw m fuel (listed.setIfInBounds i true) env H')) : HT c ops Q Sw m (fuel + 1) listed env H := by
  intro a w hst
  refine anyX_all hr (by simp) (fun j hj => ?_)
  obtain rfl : j = i := by simpa using hj
  unfold wpOp
  rw [hi]
  dsimp only
  rw [if_pos (show Region.wanted _ _ = true from rfl)]
  refine .inl (h a w hst _ _ ?_)
  intro s H' v w' hK hw' hv hk
  exact ⟨fun hlt => absurd hlt (by omega), hK _ _ (hst.next0 hw' hk)⟩
theorem ht_done (hr : Region.ready .any ops listed = []) (h : JQ c Q .normal env H) : HT c ops Q Sw m fuel listed env H := by
  intro a w hst
  cases fuel with
  | zero => exact ⟨hr, h a w hst⟩
  | succ fuel => exact ⟨fun _ => h a w hst, by rw [hr]; simp⟩
theorem hp_begin {id n : Nat} (m : Nat) (hn : ops.size = n) (hm : P.follows .mixedOrders = true) {a : Act} {w : World} (hs : St c env H a w) (hS : Sw { w with drawn := w.drawn + 1 }) (h : HP c ops Q Sw m n (Array.replicate n false) env H) : (Code.region id ops true).wp P Q a w := by
  subst hn
  refine wp_region_any hm (any_of_x (S := Sw) (m := m) _ _ _ _ ?_)
  obtain ⟨d1, d2⟩ := stw_drew hs.heap
  exact h a _ ⟨hs.size, hs.defers, fun t s hl => d2 _ _ (hs.slots t s hl), d1⟩ hS
/-- No block is looked at that is turned elsewhere. -/
theorem jc_hp0 {id n : Nat} (m : Nat) (hn : ops.size = n) (hm : P.follows .mixedOrders = true) (h : HP c ops Q (Keep []) m n (Array.replicate n false) env H) : JC c (.region id ops true) Q env H :=
  fun _ _ hs => hp_begin m hn hm hs (by intro p hp; cases hp) h
theorem keep0 : ∀ w, StW c H w → Keep [] w := by intro w _ p hp; cases hp
theorem mem0 {α : Type} {x : α} {l : List α} : x ∈ x :: l := List.mem_cons_self ..
theorem mem1 {α : Type} {x y : α} {l : List α} : x ∈ y :: x :: l := List.mem_cons_of_mem _ (List.mem_cons_self ..)

theorem hok_assign {d : Option Tmp} {s : S} (hx : env.ev x = some s) : HOk c Sw env H ⟨d, .assign x, ty, pos, af, none⟩ s :=
  fun a _ hst _ => ⟨a.eval x, fun _ _ => rfl, ev_ok hst hx⟩
theorem ow_prefixMap {α : Type} {f : α → List C} {l : List α} {n : Nat} {d : Option Nat} {K : S → List Ch → Prop} {g : Option (Nat × Bool)} [SL P t] (hx : env.ev x = some (.cell (.list (l.map f)))) (hy : env.ev y = some (In .i64 (n : Int))) (hle : n ≤ l.length)
    (hK : K (.cell (.list ((l.take n).map f))) H) : OpWp c ⟨d, .slice t x none (some y) none, ty, pos, af, g⟩ env H K :=
  ow_prefix hx hy (by omega) (by rw [List.length_map]; omega) (by rw [show ((n : Int)).toNat = n by omega, ← List.map_take]; exact hK)
end
end Go.Vc
end

section
namespace Go.Vc
open Go.RowKit

section
variable {P : Program} [Gl P] {nt : Nat} {c : Cx P nt} {env : Env} {H : List Ch} {K : S → List Ch → Prop}
variable {d : Option Tmp} {ty t t' : TypeId} {pos : String} {af : Array Edge} {g : Option (Nat × Bool)} {x y : Operand}
/-- What is owned becomes what is only read: where cell i of a block holds it. -/
theorem st_freezeBi {a : Act} {w : World} {v : Value} {e t : TypeId} {b k j j2 : Nat} {rows : List (List C)} {row : List C} {Hr Hr2 : List Ch} (i : Nat) (h : St c env H a w) (hp : pick [j] H = some ([.own v e k rows], Hr)) (hp2 : pick [j2] Hr = some ([.blk b t row], Hr2)) (hi : row[i]? = some (.val v)) (hX : ∀ b ∈ c.X, b ∈ hb Hr) :
    St c env (.blk b t (row.set i (.list rows)) :: Hr2) a w := by
  have h' : StW c (.own v e k rows :: Hr) w := h.heap.perm (pick_perm hp)
  have hav : c.av (.own v e k rows :: Hr) = c.av H := av_perm c (pick_perm hp)
  obtain ⟨f1, f2, f3⟩ := stw_freeze h' hX
  have hs : St c env Hr a w := ⟨h.size, h.defers, fun t s hl => f3 _ _ (by rw [hav]; exact h.slots t s hl), f1⟩
  obtain ⟨cs, g1, g2⟩ := blk_ok hs hp2
  refine st_row hs hp2 ⟨cs, g1, ?_⟩
  obtain ⟨u, hu, hr⟩ := rdRow_get g2 hi
  have := rdRow_set (i := i) g2 (c := .list rows) (v := u) (by rw [hr.1]; exact f2)
  obtain ⟨hlt, rfl⟩ := List.getElem?_eq_some_iff.1 hu
  rwa [List.set_getElem_self] at this
theorem jq_freezeBi {Q : Exit → Act → World → Prop} {ex : Exit} (j j2 i : Nat) {v : Value} {e t : TypeId} {b k : Nat} {rows : List (List C)} {row : List C} {Hr Hr2 : List Ch} (hp : pick [j] H = some ([.own v e k rows], Hr)) (hp2 : pick [j2] Hr = some ([.blk b t row], Hr2)) (hi : row[i]? = some (.val v)) (hX : ∀ b ∈ c.X, b ∈ hb Hr)
    (h : JQ c Q ex env (.blk b t (row.set i (.list rows)) :: Hr2)) : JQ c Q ex env H := fun a w hs => h a w (st_freezeBi i hs hp hp2 hi hX)
end
end Go.Vc
end

section
namespace Go.Vc
open Go.RowKit

section
variable {P : Program} [Gl P] {nt : Nat} {c : Cx P nt} {env : Env} {H : List Ch} {K : S → List Ch → Prop}
variable {d : Option Tmp} {ty t t' : TypeId} {pos : String} {af : Array Edge} {g : Option (Nat × Bool)} {x y : Operand}
end
end Go.Vc
end

section
namespace Go.Vc
open Go.RowKit

section
variable {P : Program} [Gl P] {nt : Nat} {c : Cx P nt} {env : Env} {H : List Ch} {K : S → List Ch → Prop}
variable {d : Option Tmp} {ty t t' : TypeId} {pos : String} {af : Array Edge} {g : Option (Nat × Bool)} {x y : Operand}
def bare (a : Act) : Act := { a with defers := [] }
variable {ds : List Deferred} {ops : Array Oper} {Q : Exit → Act → World → Prop} {l : List Oper}
end
end Go.Vc
end

section
namespace Go.Vc
open Go.RowKit

section
variable {P : Program} [Gl P] {nt : Nat} {c : Cx P nt} {env : Env} {H Hr : List Ch} {ops : Array Oper} {Q : Exit → Act → World → Prop} {Sw : World → Prop}
variable {m fuel : Nat} {listed : Array Bool} {i j di dj : Nat} {opi opj : Op} {ti tj : TypeId} {pi pj : String} {afi afj : Array Edge} {s0 : S}
/-- What is left when the first m are done: nothing need stand any more. -/
def allDone (m : Nat) (listed : Array Bool) : Bool := (List.range m).all fun i => listed.getD i true
theorem hok_indexOwn {d : Option Tmp} {t ty : TypeId} {pos : String} {af : Array Edge} {x y : Operand} [SL P t] {v : Value} {e : TypeId} {k : Nat} {rows : List (List C)} {q : Int} (p : Nat) (hx : env.ev x = some (.cell (.val v))) (hp : pick [p] H = some ([.own v e k rows], Hr)) (hy : env.ev y = some (In .i64 q)) (h0 : 0 ≤ q) (hlt : q.toNat < rows.length)
    (hz : (TI.i P (SL.e P t)).size = k) : HOk c Sw env H ⟨d, .indexAddr t x y, ty, pos, af, none⟩ (.cell (.inn v (q.toNat * k))) :=
  fun a w h _ => by
    obtain ⟨vs, ho, _, _⟩ := h.heap.ok (.own v e k rows) ((pick_perm hp).mem_iff.2 (by simp))
    rcases ho.2 with ⟨rfl, h0⟩ | ⟨b, cap, cur, rfl, _, _⟩
    · omega
    · refine ⟨.pointer (some ⟨b, q.toNat * k, none⟩), fun w' _ => ?_, b, rows.length, cap, rfl, rfl⟩
      have : 0 ≤ q ∧ q < ↑rows.length := ⟨h0, by omega⟩
      simp [execOp, ev_val h hx, ev_val h hy, Instr.indexAt, asIntOf, run_elem t, this, run_sizeOf, add_at, hz]
end
end Go.Vc
end

section
namespace Go.Vc
open Go.RowKit

section
variable {P : Program} [Gl P] {nt : Nat} {c : Cx P nt} {env : Env} {H Hr : List Ch} {F : List (S × Value)} {ops : Array Oper} {Q : Exit → Act → World → Prop}
variable {fuel : Nat} {listed : Array Bool} {i j d : Nat} {ty t : TypeId} {pos : String} {af : Array Edge} {x y : Operand}
@[reducible] def putE (d : Option Nat) (s : S) (env : Env) : Env := match d with
  | some d => (d, s) :: env
  | none => env
def okD (d : Option Nat) (nt : Nat) : Bool := match d with
  | some d => decide (d < nt)
  | none => true
end
end Go.Vc
end

section
namespace Go.Vc
open Go.RowKit
theorem r_.{u} {α : Sort u} {a : α} : a = a := rfl
theorem g_ {p : Prop} (h : p := by omega) : p := h
theorem h_ {p : Prop} (h : p := by assumption) : p := h
theorem k_ {p : Prop} (h : p := by kernel_rfl) : p := h
theorem t_ {p : Prop} [Decidable p] (h : p := by omega) : decide p = true := decide_eq_true h
theorem u_ {p : Prop} [Decidable p] (h : p := by assumption) : decide p = true := decide_eq_true h
theorem v_ {p : Prop} [Decidable p] (h : ¬ p := by omega) : decide p = false := decide_eq_false h
theorem w_ {p : Prop} [Decidable p] (h : ¬ p := by assumption) : decide p = false := decide_eq_false h
theorem x_ {α : Type} [DecidableEq α] {a : α} : decide (a = a) = true := decide_eq_true rfl
theorem p_ {s : S} {H : List Ch} : s = s ∧ H.Perm H := ⟨rfl, List.Perm.refl _⟩
theorem b_ {n m : Nat} (h : Nat.ble n m = true := by rfl) : n ≤ m := nb h
section
variable {P : Program} [Gl P] {nt : Nat} {c : Cx P nt} {env : Env} {H Hr : List Ch} {ops : Array Oper} {Q : Exit → Act → World → Prop} {l : List Oper} {d : Nat} {op : Op} {ty t : TypeId} {pos : String} {af : Array Edge} {x y : Operand}
theorem o_ (hd : Nat.ble (d + 1) nt = true) (h : OpWp c ⟨some d, op, ty, pos, af, none⟩ env H (fun s H' => JL c ops Q l ((d, s) :: env) H')) : JL c ops Q (⟨some d, op, ty, pos, af, none⟩ :: l) env H := jl_op h (nb hd)
theorem M_ {s : S} (h : (env.ev x, Nat.ble (d + 1) nt) = (some s, true)) (k : JL c ops Q l ((d, s) :: env) H) : JL c ops Q (⟨some d, .move x, ty, pos, af, none⟩ :: l) env H := jl_op (ow_move (Prod.mk.inj h).1 k) (nb (Prod.mk.inj h).2)
theorem E_ {s : S} (h : (env.ev x, Nat.ble (d + 1) nt) = (some s, true)) (k : JL c ops Q l ((d, s) :: env) H) : JL c ops Q (⟨some d, .assign x, ty, pos, af, none⟩ :: l) env H := jl_op (ow_assign (Prod.mk.inj h).1 k) (nb (Prod.mk.inj h).2)
theorem F_ {b o f off size : Nat} [TI P t] [TS P t] (h : (structB (TI.u P t), env.ev x, (TS.pl P t)[f]?, Nat.ble 1 size, Nat.ble (d + 1) nt) = (true, some (.cell (.val (.pointer (some ⟨b, o, none⟩)))), some (off, size), true, true))
    (k : JL c ops Q l ((d, .cell (.val (.pointer (some ⟨b, o + off, none⟩)))) :: env) H) : JL c ops Q (⟨some d, .fieldAddr t x f, ty, pos, af, none⟩ :: l) env H := by
  simp only [Prod.mk.injEq] at h
  obtain ⟨h1, h2, h3, h4, h5⟩ := h
  exact jl_op (ow_fieldAddr h1 h2 h3 (nb h4) k) (nb h5)
theorem L_ {b o : Nat} {row : List C} {e : C} {bt : TypeId} [TI P t] (j : Nat) (h : (aggB (TI.u P t), env.ev x, pick [j] H, row[o]?, Nat.ble (d + 1) nt) = (false, some (.cell (.val (.pointer (some ⟨b, o, none⟩)))), some ([.blk b bt row], Hr), some e, true))
    (k : JL c ops Q l ((d, .cell e) :: env) H) : JL c ops Q (⟨some d, .load t x, ty, pos, af, none⟩ :: l) env H := by
  simp only [Prod.mk.injEq] at h
  obtain ⟨h1, h2, h3, h4, h5⟩ := h
  exact jl_op (ow_load j h1 h2 h3 h4 k) (nb h5)
theorem A_ {b : Nat} {row : List C} {bt : TypeId} [TI P t] (j : Nat) (h : (aggB (TI.u P t), env.ev x, pick [j] H, (TI.i P t).size, Nat.ble (d + 1) nt) = (true, some (.cell (.val (.pointer (some ⟨b, 0, none⟩)))), some ([.blk b bt row], Hr), row.length, true))
    (k : JL c ops Q l ((d, .row row) :: env) H) : JL c ops Q (⟨some d, .load t x, ty, pos, af, none⟩ :: l) env H := by
  simp only [Prod.mk.injEq] at h
  obtain ⟨h1, h2, h3, h4, h5⟩ := h
  exact jl_op (ow_loadAll j h1 h2 h3 h4 k) (nb h5)
theorem S_ {b : Nat} {row r : List C} {s : S} {bt : TypeId} [TI P t] (j : Nat) (h : (env.ev x, env.ev y, s.cells, pick [j] H, (TI.i P t).size, row.length) = (some (.cell (.val (.pointer (some ⟨b, 0, none⟩)))), some s, some r, some ([.blk b bt row], Hr), r.length, r.length))
    (k : JL c ops Q l env (.blk b bt r :: Hr)) : JL c ops Q (⟨none, .store t x y, ty, pos, af, none⟩ :: l) env H := by
  simp only [Prod.mk.injEq] at h
  obtain ⟨h1, h2, h3, h4, h5, h6⟩ := h
  exact jl_op0 (ow_storeAll j h1 h2 h3 h4 h5 h6 k)
theorem W_ {b o : Nat} {row : List C} {c1 : C} {bt : TypeId} [TI P t] (j : Nat) (h : (env.ev x, env.ev y, pick [j] H, (TI.i P t).size, Nat.ble (o + 1) row.length) = (some (.cell (.val (.pointer (some ⟨b, o, none⟩)))), some (.cell c1), some ([.blk b bt row], Hr), 1, true))
    (k : JL c ops Q l env (.blk b bt (row.set o c1) :: Hr)) : JL c ops Q (⟨none, .store t x y, ty, pos, af, none⟩ :: l) env H := by
  simp only [Prod.mk.injEq] at h
  obtain ⟨h1, h2, h3, h4, h5⟩ := h
  exact jl_op0 (ow_store1 j h1 h2 h3 h4 (nb h5) k)
theorem X_ {ss : List S} {i : Nat} {s : S} (h : (env.ev x, ss[i]?, Nat.ble (d + 1) nt) = (some (.tup ss), some s, true)) (k : JL c ops Q l ((d, s) :: env) H) : JL c ops Q (⟨some d, .extract x i, ty, pos, af, none⟩ :: l) env H := by
  simp only [Prod.mk.injEq] at h
  obtain ⟨h1, h2, h3⟩ := h
  exact jl_op (ow_extract h1 h2 k) (nb h3)
theorem R_ {id : Nat} {ls : List Oper} {z : Code} (h : JL c ls.toArray (Exit.then (fun a w => z.wp P Q a w) Q) ls env H) : JC c (.seq (.region id ls.toArray false) z) Q env H := jc_seq (jc_region h)
theorem T_ {z : Code} (h : JC c z Q env H) : JL c ops (Exit.then (fun a w => z.wp P Q a w) Q) [] env H := jl_nil (jq_then h)
theorem B_ {id : Nat} {z u : Code} (h : JC c u (Exit.inBlock id (Exit.then (fun a w => z.wp P Q a w) Q)) env H) : JC c (.seq (.block id u) z) Q env H := jc_seq (jc_block h)
end
section
variable {P : Program} [Gl P] {nt : Nat} {ops : Array Oper} {H : List Ch} {K : Env → Prop} {env : Env} {l : List Oper} {d : Nat} {ty t : TypeId} {pos : String} {af : Array Edge} {x y : Operand} {Hr : List Ch}
theorem yM_ {s : S} (h : (env.only (Oper.looksAt ops ⟨some d, .move x, ty, pos, af, none⟩)).ev x = some s) (k : AnyOk P nt ops H K l ((d, s) :: env)) : AnyOk P nt ops H K (⟨some d, .move x, ty, pos, af, none⟩ :: l) env := any_op (fun _ => ow_move h p_) k
theorem yE_ {s : S} (h : (env.only (Oper.looksAt ops ⟨some d, .assign x, ty, pos, af, none⟩)).ev x = some s) (k : AnyOk P nt ops H K l ((d, s) :: env)) : AnyOk P nt ops H K (⟨some d, .assign x, ty, pos, af, none⟩ :: l) env := any_op (fun _ => ow_assign h p_) k
theorem yF_ {b o f off size : Nat} [TI P t] [TS P t] (h : (structB (TI.u P t), (env.only (Oper.looksAt ops ⟨some d, .fieldAddr t x f, ty, pos, af, none⟩)).ev x, (TS.pl P t)[f]?, Nat.ble 1 size) = (true, some (.cell (.val (.pointer (some ⟨b, o, none⟩)))), some (off, size), true))
    (k : AnyOk P nt ops H K l ((d, .cell (.val (.pointer (some ⟨b, o + off, none⟩)))) :: env)) : AnyOk P nt ops H K (⟨some d, .fieldAddr t x f, ty, pos, af, none⟩ :: l) env := by
  simp only [Prod.mk.injEq] at h
  obtain ⟨h1, h2, h3, h4⟩ := h
  exact any_op (fun _ => ow_fieldAddr h1 h2 h3 (nb h4) p_) k
theorem yL_ {b o : Nat} {row : List C} {e : C} {bt : TypeId} [TI P t] (j : Nat) (h : (aggB (TI.u P t), (env.only (Oper.looksAt ops ⟨some d, .load t x, ty, pos, af, none⟩)).ev x, pick [j] H, row[o]?) = (false, some (.cell (.val (.pointer (some ⟨b, o, none⟩)))), some ([.blk b bt row], Hr), some e))
    (k : AnyOk P nt ops H K l ((d, .cell e) :: env)) : AnyOk P nt ops H K (⟨some d, .load t x, ty, pos, af, none⟩ :: l) env := by
  simp only [Prod.mk.injEq] at h
  obtain ⟨h1, h2, h3, h4⟩ := h
  exact any_op (fun _ => ow_load j h1 h2 h3 h4 p_) k
end
abbrev aa_ := @any_op
abbrev ab_ := @any_guardY
abbrev ac_ := @any_guardN
abbrev ad_ := @any_guardU
abbrev ae_ := @any_nil
abbrev af_ := @any_alloc
abbrev ag_ := @jl_op0
abbrev ah_ := @jl_guardY
abbrev ai_ := @jl_guardN
abbrev aj_ := @jl_guardU
abbrev ak_ := @jl_nil
abbrev al_ := @jq_then
abbrev am_ := @jc_seq
abbrev an_ := @jc_region
abbrev ao_ := @jc_any
abbrev ap_ := @jc_condF
abbrev aq_ := @jc_condT
abbrev ar_ := @jc_ret
abbrev as_ := @jc_skip
abbrev au_ := @jc_block
abbrev av_ := @jc_exit
abbrev aw_ := @jq_then_ret
abbrev ax_ := @jq_then_exit
abbrev ay_ := @jq_block
abbrev az_ := @jq_block_ret
abbrev ba_ := @jq_block_exit
abbrev bc_ := @sub_step
abbrev bd_ := @ow_move
abbrev bf_ := @ow_fieldAddr
abbrev bg_ := @ow_load
abbrev bi_ := @ow_call1
abbrev bj_ := @ow_add64
abbrev bk_ := @ow_storeAll
abbrev bl_ := @ow_alloc
abbrev bm_ := @ow_call0
abbrev bn_ := @ow_eql
abbrev bp_ := @ow_pickT
abbrev bq_ := @ow_buildSlice
abbrev br_ := @ow_len
abbrev bs_ := @ow_loadAll
abbrev bt_ := @ow_callP
abbrev bu_ := @ow_build
abbrev bv_ := @ow_pickF
abbrev bw_ := @ow_lss
abbrev bx_ := @ow_neq
abbrev bz_ := @ow_gtr
abbrev ca_ := @ow_store1
abbrev cb_ := @ow_loadPlace
abbrev cc_ := @ow_indexAddrMapE
abbrev cd_ := @ow_not
abbrev ce_ := @ow_notdec
abbrev cf_ := @ow_fieldAddrPlace
abbrev cg_ := @ow_sub64
abbrev ci_ := @ow_box
abbrev cj_ := @ow_box1
abbrev cn_ := @ow_geq
abbrev cr_ := @ow_loadPlaceN
abbrev cu_ := @ow_leq
abbrev cv_ := @ow_indexAddrMapI
abbrev cw_ := @ow_lenown
abbrev cz_ := @ow_mul64
abbrev dc_ := @ow_indexOwn
abbrev df_ := @hp_take
abbrev dg_ := @hp_op
abbrev dh_ := @hp_op0
abbrev di_ := @ht_op
abbrev dj_ := @ht_op0
abbrev dk_ := @hok_move
abbrev dl_ := @hok_fieldAddr
abbrev dm_ := @hok_load
end Go.Vc
end

section
namespace Go.Vc
open Go.RowKit

section
variable {P : Program} [Gl P] {nt : Nat} {c : Cx P nt} {env : Env} {H Hr : List Ch} {ops : Array Oper} {Q : Exit → Act → World → Prop} {Sw : World → Prop}
variable {m fuel : Nat} {listed : Array Bool} {i j k di dj dk : Nat} {opi opj : Op} {ti tj tk : TypeId} {pi pj pk : String} {afi afj afk : Array Edge} {s0 : S}
theorem hp_list (js : List Nat) (hr : Region.ready .any ops listed = js) (hne : js ≠ []) (h : ∀ i ∈ js, ∃ o, ops[i]? = some o ∧ (o.guard.isNone && okD o.dst nt) = true ∧ OpWp c o env H (fun s H' => (∀ w, StW c H' w → Sw w) ∧ HP c ops Q Sw m fuel (listed.setIfInBounds i true) (putE o.dst s env) H')) : HP c ops Q Sw m (fuel + 1) listed env H := by
  intro a w hst hS
  refine anyX_all hr hne (fun i hi => ?_)
  obtain ⟨o, ho, hg, h1⟩ := h i hi
  rw [Bool.and_eq_true, Option.isNone_iff_eq_none] at hg
  obtain ⟨dst, op, ty, pos, af, g⟩ := o
  obtain ⟨hg1, hg2⟩ := hg
  obtain rfl : g = none := hg1
  unfold wpOp
  rw [ho]
  dsimp only
  rw [if_pos (show Region.wanted _ _ = true from rfl)]
  refine .inl (h1 a w hst _ _ ?_)
  rintro s H' v w' ⟨hk1, hk2⟩ hw' hv hk
  refine ⟨fun _ => hk1 _ hw', hk2 _ _ ?_ (hk1 _ hw')⟩
  cases dst with
  | none => exact hst.next0 hw' hk
  | some d => exact hst.next (by simpa [okD] using hg2) hw' hv hk
/-- A block some of whose cells are known exactly. -/
theorem rdRow_val {w : World} {A : Nat → Prop} {row : List C} {cs : List Value} (h : RdRow w A row cs) (i : Nat) (v : Value) (hi : row[i]? = some (C.val v)) : cs[i]? = some v := by
  obtain ⟨u, hu, hr⟩ := rdRow_get h hi
  obtain ⟨rfl, _⟩ := hr
  exact hu
theorem jc_hpM {id n : Nat} (m : Nat) (hn : ops.size = n) {b1 : Nat} {t1 : TypeId} {r1 : List C} (j1 : Nat) (hm : P.follows .mixedOrders = true) (hp : pick [j1] H = some ([.blk b1 t1 r1], Hr))
    (h : ∀ cs1 : List Value, cs1.length = r1.length → (∀ (i : Nat) (v : Value), r1[i]? = some (C.val v) → cs1[i]? = some v) → HP c ops Q (Keep [(b1, cs1, t1)]) m n (Array.replicate n false) env H) : JC c (.region id ops true) Q env H := by
  intro a w hs
  obtain ⟨cs1, g1, k1⟩ := blk_ok hs hp
  refine hp_begin m hn hm hs ?_ (h cs1 (rdRow_length k1) (rdRow_val k1))
  intro p hp
  obtain rfl := List.mem_singleton.1 hp
  exact g1
theorem hok_build {d : Option Tmp} {ty t : TypeId} {pos : String} {af : Array Edge} [TI P t] [TS P t] (hs : structB (TI.u P t) = true) {z : Value} (hz : (TI.i P t).zero = some z) (h1 : z.cells.toList.all Value.oneCell' = true) {ps : Array (Nat × Operand)} {ss : List (Nat × S)} (hp : env.parts ps.toList = some ss) {row : List C}
    (hf : fillC (TS.pl P t) (zeroRow z) ss = some row) : HOk c Sw env H ⟨d, .build t ps, ty, pos, af, none⟩ (.row row) :=
  fun a w h _ => by
    obtain ⟨cs, g1, g2⟩ := fill_ok (parts_ok h hp) (rdRow_zero _ (List.all_eq_true.1 h1)) hf
    refine ⟨.agg cs.toArray, fun w' _ => ?_, cs.toArray, rfl, by simpa using g2⟩
    simp only [Array.toArray_toList] at g1
    simp only [execOp, Instr.build, Sem.run_bind, run_zeroValue t hz, run_fields t hs, Result.andThen_ok, TS.hpl, Array.toList_map, g1, Sem.run_pure]
end
end Go.Vc
end

section
namespace Go.Vc
open Go.RowKit

section
variable {P : Program} [Gl P] {nt : Nat} {c : Cx P nt} {env : Env} {H Hr : List Ch} {ops : Array Oper} {Q : Exit → Act → World → Prop}
variable {x : Operand} {t : TypeId} {ty : TypeId} {pos : String} {af : Array Edge}
end
end Go.Vc
end

section
namespace Go.Vc
open Go.RowKit

def know (c : C) (v : Value) : C := match c with
  | .val u => .val u
  | .both u c => .both u c
  | c => .both v c
def knows : C → Option Value
  | .val v => some v
  | .both v _ => some v
  | _ => none
def knowsRow : List C → Option (List Value)
  | [] => some []
  | c :: cs => match knows c, knowsRow cs with
    | some v, some l => some (v :: l)
    | _, _ => none
def unk : C → C
  | .both _ c => c
  | c => c
theorem rd1_know {w : World} {A : Nat → Prop} {c : C} {v : Value} (h : Rd1 w A c v) : Rd1 w A (know c v) v := by
  cases c with
  | val u => exact h
  | both u c => exact h
  | _ => exact ⟨rfl, h⟩
theorem rdRow_know {w : World} {A : Nat → Prop} : ∀ {row : List C} {cs : List Value}, RdRow w A row cs → RdRow w A (List.zipWith know row cs) cs
  | [], _, h => by simp only [RdRow] at h; subst h; rfl
  | c :: row, _, h => by
    obtain ⟨v, r, rfl, h1, h2⟩ := h
    exact ⟨v, r, rfl, rd1_know h1, rdRow_know h2⟩
theorem rd1_knows {w : World} {A : Nat → Prop} {c : C} {u v : Value} (h : Rd1 w A c v) (hk : knows c = some u) : v = u := by
  cases c with
  | val x => obtain rfl := Option.some.inj hk; exact h.1
  | both x c => obtain rfl := Option.some.inj hk; exact h.1
  | _ => cases hk
theorem rdRow_knows {w : World} {A : Nat → Prop} : ∀ {row : List C} {cs us : List Value}, RdRow w A row cs → knowsRow row = some us → cs = us
  | [], _, us, h, hk => by
    simp only [RdRow] at h
    subst h
    simpa [knowsRow] using hk
  | c :: row, _, us, h, hk => by
    obtain ⟨v, r, rfl, h1, h2⟩ := h
    unfold knowsRow at hk
    split at hk
    · rename_i x l e1 e2
      obtain rfl := Option.some.inj hk
      rw [rd1_knows h1 e1, rdRow_knows h2 e2]
    · cases hk
theorem rd1_unk {w : World} {A : Nat → Prop} {c : C} {v : Value} (h : Rd1 w A c v) : Rd1 w A (unk c) v := by
  cases c with
  | both u c => exact h.2
  | _ => exact h
theorem rdRow_unk {w : World} {A : Nat → Prop} : ∀ {row : List C} {cs : List Value}, RdRow w A row cs → RdRow w A (row.map unk) cs
  | [], _, h => h
  | c :: row, _, h => by
    obtain ⟨v, r, rfl, h1, h2⟩ := h
    exact ⟨v, r, rfl, rd1_unk h1, rdRow_unk h2⟩
section
variable {P : Program} [Gl P] {nt : Nat} {c : Cx P nt} {env : Env} {H Hr : List Ch} {ops : Array Oper} {Q : Exit → Act → World → Prop} {Sw : World → Prop} {L : List (Nat × List Value × TypeId)}
variable {m fuel : Nat} {listed : Array Bool} {x : Operand} {t : TypeId} {ty : TypeId} {pos : String} {af : Array Edge}
theorem hp_know {b : Nat} {bt : TypeId} {row : List C} {cs : List Value} (j : Nat) (hp : pick [j] H = some ([.blk b bt row], Hr)) (hm : (b, cs, bt) ∈ L) (h : HP c ops Q (Keep L) m fuel listed env (.blk b bt (List.zipWith know row cs) :: Hr)) : HP c ops Q (Keep L) m fuel listed env H := by
  intro a w hst hS
  obtain ⟨cs', g1, g2⟩ := blk_ok hst hp
  have g3 := hS _ hm
  dsimp only at g3
  rw [g1] at g3
  obtain rfl : cs' = cs := by simpa using g3
  exact h a w (st_row hst hp ⟨cs', g1, rdRow_know g2⟩) hS
theorem keepK {b1 : Nat} {t1 : TypeId} {row : List C} {cs1 : List Value} (j : Nat) (hp : H[j]? = some (.blk b1 t1 row)) (hk : knowsRow row = some cs1) : ∀ w, StW c H w → Keep [(b1, cs1, t1)] w := by
  intro w hw p hp2
  obtain rfl := List.mem_singleton.1 hp2
  obtain ⟨cs, g1, g2⟩ := hw.ok _ (List.mem_of_getElem? hp)
  rw [rdRow_knows g2 hk] at g1
  exact g1
theorem keepK2 {b1 b2 : Nat} {t1 t2 : TypeId} {r1 r2 : List C} {cs1 cs2 : List Value} (j k : Nat) (hp : H[j]? = some (.blk b1 t1 r1)) (hk : knowsRow r1 = some cs1) (hq : H[k]? = some (.blk b2 t2 r2)) (hk2 : knowsRow r2 = some cs2) : ∀ w, StW c H w → Keep [(b1, cs1, t1), (b2, cs2, t2)] w := by
  intro w hw p hp2
  rcases List.mem_cons.1 hp2 with rfl | hp2
  · exact keepK j hp hk w hw _ (List.mem_singleton.2 rfl)
  · obtain rfl := List.mem_singleton.1 hp2
    exact keepK k hq hk2 w hw _ (List.mem_singleton.2 rfl)
theorem hok_loadK {d : Option Tmp} {b o : Nat} {row : List C} {u : Value} {e : C} {bt : TypeId} {cs : List Value} [TI P t] (j : Nat) (ha : aggB (TI.u P t) = false) (hx : env.ev x = some (.cell (.val (.pointer (some ⟨b, o, none⟩))))) (hp : pick [j] H = some ([.blk b bt row], Hr))
    (hm : (b, cs, bt) ∈ L) (he : row[o]? = some (.both u e)) : HOk c (Keep L) env H ⟨d, .load t x, ty, pos, af, none⟩ (.cell e) :=
  fun a w hst hS => by
    obtain ⟨v, h1, h2⟩ := hok_load (d := d) (ty := ty) (pos := pos) (af := af) j ha hx hp hm he a w hst hS
    exact ⟨v, h1, h2.2⟩
/-- One of several that may come next. -/
def HStep (c : Cx P nt) (ops : Array Oper) (Q : Exit → Act → World → Prop) (Sw : World → Prop) (m fuel : Nat) (listed : Array Bool) (env : Env) (H : List Ch) (i : Nat) (o : Oper) : Prop :=
  OpWp c o env H (fun s H' => (∀ w, StW c H' w → Sw w) ∧ HP c ops Q Sw m fuel (listed.setIfInBounds i true) (putE o.dst s env) H')
theorem hs_v {i d : Nat} {op : Op} (h : OpWp c ⟨some d, op, ty, pos, af, none⟩ env H (fun s H' => (∀ w, StW c H' w → Sw w) ∧ HP c ops Q Sw m fuel (listed.setIfInBounds i true) ((d, s) :: env) H')) : HStep c ops Q Sw m fuel listed env H i ⟨some d, op, ty, pos, af, none⟩ := h
theorem hs_0 {i : Nat} {op : Op} (h : OpWp c ⟨none, op, ty, pos, af, none⟩ env H (fun _ H' => (∀ w, StW c H' w → Sw w) ∧ HP c ops Q Sw m fuel (listed.setIfInBounds i true) env H')) : HStep c ops Q Sw m fuel listed env H i ⟨none, op, ty, pos, af, none⟩ := h
theorem hp_br2 {i j : Nat} {oi oj : Oper} (hi : ops[i]? = some oi) (hj : ops[j]? = some oj) (hr : Region.ready .any ops listed = [i, j]) (hg : ((oi.guard.isNone && okD oi.dst nt) && (oj.guard.isNone && okD oj.dst nt)) = true)
    (h1 : HStep c ops Q Sw m fuel listed env H i oi) (h2 : HStep c ops Q Sw m fuel listed env H j oj) : HP c ops Q Sw m (fuel + 1) listed env H := by
  rw [Bool.and_eq_true] at hg
  refine hp_list _ hr (by simp) (fun q hq => ?_)
  rcases List.mem_cons.1 hq with rfl | hq
  · exact ⟨_, hi, hg.1, h1⟩
  · obtain rfl := List.mem_singleton.1 hq
    exact ⟨_, hj, hg.2, h2⟩
theorem hp_br3 {i j k : Nat} {oi oj ok : Oper} (hi : ops[i]? = some oi) (hj : ops[j]? = some oj) (hk : ops[k]? = some ok) (hr : Region.ready .any ops listed = [i, j, k]) (hg : ((oi.guard.isNone && okD oi.dst nt) && (oj.guard.isNone && okD oj.dst nt) && (ok.guard.isNone && okD ok.dst nt)) = true)
    (h1 : HStep c ops Q Sw m fuel listed env H i oi) (h2 : HStep c ops Q Sw m fuel listed env H j oj) (h3 : HStep c ops Q Sw m fuel listed env H k ok) : HP c ops Q Sw m (fuel + 1) listed env H := by
  rw [Bool.and_eq_true, Bool.and_eq_true] at hg
  refine hp_list _ hr (by simp) (fun q hq => ?_)
  rcases List.mem_cons.1 hq with rfl | hq
  · exact ⟨_, hi, hg.1.1, h1⟩
  · rcases List.mem_cons.1 hq with rfl | hq
    · exact ⟨_, hj, hg.1.2, h2⟩
    · obtain rfl := List.mem_singleton.1 hq
      exact ⟨_, hk, hg.2, h3⟩
theorem jq_unk {ex : Exit} {b : Nat} {t : TypeId} {row : List C} (cs : List Value) (j : Nat) (hp : pick [j] H = some ([.blk b t row], Hr)) (_hk : knowsRow row = some cs) (h : JQ c Q ex env (.blk b t (row.map unk) :: Hr)) : JQ c Q ex env H :=
  fun a w hs => h a w (st_row hs hp (let ⟨cs, g1, g2⟩ := blk_ok hs hp; ⟨cs, g1, rdRow_unk g2⟩))
end
end Go.Vc
end

section
namespace Go.Vc
open Go.RowKit

section
variable {P : Program} {ops : Array Oper} {Q : Exit → Act → World → Prop} {K : Act → World → Prop}
theorem upon_then {o : Oper} {a : Act} {next : Act → World → Prop} {r : Result Next} (h : o.upon P a next (Exit.then K Q) r) : o.upon P a next Q r := by
  cases r with
  | ok n w' => cases n <;> first | exact h | exact Calls.mono h (fun e w'' he => by cases e <;> exact he)
  | halt x w' => cases x <;> exact h
theorem wpList_app {l2 : List Oper} : ∀ (l1 : List Oper) (a : Act) (w : World), wpList P ops (Exit.then (wpList P ops Q l2) Q) l1 a w → wpList P ops Q (l1 ++ l2) a w
  | [], _, _, h => h
  | o :: l, a, w, h => by
    rw [List.cons_append]
    unfold wpList at h ⊢
    split
    · rename_i hw
      rw [if_pos hw] at h
      rcases h with h | h
      · exact .inl (upon_then (Oper.wp_mono (fun a w => wpList_app l a w) h))
      · exact .inr ⟨h.1, h.2⟩
    · rename_i hw
      rw [if_neg hw] at h
      exact wpList_app l _ _ h
end
section
variable {P : Program} [Gl P] {nt : Nat} {c : Cx P nt} {env : Env} {H : List Ch} {ops : Array Oper} {Q : Exit → Act → World → Prop}
/-- Operations that wait for one and the same, whose results are not known of. -/
def segOk (env : Env) (g : Nat) (want : Bool) (l : List Oper) : Bool := l.all fun o => o.guard == some (g, want) && (match o.dst with | some d => (env.lookup d).isNone | none => false)
def SegQ (c : Cx P nt) (env : Env) (H : List Ch) (y : Operand) (v : Bool) (a : Act) (w : World) : Prop := St c env H a w ∧ a.eval y = .bool v
theorem yield_of {a : Act} {w : World} {g z : Nat} {b : Bool} (hs : St c env H a w) (hgz : (ops[g]?).bind (·.dst) = some z) (hz : env.lookup z = some (Bl b)) : yielded ops a.tmps g = some b := by
  have hv : a.tmps.getD z undef = .bool b := (hs.slots z _ hz).1
  have hlt : z < a.tmps.size := by
    rcases Nat.lt_or_ge z a.tmps.size with h' | h'
    · exact h'
    · rw [Array.getD_eq_getD_getElem?, Array.getElem?_eq_none h'] at hv
      cases hv
  rw [Array.getD_eq_getD_getElem?, Array.getElem?_eq_getElem hlt] at hv
  simp only [Option.getD_some] at hv
  unfold yielded
  simp [hgz, hlt, hv]
theorem st_put_free {a : Act} {w : World} {d : Nat} {v : Value} (hs : St c env H a w) (hn : env.lookup d = none) : St c env H (a.put (some d) v) w := by
  refine ⟨by have := hs.size; simpa [Act.put] using this, hs.defers, fun t s ht => ?_, hs.heap⟩
  have hne : t ≠ d := by intro h; subst h; rw [hn] at ht; cases ht
  have h1 := hs.slots t s ht
  have h2 : (a.put (some d) v).tmps.getD t undef = a.tmps.getD t undef := by simp [Act.put, Array.getD_eq_getD_getElem?, Array.getElem?_setIfInBounds_ne (Ne.symm hne)]
  rw [h2]
  exact h1
theorem seg_skip {g z : Nat} {want : Bool} (hgz : (ops[g]?).bind (·.dst) = some z) (hz : env.lookup z = some (Bl (!want))) {Kl : Act → World → Prop} :
    ∀ (l : List Oper) (a : Act) (w : World), segOk env g want l = true → St c env H a w → (∀ a, St c env H a w → Kl a w) → wpList P ops (Exit.then Kl Q) l a w
  | [], a, w, _, hs, hK => hK a hs
  | o :: l, a, w, hk, hs, hK => by
    obtain ⟨dst, op, ty, pos, af, gd⟩ := o
    simp only [segOk, List.all_cons, Bool.and_eq_true] at hk
    obtain ⟨⟨h1, h2⟩, h3⟩ := hk
    have h1 : gd = some (g, want) := by simpa using h1
    subst h1
    cases dst with
    | none => cases h2
    | some d =>
      have h2 : env.lookup d = none := by simpa using h2
      unfold wpList
      rw [if_neg (by simp [Region.wanted, yield_of hs hgz hz])]
      exact seg_skip hgz hz l _ w h3 (st_put_free hs h2) hK
theorem jl_seg {want b : Bool} {n g z d : Nat} {l rest : List Oper} {px py y : Operand} {v r : Bool} {ty : TypeId} {pos : String} {af : Array Edge}
    (hr : l.drop n = ⟨some d, .pick (.tmp z) px py, ty, pos, af, none⟩ :: rest) (hs : segOk env g want (l.take n) = true) (hgz : (ops[g]?).bind (·.dst) = some z) (hz : env.lookup z = some (Bl b)) (hd : d < nt)
    (h1 : b = want → JL c ops (Exit.then (SegQ c env H y v) Q) (l.take n) env H)
    (hp : ∀ a w, St c env H a w → (b = want → a.eval y = .bool v) → a.eval (if b then px else py) = .bool r)
    (h2 : JL c ops Q rest ((d, Bl r) :: env) H) : JL c ops Q l env H := by
  intro a w hst
  have hpick : ∀ a w, St c env H a w → (b = want → a.eval y = .bool v) → wpList P ops Q (⟨some d, .pick (.tmp z) px py, ty, pos, af, none⟩ :: rest) a w := by
    intro a w hst hy
    refine wpList_plain rfl fun K hK => ?_
    have e1 : a.eval (.tmp z) = .bool b := ev_val (x := .tmp z) hst (by simpa [Env.ev] using hz)
    have e2 := hp a w hst hy
    have hrun : (execOp a.eval ⟨some d, .pick (.tmp z) px py, ty, pos, af, none⟩).run P w = .ok (.value (.bool r)) w := by
      cases b <;> simp_all [execOp, asBool]
    unfold Oper.wp
    rw [hrun, Oper.upon_value]
    exact hK _ _ (h2 _ _ (hst.next hd hst.heap ⟨rfl, rfl⟩ (fun _ _ h => h)))
  rw [← List.take_append_drop n l, hr]
  refine wpList_app _ _ _ ?_
  by_cases hb : b = want
  · have h3 := h1 hb a w hst
    -- what comes behind it
    have mono : ∀ (l : List Oper) (a : Act) (w : World), wpList P ops (Exit.then (SegQ c env H y v) Q) l a w → wpList P ops (Exit.then (wpList P ops Q (⟨some d, .pick (.tmp z) px py, ty, pos, af, none⟩ :: rest)) Q) l a w := by
      intro l
      induction l with
      | nil => intro a w h; exact hpick a w h.1 (fun _ => h.2)
      | cons o l ih =>
        intro a w h
        unfold wpList at h ⊢
        split
        · rename_i hw
          rw [if_pos hw] at h
          rcases h with h | h
          · refine .inl ?_
            have h4 := Oper.wp_mono (fun a w => ih a w) h
            unfold Oper.wp at h4 ⊢
            revert h4
            generalize (execOp a.eval o).run P w = res
            intro h4
            cases res with
            | ok nn w' => cases nn <;> first | exact h4 | exact Calls.mono h4 (fun e w'' he => by cases e <;> exact he)
            | halt x w' => cases x <;> exact h4
          · exact .inr ⟨h.1, h.2⟩
        · rename_i hw
          rw [if_neg hw] at h
          exact ih _ _ h
    exact mono _ _ _ h3
  · have hz' : env.lookup z = some (Bl (!want)) := by rw [hz]; cases b <;> cases want <;> simp_all
    exact seg_skip hgz hz' _ a w hs hst (fun a hst => hpick a w hst (fun h => absurd h hb))
theorem jl_and (n g : Nat) {b : Bool} {z d : Nat} {l rest : List Oper} {y : Operand} {ty : TypeId} {pos : String} {af : Array Edge}
    (hr : l.drop n = ⟨some d, .pick (.tmp z) y (.const (.bool false)), ty, pos, af, none⟩ :: rest) (hs : segOk env g true (l.take n) = true) (hgz : (ops[g]?).bind (·.dst) = some z) (hz : env.lookup z = some (Bl b)) (hd : d < nt)
    (h : ∃ v : Bool, (b = true → JL c ops (Exit.then (SegQ c env H y v) Q) (l.take n) env H) ∧ JL c ops Q rest ((d, Bl (b && v)) :: env) H) : JL c ops Q l env H :=
  let ⟨v, h1, h2⟩ := h
  jl_seg (y := y) (v := v) (r := b && v) hr hs hgz hz hd h1 (fun a w _ hy => by
    cases b with
    | true => rw [if_pos rfl, Bool.true_and]; exact hy rfl
    | false => rfl) h2
theorem jl_or (n g : Nat) {b : Bool} {z d : Nat} {l rest : List Oper} {y : Operand} {ty : TypeId} {pos : String} {af : Array Edge}
    (hr : l.drop n = ⟨some d, .pick (.tmp z) (.const (.bool true)) y, ty, pos, af, none⟩ :: rest) (hs : segOk env g false (l.take n) = true) (hgz : (ops[g]?).bind (·.dst) = some z) (hz : env.lookup z = some (Bl b)) (hd : d < nt)
    (h : ∃ v : Bool, (b = false → JL c ops (Exit.then (SegQ c env H y v) Q) (l.take n) env H) ∧ JL c ops Q rest ((d, Bl (b || v)) :: env) H) : JL c ops Q l env H :=
  let ⟨v, h1, h2⟩ := h
  jl_seg (y := y) (v := v) (r := b || v) hr hs hgz hz hd h1 (fun a w _ hy => by
    cases b with
    | true => rfl
    | false => rw [if_neg (by simp), Bool.false_or]; exact hy rfl) h2
/-- How such a part ends. -/
theorem jq_seg {env1 : Env} {H1 : List Ch} {y : Operand} {v : Bool} (k : Nat) (he : env1.drop k = env) (hk : ((env1.take k).all fun p => (env.lookup p.1).isNone) = true) (hy : env1.ev y = some (Bl v)) (hp : H1.Perm H) :
    JQ c (Exit.then (SegQ c env H y v) Q) .normal env1 H1 := by
  intro a w hst
  have hst1 : St c env1 H a w := hst.perm hp
  refine ⟨⟨hst.size, hst.defers, fun t s ht => hst1.slots t s ?_, hst1.heap⟩, ev_val hst hy⟩
  rw [← List.take_append_drop k env1, he]
  have : ∀ (l : Env), (l.all fun p => (env.lookup p.1).isNone) = true → List.lookup t (l ++ env) = some s := by
    intro l
    induction l with
    | nil => intro _; exact ht
    | cons p l ih =>
      intro h
      obtain ⟨d, u⟩ := p
      simp only [List.all_cons, Bool.and_eq_true] at h
      rw [List.cons_append, List.lookup_cons]
      have hne : (t == d) = false := by
        rw [beq_eq_false_iff_ne]
        intro h1
        subst h1
        rw [ht] at h
        simp at h
      rw [hne]
      exact ih h.2
  exact this _ hk
/-- The same value, said otherwise. -/
theorem st_same {a : Act} {w : World} {j : Nat} {u u' : S} (h : St c env H a w) (hl : env.lookup j = some u) (he : u = u') : St c ((j, u') :: env) H a w := by
  subst he
  refine ⟨h.size, h.defers, fun t s ht => ?_, h.heap⟩
  rcases lookup_cons ht with ⟨rfl, rfl⟩ | ⟨_, ht⟩
  · exact h.slots _ _ hl
  · exact h.slots t s ht
theorem jq_bl {e : Exit} (j : Nat) {b b' : Bool} (hl : env.lookup j = some (Bl b)) (he : b = b') (h : JQ c Q e ((j, Bl b') :: env) H) : JQ c Q e env H := fun a w hs => h a w (st_same hs hl (by rw [he]))
end
end Go.Vc
end

section
namespace Go.Vc
open Go.RowKit

section
variable {P : Program} [Gl P] {nt : Nat} {c : Cx P nt} {env : Env} {H : List Ch} {K : S → List Ch → Prop}
variable {d : Option Tmp} {ty t u : TypeId} {pos : String} {af : Array Edge} {g : Option (Nat × Bool)} {x y : Operand}
end
end Go.Vc
end

section
namespace Go.Vc
open Go.RowKit

section
variable {P : Program} [Gl P] {nt : Nat} {c : Cx P nt} {env : Env} {H Hr : List Ch} {K : S → List Ch → Prop}
variable {d : Option Tmp} {ty t t' u : TypeId} {pos : String} {af : Array Edge} {g : Option (Nat × Bool)} {x y : Operand}
theorem rdRows_drop {w : World} {A : Nat → Prop} {k : Nat} : ∀ {rows : List (List C)} {vs : List Value} (m : Nat), RdRows w A k rows vs → RdRows w A k (rows.drop m) (vs.drop (m * k))
  | _, _, 0, h => by simpa using h
  | [], _, m + 1, h => by simp only [RdRows] at h; subst h; simp [RdRows]
  | r0 :: rows, _, m + 1, h => by
    obtain ⟨c0, r, rfl, q1, q2, q3⟩ := h
    rw [List.drop_succ_cons, Nat.add_mul, Nat.one_mul, Nat.add_comm (m * k) k, ← List.drop_drop, List.drop_left' q1]
    exact rdRows_drop m q3
theorem hok_indexList {Sw : World → Prop} [SL P t] {rows : List (List C)} {m : Int} {row : List C} (hx : env.ev x = some (.cell (.list rows))) (hy : env.ev y = some (In .i64 m)) (h0 : 0 ≤ m) (hrow : rows[m.toNat]? = some row) (hz : (TI.i P (SL.e P t)).size = row.length) (hp : 0 < row.length) :
    HOk c Sw env H ⟨d, .indexAddr t x y, ty, pos, af, none⟩ (.cell (.place row)) :=
  fun a w h _ => by
    obtain ⟨hlt, _⟩ := List.getElem?_eq_some_iff.1 hrow
    obtain ⟨ad, cap, he, _, _, hb⟩ := ev_ok h hx
    rcases hb with hb | ⟨b, off, vs, k, rfl, hA, hc, hk, hr⟩
    · omega
    · obtain ⟨cs, h1, h2, h3⟩ := rdRows_get hr hc hrow
      have hkl : k = row.length := by rw [← h2, rdRow_length h1]
      refine ⟨.pointer (some ⟨b, off + m.toNat * k, none⟩), fun w' _ => ?_, b, _, cs, rfl, hA, hp, h3, h1⟩
      have : 0 ≤ m ∧ m < ↑rows.length := ⟨h0, by omega⟩
      simp [execOp, he, ev_val h hy, Instr.indexAt, asIntOf, run_elem t, this, run_sizeOf, add_at, hz, hkl]
theorem rows_len {α : Type} {f : α → List C} {l : List α} {k : Nat} (h : ∀ a, (f a).length = k) : ∀ r ∈ l.map f, r.length = k := by
  intro r hr
  obtain ⟨a, _, rfl⟩ := List.mem_map.1 hr
  exact h a
end
end Go.Vc
end

section
namespace Go.Vc
open Go.RowKit
set_option maxHeartbeats 1000000
section
variable {P : Program} [Gl P] {nt : Nat} {c : Cx P nt} {env : Env} {H : List Ch} {K : S → List Ch → Prop} {d : Option Tmp} {t tn ty : TypeId} {pos : String} {af : Array Edge} {g : Option (Nat × Bool)} {x y : Operand}

end
end Go.Vc
end
