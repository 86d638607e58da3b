import Derived.Test.YtjnfamgjffnfiaaDoorVcf
import Derived.Test.YtjnfamgjffnfiaaDoorVcc
namespace Go.Vc
open Go.RowKit
section
variable {P : Program} [Gl P] {nt : Nat} {c : Cx P nt} {env : Env} {H : List Ch}
theorem jq_ownNil {ex : Exit} {Q : Exit → Act → World → Prop} (e : TypeId) (k : Nat) (hk : 0 < k) (h : JQ c Q ex env (.own (.slice none 0 0) e k [] :: H)) : JQ c Q ex env H :=
  fun a w hs => h a w (st_ownNil hs e k hk)
theorem jq_ret3 {fn : Func} {post : (S → List Ch → Prop) → Prop} {t u r : Tmp} {s s' s'' : S} {Hout : List Ch} (hres : fn.results = #[.tmp t, .tmp u, .tmp r]) (hl : env.lookup t = some s) (hl' : env.lookup u = some s') (hl'' : env.lookup r = some s'') (hpost : ∀ K, post K → K (.tup [s, s', s'']) Hout) (hp : Sub H Hout) :
    JQ c (bodyPost P fn (RR c post)) .ret env H :=
  let ⟨_, _, hp⟩ := hp
  jq_retG (ss := [s, s', s'']) (.inl rfl) (by rw [hres]; exact ⟨s, _, rfl, hl, s', _, rfl, hl', s'', _, rfl, hl'', rfl⟩) hp hpost
theorem jq_retRowT {fn : Func} {post : (S → List Ch → Prop) → Prop} {a u : Tmp} {b : Nat} {bt t : TypeId} [TI P t] {row : List C} {s' : S} {Hx Hout : List Ch} (hres : fn.results = #[.cell a t, .tmp u]) (ha : aggB (TI.u P t) = true) (hz : (TI.i P t).size = row.length) (hl : env.lookup a = some (.cell (.val (.pointer (some ⟨b, 0, none⟩))))) (hl' : env.lookup u = some s') (j : Nat) (hj : pick [j] H = some ([.blk b bt row], Hx)) (hpost : ∀ K, post K → K (.tup [.row row, s']) Hout) (hp : Sub H Hout) :
    JQ c (bodyPost P fn (RR c post)) .ret env H :=
  let ⟨_, _, hp⟩ := hp
  jq_retG (ss := [.row row, s']) (.inl rfl) (by rw [hres]; exact ⟨.row row, _, b, j, bt, row, Hx, rfl, hl, hj, res_row ha hz, s', _, rfl, hl', rfl⟩) hp hpost
end

/-! Bytes as a list -/
theorem bytesI_len (s : ByteArray) : (bytesI s).length = s.size := by simp
theorem bytesI_get (s : ByteArray) (k : Nat) (h : k < s.size) : (bytesI s)[k]'(by simpa using h) = byteAt s k := by
  unfold byteAt
  rw [List.getD_eq_getElem?_getD, List.getElem?_eq_getElem (by simpa using h)]
  simp
theorem bytesI_bd (s : ByteArray) : ∀ n ∈ bytesI s, 0 ≤ n ∧ n ≤ 255 := by
  intro n hn
  obtain ⟨b, _, rfl⟩ := List.mem_map.1 hn
  have := b.toNat_lt
  omega
theorem extract_bytes (s : ByteArray) (a b : Nat) : bytesI (s.extract a b) = ((bytesI s).drop a).take (b - a) := by
  simp [bytesI, ByteArray.data_extract, List.map_take, List.map_drop]
theorem extract_size (s : ByteArray) (a b : Nat) (h : b ≤ s.size) : (s.extract a b).size = b - a := by
  simp [ByteArray.size_extract]; omega
theorem bytesI_inj {s t : ByteArray} (h : bytesI s = bytesI t) : s = t := by
  have : s.data.toList = t.data.toList := by
    have hinj : ∀ {l m : List UInt8}, l.map (fun b => (b.toNat : Int)) = m.map (fun b => (b.toNat : Int)) → l = m := by
      intro l
      induction l with
      | nil => intro m h; cases m with
        | nil => rfl
        | cons b m => simp at h
      | cons a l ih => intro m h; cases m with
        | nil => simp at h
        | cons b m =>
          simp only [List.map_cons, List.cons.injEq] at h
          have h1 : a = b := UInt8.toNat_inj.1 (by omega)
          rw [h1, ih h.2]
    exact hinj h
  cases s; cases t
  simp at this
  rw [this]

/-- How many of the first bytes fit. -/
def runLen (p : Int → Bool) (s : ByteArray) : Nat := ((bytesI s).takeWhile p).length
theorem takeWhile_len {α : Type} {p : α → Bool} : ∀ {l : List α} {k : Nat}, (∀ j (h : j < l.length), j < k → p l[j] = true) → k ≤ l.length → (∀ h : k < l.length, p l[k] = false) → (l.takeWhile p).length = k
  | [], k, _, h, _ => by simp at h; subst h; rfl
  | a :: l, 0, _, _, h => by
    have := h (by simp)
    simp only [List.getElem_cons_zero] at this
    simp [this]
  | a :: l, k + 1, h1, h2, h3 => by
    have ha := h1 0 (by simp) (by omega)
    simp only [List.getElem_cons_zero] at ha
    rw [List.takeWhile_cons, if_pos ha, List.length_cons, takeWhile_len (k := k) (fun j hj hjk => by have := h1 (j + 1) (by simp; omega) (by omega); simpa using this) (by simpa using h2) (fun h => by have := h3 (by simp; omega); simpa using this)]
theorem runLen_le (p : Int → Bool) (s : ByteArray) : runLen p s ≤ s.size := by
  have := (List.takeWhile_sublist p (l := bytesI s)).length_le
  rw [bytesI_len] at this
  exact this
theorem runLen_eq {p : Int → Bool} {s : ByteArray} {k : Nat} (h1 : ∀ j, j < k → p (byteAt s j) = true) (h2 : k ≤ s.size) (h3 : k < s.size → p (byteAt s k) = false) : runLen p s = k :=
  takeWhile_len (fun j hj hjk => by rw [bytesI_get s j (by simpa using hj)]; exact h1 j hjk) (by simpa using h2) (fun h => by rw [bytesI_get s k (by simpa using h)]; exact h3 (by simpa using h))
end Go.Vc
