import Derived.Test.YtpolnonbgaolkaaMu5
import Derived.ProofKit
import Derived.OpenShut
import Derived.Carry
import Derived.SizedLaws
import Derived.Deep.Slices
import Derived.Lib.SmallJoins
import Derived.Test.YtpolnonbgaolkaaRows
import Derived.WalkKit
import Derived.LaidMore
import Derived.Stop.Joined
import Derived.Stop.LaidErr
import Derived.Deep.DeepHandedRow
import Derived.Lib.LaidTab
section
namespace Go.Proofs.Ytpolnonbgaolkaa
open Go.Vc
set_option maxHeartbeats 1000000

theorem unr_err {g : Gh} {h : Int} (he : (loopsF g).2 ≠ 0) : unrF g h = ((ghZ, []), (loopsF g).2) := by
  unfold unrF
  rw [if_pos he]
theorem unr_none {g : Gh} {h : Int} (he : (loopsF g).2 = 0) (hf : (loopsF g).1.find? (fun x => decide (x.1.hdr = h)) = none) : unrF g h = ((ghZ, []), 11) := by
  unfold unrF
  rw [if_neg (fun q => q he), hf]
theorem unr_lim {g : Gh} {h : Int} {x : Lp × Int} (he : (loopsF g).2 = 0) (hf : (loopsF g).1.find? (fun x => decide (x.1.hdr = h)) = some x) (hl : 64 < g.blocks.length + x.1.nodes.length ∨ 600 < nOps g.blocks + opsAt g.blocks x.1.nodes) : unrF g h = ((ghZ, []), 4) := by
  unfold unrF
  rw [if_neg (fun q => q he), hf]
  dsimp only
  rw [if_pos hl]
theorem unr_ok {g : Gh} {h : Int} {x : Lp × Int} (he : (loopsF g).2 = 0) (hf : (loopsF g).1.find? (fun x => decide (x.1.hdr = h)) = some x) (hl : ¬ (64 < g.blocks.length + x.1.nodes.length ∨ 600 < nOps g.blocks + opsAt g.blocks x.1.nodes)) :
    unrF g h = (({ g with blocks := unBs g.blocks x.1.nodes h, points := unPs g.blocks.length x.1.nodes g.points, heads := unHs g.blocks.length x.1.nodes h g.heads }, unMp g.blocks.length x.1.nodes), 0) := by
  unfold unrF
  rw [if_neg (fun q => q he), hf]
  dsimp only
  rw [if_neg hl]
open Classical in
theorem nodesF_hd {B : List Bk} {h : Nat} (hh : h < B.length) : (h : Int) ∈ nodesF B h := by
  unfold nodesF
  refine List.mem_map.2 ⟨h, ?_, rfl⟩
  rw [List.mem_filter, List.mem_range]
  exact ⟨hh, by unfold lpB; exact decide_eq_true Lpn.head⟩
/-- What is known of the loop that is unrolled. -/
theorem unr_loop {g : Gh} {h : Int} {x : Lp × Int} (hf : (loopsF g).1.find? (fun x => decide (x.1.hdr = h)) = some x) : chG g = 0 ∧ x.1.hdr = h ∧ Asc x.1.nodes ∧ (∀ y ∈ x.1.nodes, 0 ≤ y ∧ y < (g.blocks.length : Int)) ∧ x.1.nodes.length ≤ g.blocks.length ∧ 0 ≤ h ∧ h < (g.blocks.length : Int) ∧ h ∈ x.1.nodes := by
  have h1 := List.find?_some hf
  have h2 := of_decide_eq_true h1
  obtain ⟨h3, hd, h4, h5, h6⟩ := loops_mem (List.mem_of_find?_eq_some hf)
  refine ⟨h3, h2, by rw [h6]; exact nodes_asc _ _, by rw [h6]; exact nodes_bd, by rw [h6]; exact nodes_len _ _, by omega, by omega, ?_⟩
  rw [h6, ← h2, h5]
  exact nodesF_hd h4
theorem idx_find {α : Type} {p : α → Bool} {l : List α} {i : Nat} (h : l.findIdx? p = some i) : l.find? p = l[i]? := by
  obtain ⟨hi, hp, hno⟩ := List.findIdx?_eq_some_iff_getElem.1 h
  rw [List.getElem?_eq_getElem hi, List.find?_eq_some_iff_getElem]
  exact ⟨hp, i, hi, rfl, fun j hj => by simpa using hno j hj⟩
def mpQ (n : Nat) (nd : List Int) (i : Nat) : List (List Int) := (List.range n).map fun j : Nat => (j : Int) :: if (j : Int) ∈ nd.take i then [copN n nd j] else []
theorem mpQ_len (n : Nat) (nd : List Int) (i : Nat) : (mpQ n nd i).length = n := by simp [mpQ]
theorem mpQ_zero (n : Nat) (nd : List Int) : mpQ n nd 0 = (List.range n).map fun j : Nat => [(j : Int)] := by
  refine List.map_congr_left (fun j _ => ?_)
  rw [List.take_zero, if_neg (by simp)]
theorem mpQ_end (n : Nat) (nd : List Int) : mpQ n nd nd.length = unMp n nd := by
  unfold mpQ unMp
  rw [List.take_length]
theorem mpQ_get {n : Nat} {nd : List Int} (ha : Asc nd) {i : Nat} (hi : i < nd.length) (h0 : 0 ≤ nd[i]) (hl : (nd[i]).toNat < n) : (mpQ n nd i)[(nd[i]).toNat]? = some [nd[i]] := by
  have e : (((nd[i]).toNat : Nat) : Int) = nd[i] := by omega
  unfold mpQ
  rw [List.getElem?_map, List.getElem?_range hl, Option.map_some, e, if_neg (asc_take ha hi)]
theorem mpQ_step {n : Nat} {nd : List Int} {i : Nat} (hi : i < nd.length) (h0 : 0 ≤ nd[i]) : mpQ n nd (i + 1) = (mpQ n nd i).set (nd[i]).toNat ([nd[i]] ++ [copN n nd nd[i]]) := by
  have e : (((nd[i]).toNat : Nat) : Int) = nd[i] := by omega
  refine List.ext_getElem (by simp [mpQ]) (fun j h1 h2 => ?_)
  rw [List.getElem_set]
  simp only [mpQ, List.getElem_map, List.getElem_range]
  rw [List.take_succ_eq_append_getElem hi]
  by_cases hj : (nd[i]).toNat = j
  · subst hj
    rw [if_pos rfl, e, if_pos (List.mem_append_right _ (List.mem_singleton.2 rfl))]
    rfl
  · rw [if_neg hj]
    have : (j : Int) ∈ nd.take i ++ [nd[i]] ↔ (j : Int) ∈ nd.take i := by
      rw [List.mem_append, List.mem_singleton]
      exact ⟨fun q => q.resolve_right (fun e => hj (by omega)), .inl⟩
    simp only [this]
theorem nx_unQ {B : List Bk} {nd : List Int} {h : Int} {i : Nat} (hi : i ≤ nd.length) : ((unQ B nd h i).map fun b => b.next).length = B.length + i := by
  rw [List.length_map, unQ_len B nd h hi]
theorem copN_lt {n : Nat} {nd : List Int} {b : Int} (hb : b < (n : Int)) : copN n nd b ≠ b ↔ b ∈ nd := by
  constructor
  · intro hne
    by_cases hm : b ∈ nd
    · exact hm
    · exact absurd (cop_out hm) hne
  · intro hm he
    unfold copN at he
    rw [if_pos hm] at he
    omega
/-- The lists of successors, with one changed so far. -/
def nxK (B : List Bk) (nd : List Int) (h : Int) (i b : Nat) (nx : List Int) (k : Nat) : List (List Int) := ((unQ B nd h i).map fun b => b.next).set b (mapP (rpF B.length nd h) nx k)
theorem nxK_zero {B : List Bk} {nd : List Int} {h : Int} (ha : Asc nd) {i : Nat} (hi : i < nd.length) (h0 : 0 ≤ nd[i]) (hl : (nd[i]).toNat < B.length) : nxK B nd h i (nd[i]).toNat (B[(nd[i]).toNat]).next 0 = (unQ B nd h i).map fun b => b.next := by
  unfold nxK
  rw [mapP_zero]
  refine set_same ?_
  rw [List.getElem?_map, unQ_get ha hi h0 hl]
  rfl
theorem nxK_get {B : List Bk} {nd : List Int} {h : Int} {i b : Nat} (hi : i ≤ nd.length) (hb : b < B.length) (nx : List Int) (k : Nat) : (nxK B nd h i b nx k)[b]? = some (mapP (rpF B.length nd h) nx k) := by
  unfold nxK
  rw [List.getElem?_set_self (by rw [nx_unQ hi]; omega)]
theorem nxK_set {B : List Bk} {nd : List Int} {h : Int} {i b : Nat} {nx : List Int} {k : Nat} (l : List Int) (hl : l = mapP (rpF B.length nd h) nx (k + 1)) : nxK B nd h i b nx (k + 1) = (nxK B nd h i b nx k).set b l := by
  subst hl
  unfold nxK
  rw [List.set_set]
theorem nxK_same {B : List Bk} {nd : List Int} {h : Int} {i b : Nat} {nx : List Int} {k : Nat} (hk : k < nx.length) (hf : nx[k] ≠ h) : nxK B nd h i b nx (k + 1) = nxK B nd h i b nx k := by
  unfold nxK
  rw [mapP_same hk (by rw [rpF, if_neg hf])]
theorem nxK_len {B : List Bk} {nd : List Int} {h : Int} {i b : Nat} (hi : i ≤ nd.length) (nx : List Int) (k : Nat) : (nxK B nd h i b nx k).length = B.length + i := by
  unfold nxK
  rw [List.length_set, nx_unQ hi]
/-- .. and when it is copied -/
theorem nxK_end {B : List Bk} {nd : List Int} {h : Int} {i : Nat} (hi : i < nd.length) (h0 : 0 ≤ nd[i]) (hl : (nd[i]).toNat < B.length) :
    nxK B nd h i (nd[i]).toNat (B[(nd[i]).toNat]).next (B[(nd[i]).toNat]).next.length ++ [(B[(nd[i]).toNat]).next.map (npF B.length nd h)] = (unQ B nd h (i + 1)).map fun b => b.next := by
  rw [← unQ_step hi h0 hl, List.map_append, List.map_set]
  unfold nxK
  have e : (((nd[i]).toNat : Nat) : Int) ∈ nd := by rw [show (((nd[i]).toNat : Nat) : Int) = nd[i] by omega]; exact List.getElem_mem hi
  rw [unB_in e]
  rfl
/-- The rows without successors do not change. -/
theorem unQ_next {B : List Bk} {nd : List Int} {h : Int} {i : Nat} (hi : i < nd.length) (h0 : 0 ≤ nd[i]) (hl : (nd[i]).toNat < B.length) :
    unQ B nd h (i + 1) = (unQ B nd h i).set (nd[i]).toNat ⟨(B[(nd[i]).toNat]).ops, (B[(nd[i]).toNat]).cond, mapP (rpF B.length nd h) (B[(nd[i]).toNat]).next (B[(nd[i]).toNat]).next.length⟩ ++ [neB B.length nd h B[(nd[i]).toNat]] := by
  rw [← unQ_step hi h0 hl]
  have e : (((nd[i]).toNat : Nat) : Int) ∈ nd := by rw [show (((nd[i]).toNat : Nat) : Int) = nd[i] by omega]; exact List.getElem_mem hi
  rw [unB_in e]
theorem ptK_len (n : Nat) (nd l : List Int) (k : Nat) : (ptK n nd l k).length ≤ 2 * l.length := by
  unfold ptK
  rw [List.length_append, List.length_map]
  have h1 := List.length_filter_le (fun b : Int => decide (b ∈ nd)) (l.take k)
  rw [List.length_take] at h1
  omega
theorem asc_few : ∀ {l : List Int} {a n : Int}, (l.Pairwise (· < ·)) → (∀ x ∈ l, a ≤ x ∧ x < n) → (l.length : Int) ≤ max 0 (n - a)
  | [], _, _, _, _ => by simp only [List.length_nil]; omega
  | x :: l, a, n, hp, hb => by
    rw [List.pairwise_cons] at hp
    have hx := hb x (List.mem_cons_self ..)
    have := asc_few (a := x + 1) (n := n) hp.2 (fun y hy => ⟨by have := hp.1 y hy; omega, (hb y (List.mem_cons_of_mem _ hy)).2⟩)
    rw [List.length_cons]
    omega
theorem heads_few {g : Gh} (h : chG g = 0) : g.heads.length ≤ 64 := by
  obtain ⟨h1, h2⟩ := ch_heads h
  have h3 := ch_len h
  have := asc_few (l := g.heads.map (·.1)) (a := 0) (n := (g.blocks.length : Int)) (by rw [List.pairwise_map]; exact h1) (fun x hx => by
    obtain ⟨y, hy, rfl⟩ := List.mem_map.1 hx
    have := h2 y hy
    omega)
  rw [List.length_map] at this
  omega
theorem unHs_bd {n : Nat} {nd : List Int} {h : Int} {H : List Hd} (ha : Asc nd) (hb : ∀ x ∈ H, 0 ≤ x.1 ∧ x.1 < (n : Int)) : ∀ x ∈ unHs n nd h H, 0 ≤ x.1 ∧ x.1 < (n : Int) + (nd.length : Int) := by
  intro x hx
  unfold unHs at hx
  rcases List.mem_append.1 hx with hx | hx
  · obtain ⟨y, hy, rfl⟩ := List.mem_map.1 hx
    have := hb y hy
    split
    · dsimp only; omega
    · omega
  · obtain ⟨y, hy, rfl⟩ := List.mem_map.1 hx
    rw [List.mem_filter, Bool.and_eq_true, decide_eq_true_eq] at hy
    have := cop_in (n := n) ha hy.2.2
    dsimp only
    omega
theorem unHs_len (n : Nat) (nd : List Int) (h : Int) (H : List Hd) : (unHs n nd h H).length ≤ 2 * H.length := by
  unfold unHs
  rw [List.length_append, List.length_map, List.length_map]
  have := List.length_filter_le (fun x : Hd => !decide (x.1 = h) && decide (x.1 ∈ nd)) H
  omega
theorem ch_points {g : Gh} (h : chG g = 0) : ∀ l ∈ g.points, ∀ x ∈ l, 0 ≤ x ∧ x < (g.blocks.length : Int) := by
  obtain ⟨_, _, _, _, h5⟩ := ch_ok h
  unfold namG at h5
  simp only [Bool.and_eq_true] at h5
  intro l hl x hx
  have h1 := List.all_eq_true.1 h5.1.1 l hl
  unfold ptB inN at h1
  rw [Bool.and_eq_true] at h1
  have := List.all_eq_true.1 h1.1 x hx
  simp only [Bool.and_eq_true, decide_eq_true_eq] at this
  omega
end Go.Proofs.Ytpolnonbgaolkaa
end

section
namespace Go.Vc
open Go.RowKit

section
variable {P : Program} [Gl P] {nt : Nat} {c : Cx P nt} {env : Env} {H : List Ch} {ops : Array Oper} {Q : Exit → Act → World → Prop} {Sw : World → Prop}
variable {m fuel : Nat} {listed : Array Bool}
/-- Four that may come next. -/
theorem hp_br4 {i j k l : Nat} {oi oj ok ol : Oper} (hi : ops[i]? = some oi) (hj : ops[j]? = some oj) (hk : ops[k]? = some ok) (hl : ops[l]? = some ol) (hr : Region.ready .any ops listed = [i, j, k, l]) (hg : ((oi.guard.isNone && okD oi.dst nt) && (oj.guard.isNone && okD oj.dst nt) && (ok.guard.isNone && okD ok.dst nt) && (ol.guard.isNone && okD ol.dst nt)) = true)
    (h1 : HStep c ops Q Sw m fuel listed env H i oi) (h2 : HStep c ops Q Sw m fuel listed env H j oj) (h3 : HStep c ops Q Sw m fuel listed env H k ok) (h4 : HStep c ops Q Sw m fuel listed env H l ol) : HP c ops Q Sw m (fuel + 1) listed env H := by
  rw [Bool.and_eq_true, Bool.and_eq_true, Bool.and_eq_true] at hg
  refine hp_list _ hr (by simp) (fun q hq => ?_)
  rcases List.mem_cons.1 hq with rfl | hq
  · exact ⟨_, hi, hg.1.1.1, h1⟩
  · rcases List.mem_cons.1 hq with rfl | hq
    · exact ⟨_, hj, hg.1.1.2, h2⟩
    · rcases List.mem_cons.1 hq with rfl | hq
      · exact ⟨_, hk, hg.1.2, h3⟩
      · obtain rfl := List.mem_singleton.1 hq
        exact ⟨_, hl, hg.2, h4⟩
/-- What is owned, in an order of one's own; the rest is forgotten. -/
theorem jq_sub {ex : Exit} {H1 : List Ch} (hp : Sub H H1) (h : JQ c Q ex env H1) : JQ c Q ex env H := by
  obtain ⟨is, Hr, hp⟩ := hp
  intro a w hs
  exact h a w ((hs.perm (pick_perm hp)).perm List.perm_append_comm).drop
/-- A closure's call in a region whose order is drawn. -/
theorem ow_callcA {Hin Hr : List Ch} {f : FuncId} [FI P f] {cap : List Value} {d : Option Tmp} {ty : TypeId} {pos : String} {af : Array Edge} {g : Option (Nat × Bool)} {z : Operand} {xs : Array Operand} {at_ : Array TypeId} {ss : List S} {s0 : S} (is : List Nat) (hz : env.ev z = some (FC f cap)) (hx : env.evs xs.toList = some ss)
    (hcap : cap.all Value.oneCell' = true) (hp : pick is H = some (Hin, Hr)) (con : Con P f (ss ++ capS cap) Hin (fun K => K s0 Hin)) : OpWp c ⟨d, .call { callee := .value z, args := xs, argTypes := at_ }, ty, pos, af, g⟩ env H (fun s' H' => s' = s0 ∧ H'.Perm H) :=
  ow_callc is hz hx hcap hp con ⟨rfl, (pick_perm hp).symm⟩
end
section
variable {H : List Ch}
/-- One of a family, by its name and what it holds. -/
theorem famI_outE {j : Nat} {e : TypeId} {vs : List Value} {Ls : List (List Int)} {Hr : List Ch} {v : Value} {L : List Int} (i : Nat) (hv : vs[i]? = some v) (hL : Ls[i]? = some L) (hp : pick [j] H = some ([.fam (famI e vs Ls)], Hr)) :
    (flatF H).Perm (flatF (.own v e 1 (L.map irow) :: .fam ((famI e vs Ls).eraseIdx i) :: Hr)) := by
  obtain ⟨h1, rfl⟩ := List.getElem?_eq_some_iff.1 hv
  obtain ⟨h2, rfl⟩ := List.getElem?_eq_some_iff.1 hL
  exact famI_out i h1 h2 hp
theorem famI_inV {j j2 : Nat} {e : TypeId} {vs vs' : List Value} {Ls Ls' : List (List Int)} {Hr : List Ch} {v : Value} {L : List Int} (i : Nat) (h1 : i < vs.length) (h2 : i < Ls.length) (hp : pick [j, j2] H = some ([.own v e 1 (L.map irow), .fam ((famI e vs Ls).eraseIdx i)], Hr)) (hv : vs' = vs.set i v) (hL : Ls' = Ls.set i L) :
    (flatF H).Perm (flatF (.fam (famI e vs' Ls') :: Hr)) := by
  subst hv hL
  exact famI_in i h1 h2 hp
end
end Go.Vc
end

section
namespace Go.Proofs.Ytpolnonbgaolkaa
open Go.Vc
attribute [local irreducible] JL JC JQ OpWp Con ConN HOk
set_option maxHeartbeats 40000000

theorem idx_none_find {α : Type} {p : α → Bool} {l : List α} (h : idxOf p l < 0) : l.find? p = none := by
  unfold idxOf at h
  cases hf : l.findIdx? p with
  | some i => rw [hf] at h; dsimp only at h; omega
  | none =>
    rw [List.find?_eq_none]
    intro x hx
    have := List.findIdx?_eq_none_iff.1 hf x hx
    rw [this]; decide
theorem idx_some_find {α : Type} {p : α → Bool} {l : List α} (h : 0 ≤ idxOf p l) : ∃ x, l[(idxOf p l).toNat]? = some x ∧ l.find? p = some x := by
  unfold idxOf at h ⊢
  cases hf : l.findIdx? p with
  | none => rw [hf] at h; exact absurd h (by decide)
  | some i =>
    dsimp only
    rw [Int.toNat_natCast, idx_find hf]
    obtain ⟨hi, _⟩ := List.findIdx?_eq_some_iff_getElem.1 hf
    exact ⟨l[i], List.getElem?_eq_getElem hi, List.getElem?_eq_getElem hi⟩
theorem zero_row : RowLe GhZ ghZ.row := RowLe.cons CLe.nil (RowLe.cons (CLe.refl _) (RowLe.cons (CLe.refl _) (RowLe.cons CLe.nil (RowLe.cons (CLe.refl _) (RowLe.cons CLe.nil (RowLe.cons CLe.nil (RowLe.cons CLe.nil RowLe.nil)))))))
abbrev UnK (g : Gh) (h : Int) (K : S → List Ch → Prop) : Prop := K (.tup [.row (unrF g h).1.1.row, .cell (.list ((unrF g h).1.2.map NRow)), In .i64 (unrF g h).2]) []
theorem gUnroll_c (g : Gh) (hw : GhW g) (h : Int) : Con Try.prog 7 [.row g.row, In .i64 h] [] (UnK g h) := by
  have eB : (g.blocks.map Bk.row).length = g.blocks.length := List.length_map _
  have eP : (g.points.map NRow).length = g.points.length := List.length_map _
  have eH : (g.heads.map HdRow).length = g.heads.length := List.length_map _
  have hL := gLoops_c g hw
  have hsz := hw.ops
  refine con_intro Try.func7 rfl rfl (Nat.le_of_ble_eq_true rfl) (fun c hc => R_ (o_ r_ (ci_ rfl (fun bg => o_ r_ (cj_ rfl (fun bh => o_ r_ (bl_ rfl rfl (fun br => E_ r_ (E_ r_ (T_ (am_ ?_)))))))))))
  by_cases he : (loopsF g).2 = 0
  case neg =>
    have hres := unr_err (h := h) he
    refine an_ (A_ 2 r_ (o_ r_ (bm_ r_ (hL) (M_ r_ (X_ r_ (X_ r_ (E_ r_ (E_ r_ (T_ (am_ (R_ (M_ r_ (o_ r_ (bx_ r_ r_ (T_ (aq_ r_ u_ (R_ ?_)))))))))))))))))
    exact o_ r_ (bu_ r_ r_ r_ r_ r_ (M_ r_ (S_ 0 r_ (E_ r_ (E_ r_ (T_ (ar_ (aw_ (jq_row 0 ghZ.row rfl zero_row (jq_ownNil 33 1 g_ (jq_freeze 5 0 rfl rfl (by rw [hc]; simp [hb]) (jq_retRow2 rfl rfl rfl rfl rfl rfl 0 rfl (fun K h => by rw [UnK, hres] at h; exact h) sub_end))))))))))))
  have hX := loopAt_c bh h (loopsF g).1 14 rfl
  by_cases hi : idxOf (fun x : Lp × Int => decide (x.1.hdr = h)) (loopsF g).1 < 0
  · have hres := unr_none he (idx_none_find hi)
    refine an_ (A_ 2 r_ (o_ r_ (bm_ r_ (hL) (M_ r_ (X_ r_ (X_ r_ (E_ r_ (E_ r_ (T_ (am_ (R_ (M_ r_ (o_ r_ (bx_ r_ r_ (T_ (ap_ r_ v_ (as_ ?_)))))))))))))))))
    refine al_ (R_ (M_ r_ (o_ r_ (ow_makeFunc r_ (o_ r_ (bi_ [1] r_ r_ hX (E_ r_ (T_ (am_ (R_ (M_ r_ (o_ r_ (bw_ r_ r_ (T_ (aq_ r_ u_ (R_ (o_ r_ (bu_ r_ r_ r_ r_ r_ (S_ 1 r_ ?_)))))))))))))))))))
    exact E_ r_ (E_ r_ (T_ (ar_ (aw_ (jq_row 0 ghZ.row rfl zero_row (jq_ownNil 33 1 g_ (jq_freeze 5 0 rfl rfl (by rw [hc]; simp [hb]) (jq_retRow2 rfl rfl rfl rfl rfl rfl 0 rfl (fun K h => by rw [UnK, hres] at h; exact h) sub_end))))))))
  obtain ⟨x, hx, hf⟩ := idx_some_find (p := fun x : Lp × Int => decide (x.1.hdr = h)) (l := (loopsF g).1) (by omega)
  obtain ⟨hck, hxh, hasc, hnb, hnl, hh0, hh1, hhn⟩ := unr_loop hf
  have hok := unr_ok he hf
  have hlm := unr_lim he hf
  have hxr : ((loopsF g).1.map AlRow)[(idxOf (fun x : Lp × Int => decide (x.1.hdr = h)) (loopsF g).1).toNat]? = some (AlRow x) := by rw [List.getElem?_map, hx]; rfl
  have hbl := ch_len hck
  have hop := opsOf_c g x.1.nodes (by have := (ch_ok hck).1; unfold limG at this; simp only [Bool.and_eq_true, decide_eq_true_eq] at this; omega) (by omega) hnb
  obtain ⟨nd, hnd⟩ : ∃ nd, nd = x.1.nodes := ⟨_, rfl⟩
  rw [← hnd] at hasc hnb hnl hhn hok hlm hop
  have hxr2 : AlRow x = [.val (.int .i64 x.1.hdr), .val (.int .i64 x.1.bef), .list (nd.map Irow), .val (.int .i64 x.2), .val (.int .i64 x.1.max)] := by rw [hnd]
  rw [hxr2] at hxr
  have eN : (nd.map Irow).length = nd.length := List.length_map _
  have hopn : nOps g.blocks ≤ 600 := by
    have := (ch_ok hck).1
    unfold limG at this
    simp only [Bool.and_eq_true, decide_eq_true_eq] at this
    exact this.1.1.1.2
  have hole := opsAt_le (bkAt_ops g.blocks) nd
  have hole2 : nd.length * nOps g.blocks ≤ 64 * 600 := Nat.mul_le_mul (by omega) hopn
  refine an_ (A_ 2 r_ (o_ r_ (bm_ r_ (hL) (M_ r_ (X_ r_ (X_ r_ (E_ r_ (E_ r_ (T_ (am_ (R_ (M_ r_ (o_ r_ (bx_ r_ r_ (T_ (ap_ r_ v_ (as_ ?_)))))))))))))))))
  refine al_ (R_ (M_ r_ (o_ r_ (ow_makeFunc r_ (o_ r_ (bi_ [1] r_ r_ hX (E_ r_ (T_ (am_ (R_ (M_ r_ (o_ r_ (bw_ r_ r_ (T_ (ap_ r_ w_ (as_ (al_ (R_ ?_))))))))))))))))))
  refine M_ r_ (M_ r_ (o_ r_ (ow_indexAddrN (idxOf (fun x : Lp × Int => decide (x.1.hdr = h)) (loopsF g).1).toNat rfl rfl g_ hxr rfl b_ (o_ r_ (cf_ r_ r_ r_ b_ r_ b_ (o_ r_ (cb_ r_ r_ (o_ r_ (bl_ rfl rfl (fun bn => W_ 0 r_ (T_ (R_ (E_ r_ (T_ (am_ (R_ (F_ r_ (L_ 3 r_ (o_ r_ (br_ r_ (fun hlen => ?_)))))))))))))))))))))
  refine M_ r_ (T_ (au_ ?_))
  clear hL hX
  refine jc_loopS (ι := Nat) [] (fun k => k ≤ (g.blocks).length) (fun k => (54, In .i64 (k : Int)) :: [(52, .cell (.list (g.blocks.map Bk.row))), (53, In .i64 ((g.blocks.map Bk.row).length : Int)), (11, In .i64 (nOps (g.blocks.take k) : Nat)), (10, Ptr bn), (2, Ptr bg), (3, Ptr bh), (4, Ptr br)]) (fun k => [.blk bn 33 [.list (nd.map Irow)], .blk bg 28 g.row, .blk bh 3 [.val (.int .i64 h)], .blk br 28 GhZ]) (fun k => (g.blocks).length - k) 0 (Nat.zero_le _) ?_ ?_ ?_
  · exact bc_ 0 r_ (bc_ 2 r_ (bc_ 0 r_ (bc_ 0 r_ sub_end)))
  · (repeat (first | exact True.intro | refine ⟨rfl, ?_⟩))
  rintro k hk
  have eLk : ((g.blocks).map Bk.row).length = (g.blocks).length := List.length_map _
  by_cases hltk : k < (g.blocks).length
  · have hltk2 : (k : Int) < (((g.blocks).map Bk.row).length : Int) := by omega
    have hs := nOps_take hltk
    have hle := nOps_le g.blocks (k + 1)
    have eO : ((g.blocks[k]).ops.map Opx.row).length = (g.blocks[k]).ops.length := List.length_map _
    refine R_ (o_ r_ (bw_ r_ r_ (T_ (am_ (aq_ r_ u_ (as_ (al_ (B_ (R_ (o_ r_ (cc_ r_ r_ g_ r_ r_ b_ (o_ r_ (cr_ r_ r_ r_ (o_ r_ (bl_ r_ r_ (fun bl => S_ 0 r_ (T_ (an_ (M_ r_ ?_)))))))))))))))))))
    refine F_ r_ (L_ 0 r_ (o_ r_ (br_ r_ (fun hlen => o_ r_ (bj_ r_ r_ g_ (E_ r_ (ak_ (ay_ (al_ (an_ (o_ r_ (bj_ r_ r_ g_ (M_ r_ (ak_ (jq_againS (i := k) (k + 1) hltk g_ ?_ ?_)))))))))))))))
    · exact bc_ 1 r_ (bc_ 1 r_ (bc_ 1 r_ (bc_ 1 r_ sub_end)))
    · rw [hs]
      rw [show ((nOps (g.blocks.take k) + (g.blocks[k]).ops.length : Nat) : Int) = (nOps (g.blocks.take k) : Int) + (((g.blocks[k]).ops.map Opx.row).length : Int) by omega]
      (repeat (first | exact True.intro | refine ⟨rfl, ?_⟩))
  · have hltk2 : ¬ (k : Int) < (((g.blocks).map Bk.row).length : Int) := by omega
    rw [List.take_of_length_le (show g.blocks.length ≤ k by omega)]
    by_cases hl1 : ((g.blocks.map Bk.row).length : Int) + ((nd.map Irow).length : Int) > 64
    · have hres := hlm (.inl (by omega))
      refine R_ (o_ r_ (bw_ r_ r_ (T_ (am_ (ap_ r_ w_ (av_ (ax_ (ax_ (ba_ (al_ (am_ (R_ (F_ r_ (L_ 1 r_ (o_ r_ (br_ r_ (fun hlen => L_ 0 r_ ?_)))))))))))))))))
      refine o_ r_ (br_ r_ (fun hlen => o_ r_ (bj_ r_ r_ g_ (o_ r_ (bz_ r_ r_ (M_ r_ (ai_ r_ u_ b_ (ai_ r_ u_ b_ (ai_ r_ u_ b_ (ai_ r_ u_ b_ (ai_ r_ u_ b_ (ai_ r_ u_ b_ (o_ r_ (bp_ r_ u_ r_ (T_ (aq_ r_ r_ (R_ (o_ r_ (bu_ r_ r_ r_ r_ r_ (S_ 3 r_ ?_))))))))))))))))))))
      exact E_ r_ (E_ r_ (T_ (ar_ (aw_ (jq_row 0 ghZ.row rfl zero_row (jq_ownNil 33 1 g_ (jq_freeze 5 0 rfl rfl (by rw [hc]; simp [hb]) (jq_retRow2 rfl rfl rfl rfl rfl rfl 0 rfl (fun K h => by rw [UnK, hres] at h; exact h) sub_end))))))))
    by_cases hl2 : ((nOps g.blocks : Nat) : Int) + ((opsAt g.blocks nd : Nat) : Int) > 600
    · have hres := hlm (.inr (by omega))
      refine R_ (o_ r_ (bw_ r_ r_ (T_ (am_ (ap_ r_ w_ (av_ (ax_ (ax_ (ba_ (al_ (am_ (R_ (F_ r_ (L_ 1 r_ (o_ r_ (br_ r_ (fun hlen => L_ 0 r_ ?_)))))))))))))))))
      refine o_ r_ (br_ r_ (fun hlen => o_ r_ (bj_ r_ r_ g_ (o_ r_ (bz_ r_ r_ (M_ r_ (ah_ r_ w_ b_ (bd_ r_ (ah_ r_ w_ b_ (bs_ 1 r_ r_ r_ r_ (ah_ r_ w_ b_ (bg_ 0 r_ r_ r_ r_ (ah_ r_ w_ b_ (bm_ r_ (hop) (ah_ r_ w_ b_ (bj_ r_ r_ g_ (ah_ r_ w_ b_ (bz_ r_ r_ (o_ r_ (bv_ r_ w_ r_ (T_ (aq_ r_ u_ (R_ (o_ r_ (bu_ r_ r_ r_ r_ r_ (S_ 3 r_ ?_))))))))))))))))))))))))))
      exact E_ r_ (E_ r_ (T_ (ar_ (aw_ (jq_row 0 ghZ.row rfl zero_row (jq_ownNil 33 1 g_ (jq_freeze 5 0 rfl rfl (by rw [hc]; simp [hb]) (jq_retRow2 rfl rfl rfl rfl rfl rfl 0 rfl (fun K h => by rw [UnK, hres] at h; exact h) sub_end))))))))
    have hres := hok (by omega)
    clear hok hlm
    have hCp := sCopy_c g hw
    have hId := identity_c g.blocks.length (by omega)
    rw [← eB] at hId
    refine R_ (o_ r_ (bw_ r_ r_ (T_ (am_ (ap_ r_ w_ (av_ (ax_ (ax_ (ba_ (al_ (am_ (R_ (F_ r_ (L_ 1 r_ (o_ r_ (br_ r_ (fun hlen => L_ 0 r_ ?_)))))))))))))))))
    refine o_ r_ (br_ r_ (fun hlen => o_ r_ (bj_ r_ r_ g_ (o_ r_ (bz_ r_ r_ (M_ r_ (ah_ r_ w_ b_ (bd_ r_ (ah_ r_ w_ b_ (bs_ 1 r_ r_ r_ r_ (ah_ r_ w_ b_ (bg_ 0 r_ r_ r_ r_ (ah_ r_ w_ b_ (bm_ r_ (hop) (ah_ r_ w_ b_ (bj_ r_ r_ g_ (ah_ r_ w_ b_ (bz_ r_ r_ (o_ r_ (bv_ r_ w_ r_ (T_ (ap_ r_ w_ (as_ (al_ (R_ ?_)))))))))))))))))))))))))
    refine A_ 1 r_ (o_ r_ (bt_ [] rfl rfl hCp (fun i0 hi0 => o_ r_ (bl_ rfl rfl (fun bo => S_ 0 r_ (T_ (R_ (F_ r_ (L_ 7 r_ (o_ r_ (br_ r_ (fun hlen => o_ r_ (bt_ [] rfl rfl hId (fun t0 ht0 => E_ r_ (T_ (R_ (o_ r_ (ow_makeFunc r_ (E_ r_ (T_ ?_))))))))))))))))))))
    refine am_ (R_ (L_ 8 r_ (o_ r_ (br_ r_ (fun hlen => M_ r_ (T_ (au_ ?_)))))))
    obtain ⟨vB0, vP, vH, ns0, ps0⟩ := i0
    obtain ⟨vT, ts0⟩ := t0
    dsimp only at hi0 ht0 ⊢
    have hid : idM (g.blocks.map Bk.row).length = mpQ g.blocks.length nd 0 := by rw [eB, mpQ_zero]; rfl
    rw [hid]
    clear hid hCp hId hop hlen
    refine jc_loopS (ι := Nat × Value × List Value × List Value) [] (fun i => i.1 ≤ (nd).length ∧ i.2.2.1.length = g.blocks.length + i.1 ∧ i.2.2.2.length = g.blocks.length) (fun i => (89, In .i64 (i.1 : Int)) :: [(87, .cell (.list (nd.map Irow))), (88, In .i64 ((nd.map Irow).length : Int)), (14, Ptr bo), (15, .cell (.val vT)), (16, .cell (.val (.func (.func 18) #[] #[PV bn, PV bg]))), (10, Ptr bn), (2, Ptr bg), (3, Ptr bh), (4, Ptr br)]) (fun i => [.blk bn 33 [.list (nd.map Irow)], .blk bg 28 g.row, .own i.2.1 35 3 (bkVs (unQ g.blocks nd h i.1) i.2.2.1), .fam (famI 3 i.2.2.1 (nxs (unQ g.blocks nd h i.1))), .own vT 33 1 (i.2.2.2.map vrow), .fam (famI 3 i.2.2.2 (mpQ g.blocks.length nd i.1)), .own vP 33 1 (ps0.map vrow), .fam (famI 3 ps0 g.points), .own vH 42 2 (g.heads.map HdRow), .blk bo 28 (GhV g i.2.1 vP vH), .blk bh 3 [.val (.int .i64 h)], .blk br 28 GhZ]) (fun i => (nd).length - i.1) (0, vB0, ns0, ts0) ⟨Nat.zero_le _, by dsimp only; omega, by dsimp only; omega⟩ ?_ ?_ ?_
    · dsimp only
      rw [unQ_zero]
      exact bc_ 8 r_ (bc_ 8 r_ (bc_ 3 r_ (bc_ 3 r_ (bc_ 0 r_ (bc_ 0 r_ (bc_ 1 r_ (bc_ 1 r_ (bc_ 1 r_ (bc_ 0 r_ (bc_ 0 r_ (bc_ 0 r_ sub_end)))))))))))
    · (repeat (first | exact True.intro | refine ⟨rfl, ?_⟩))
    rintro ⟨k, vB, ns, ts⟩ hz
    dsimp only at hz ⊢
    obtain ⟨hk, ⟨hns, hts⟩⟩ := hz
    have eLk : ((nd).map Irow).length = (nd).length := List.length_map _
    by_cases hltk : k < (nd).length
    · have hltk2 : (k : Int) < (((nd).map Irow).length : Int) := by omega
      have hb := hnb nd[k] (List.getElem_mem hltk)
      obtain ⟨b, hbe⟩ : ∃ b : Nat, b = (nd[k]).toNat := ⟨_, rfl⟩
      have hbi : nd[k] = (b : Int) := by omega
      have hbn : b < g.blocks.length := by omega
      have hkr : (nd.map Irow)[k]? = some (Irow (b : Int)) := by rw [List.getElem?_map, List.getElem?_eq_getElem hltk, ← hbi]; rfl
      have hbr : (g.blocks.map Bk.row)[b]? = some (Bk.row g.blocks[b]) := by rw [List.getElem?_map, List.getElem?_eq_getElem hbn]; rfl
      have huq : (unQ g.blocks nd h k)[b]? = some g.blocks[b] := by subst hbe; exact unQ_get hasc hltk hb.1 (by omega)
      have hqn : unQ g.blocks nd h (k + 1) = (unQ g.blocks nd h k).set b ⟨(g.blocks[b]).ops, (g.blocks[b]).cond, mapP (rpF g.blocks.length nd h) (g.blocks[b]).next (g.blocks[b]).next.length⟩ ++ [neB g.blocks.length nd h g.blocks[b]] := by subst hbe; exact unQ_next hltk hb.1 (by omega)
      have hq0 : nxK g.blocks nd h k b (g.blocks[b]).next 0 = nxs (unQ g.blocks nd h k) := by subst hbe; exact nxK_zero hasc hltk hb.1 (by omega)
      have hqe : nxK g.blocks nd h k b (g.blocks[b]).next (g.blocks[b]).next.length ++ [(g.blocks[b]).next.map (npF g.blocks.length nd h)] = nxs (unQ g.blocks nd h (k + 1)) := by subst hbe; exact nxK_end hltk hb.1 (by omega)
      have hm0 : (mpQ g.blocks.length nd k)[b]? = some [(b : Int)] := by
        have := mpQ_get (n := g.blocks.length) hasc hltk hb.1 (by omega)
        rw [← hbe, hbi] at this
        exact this
      have hms : mpQ g.blocks.length nd (k + 1) = (mpQ g.blocks.length nd k).set b ([(b : Int)] ++ [copN g.blocks.length nd (b : Int)]) := by rw [hbe, mpQ_step hltk hb.1, hbi]; rfl
      have hul := unQ_len g.blocks nd h hk
      have hbv : (bkVs (unQ g.blocks nd h k) ns).length = g.blocks.length + k := by rw [bkVs_len (by omega), hul]
      have hbnx := (ch_next hck b).1
      have hbnd := (ch_next hck b).2.2
      rw [nx_at hbn] at hbnx hbnd
      obtain ⟨v0, hv0⟩ : ∃ v0, ns[b]? = some v0 := ⟨ns[b], List.getElem?_eq_getElem (by omega)⟩
      obtain ⟨tv, htv⟩ : ∃ tv, ts[b]? = some tv := ⟨ts[b], List.getElem?_eq_getElem (by omega)⟩
      have hrw : (bkVs (unQ g.blocks nd h k) ns)[b]? = some (bkV g.blocks[b] v0) := by
        obtain ⟨h1, rfl⟩ := List.getElem?_eq_some_iff.1 hv0
        obtain ⟨h2, h3⟩ := List.getElem?_eq_some_iff.1 huq
        rw [bkVs_get h2 h1, h3]
      have cO := cloneOp_c (g.blocks[b]).ops (by have := szB_mem (List.getElem_mem hbn); have := hw.size; unfold szG at this; omega)
      have hCc := copied_c bn bg g nd hasc (by omega) (by omega)
      generalize hxb : g.blocks[b] = xb at *
      clear hbe
      refine R_ (o_ r_ (bw_ r_ r_ (T_ (am_ (aq_ r_ u_ (as_ (al_ (B_ (R_ (o_ r_ (ow_indexAddrN k r_ r_ r_ hkr r_ b_ (o_ r_ (cb_ r_ r_ (E_ r_ (T_ (R_ (F_ r_ (L_ 1 r_ ?_))))))))))))))))))
      refine M_ r_ (o_ r_ (ow_indexAddrN b r_ r_ g_ hbr r_ b_ (o_ r_ (cr_ r_ r_ r_ (o_ r_ (bl_ rfl rfl (fun b19 => S_ 0 r_ (T_ (am_ (jc_anyB 7 (some 6) rfl k_ k_ (yF_ r_ (yL_ 0 r_ (aa_ (fun c => bm_ r_ (cO) p_) (yF_ r_ (yL_ 0 r_ (aa_ (fun c => bu_ r_ r_ r_ r_ r_ p_) (af_ (ae_ ?_))))))))))))))))))
      refine afin_some rfl rfl rfl (fun bl => S_ 0 r_ (T_ (am_ (R_ (F_ r_ (L_ 1 r_ (o_ r_ (br_ r_ (fun hlen => M_ r_ (T_ (au_ ?_)))))))))))
      generalize bl = b20
      refine jc_ownNil 3 1 g_ ?_
      refine jc_loopS (ι := Nat × Value) [] (fun i => i.1 ≤ (xb.next).length) (fun i => (107, In .i64 (i.1 : Int)) :: [(105, .cell (.list (xb.next.map Irow))), (106, In .i64 ((xb.next.map Irow).length : Int)), (18, In .i64 (b : Int)), (19, Ptr b19), (20, Ptr b20), (87, .cell (.list (nd.map Irow))), (88, In .i64 ((nd.map Irow).length : Int)), (89, In .i64 (k : Int)), (14, Ptr bo), (15, .cell (.val vT)), (16, .cell (.val (.func (.func 18) #[] #[PV bn, PV bg]))), (10, Ptr bn), (2, Ptr bg), (3, Ptr bh), (4, Ptr br)]) (fun i => [.own i.2 3 1 (((xb.next.take i.1).map (npF g.blocks.length nd h)).map irow), .fam (famI 3 ns (nxK g.blocks nd h k b xb.next i.1)), .blk bn 33 [.list (nd.map Irow)], .blk bg 28 g.row, .own vB 35 3 (bkVs (unQ g.blocks nd h k) ns), .blk b20 35 [.list (xb.ops.map Opx.row), .val (.int .i64 xb.cond), .val i.2], .blk b19 35 xb.row, .own vT 33 1 (ts.map vrow), .fam (famI 3 ts (mpQ g.blocks.length nd k)), .own vP 33 1 (ps0.map vrow), .fam (famI 3 ps0 g.points), .own vH 42 2 (g.heads.map HdRow), .blk bo 28 (GhV g vB vP vH), .blk bh 3 [.val (.int .i64 h)], .blk br 28 GhZ]) (fun i => (xb.next).length - i.1) (0, .slice none 0 0) (Nat.zero_le _) ?_ ?_ ?_
      · dsimp only
        rw [hq0]
        exact bc_ 0 r_ (bc_ 5 r_ (bc_ 2 r_ (bc_ 2 r_ (bc_ 2 r_ (bc_ 0 r_ (bc_ 0 r_ (bc_ 0 r_ (bc_ 0 r_ (bc_ 0 r_ (bc_ 0 r_ (bc_ 0 r_ (bc_ 0 r_ (bc_ 0 r_ (bc_ 0 r_ sub_end))))))))))))))
      · (repeat (first | exact True.intro | refine ⟨rfl, ?_⟩))
      rintro ⟨q, v⟩ hz
      dsimp only at hz ⊢
      obtain hq := hz
      have eLq : ((xb.next).map Irow).length = (xb.next).length := List.length_map _
      by_cases hltq : q < (xb.next).length
      · have hltq2 : (q : Int) < (((xb.next).map Irow).length : Int) := by omega
        have hyr : (xb.next.map Irow)[q]? = some (Irow xb.next[q]) := by rw [List.getElem?_map, List.getElem?_eq_getElem hltq]; rfl
        have hgL := nxK_get (B := g.blocks) (nd := nd) (h := h) hk hbn xb.next q
        have hkl := nxK_len (B := g.blocks) (nd := nd) (h := h) (b := b) hk xb.next q
        have hml := mapP_len (rpF g.blocks.length nd h) xb.next q
        have htk : (xb.next.take (q + 1)).map (npF g.blocks.length nd h) = (xb.next.take q).map (npF g.blocks.length nd h) ++ [(npF g.blocks.length nd h) xb.next[q]] := by rw [List.take_succ_eq_append_getElem hltq, List.map_append]; rfl
        by_cases hyh : xb.next[q] = h
        · have hse : mapP (rpF g.blocks.length nd h) xb.next (q + 1) = (mapP (rpF g.blocks.length nd h) xb.next q).set (q : Int).toNat (copN g.blocks.length nd xb.next[q]) := by
            have := mapP_set (f := rpF g.blocks.length nd h) hltq
            rw [rpF, if_pos hyh] at this
            exact this.symm
          have hnp : (npF g.blocks.length nd h) xb.next[q] = xb.next[q] := if_pos hyh
          rw [hnp] at htk
          refine R_ (o_ r_ (bw_ r_ r_ (T_ (am_ (aq_ r_ u_ (as_ (al_ (B_ (R_ (M_ r_ (o_ r_ (ow_indexAddrN q r_ r_ r_ hyr r_ b_ (o_ r_ (cb_ r_ r_ (E_ r_ (E_ r_ (T_ (R_ ?_))))))))))))))))))
          refine M_ r_ (L_ 13 r_ (o_ r_ (bn_ r_ r_ (T_ (aq_ r_ u_ (am_ (jc_regroup _ (famI_outE (j := 1) b hv0 hgL rfl) (jc_anyB 11 none rfl k_ k_ (yF_ r_ (yL_ 13 r_ (yM_ r_ (aa_ (fun c => ow_indexOwnE 5 b r_ r_ r_ g_ g_ r_ p_) (aa_ (fun c => ow_fieldAddrInn r_ r_ r_ b_ p_) (aa_ (fun c => ow_loadInn 5 b 2 r_ r_ r_ r_ hrw r_ p_) (yM_ r_ (yM_ r_ ?_))))))))))))))))
          refine yM_ r_ (aa_ (fun c => ow_callcA [3, 3] r_ r_ r_ r_ (hCc _)) (aa_ (fun c => ow_indexI 0 r_ r_ r_ g_ r_ p_) (ae_ (afin_none (ag_ (ow_storeI 0 r_ r_ r_ g_ r_ (T_ (an_ (F_ r_ (L_ 6 r_ (M_ r_ (o_ r_ (bq_ r_ r_ b_ r_ r_ b_ ?_)))))))))))))
          refine o_ r_ (ow_append1 2 (xb.next[q]) rfl rfl rfl rfl rfl rfl rfl (fun _ => rfl) (by simp only [List.length_map, List.length_take, List.length_append, List.length_cons, List.length_nil] ; show (_ + 1) * 8 ≤ _ ; omega) (by simp only [List.length_map, List.length_take, List.length_append, List.length_cons, List.length_nil] ; omega) (fun v1 hv1 => F_ r_ (W_ 6 r_ (ak_ (ay_ (al_ (an_ (o_ r_ (bj_ r_ r_ g_ (M_ r_ ?_))))))))))
          refine ak_ (jq_regroup _ (famI_inV (j := 2) (j2 := 2) (vs' := ns) (Ls' := nxK g.blocks nd h k b xb.next (q + 1)) b g_ g_ rfl (set_sameC hv0).symm (nxK_set _ hse.symm)) (jq_againS (i := (q, v)) (q + 1, v1) hltq (by dsimp only; omega) ?_ ?_))
          · dsimp only
            rw [htk]
            exact bc_ 2 r_ (bc_ 0 r_ (bc_ 1 r_ (bc_ 1 r_ (bc_ 1 r_ (bc_ 0 r_ (bc_ 0 r_ (bc_ 0 r_ (bc_ 0 r_ (bc_ 0 r_ (bc_ 0 r_ (bc_ 0 r_ (bc_ 0 r_ (bc_ 0 r_ (bc_ 0 r_ sub_end))))))))))))))
          · (repeat (first | exact True.intro | refine ⟨rfl, ?_⟩))
        · have hnp : (npF g.blocks.length nd h) xb.next[q] = copN g.blocks.length nd xb.next[q] := if_neg hyh
          rw [hnp] at htk
          have hsm := nxK_same (B := g.blocks) (nd := nd) (h := h) (i := k) (b := b) hltq hyh
          refine R_ (o_ r_ (bw_ r_ r_ (T_ (am_ (aq_ r_ u_ (as_ (al_ (B_ (R_ (M_ r_ (o_ r_ (ow_indexAddrN q r_ r_ r_ hyr r_ b_ (o_ r_ (cb_ r_ r_ (E_ r_ (E_ r_ (T_ (R_ ?_))))))))))))))))))
          refine M_ r_ (L_ 13 r_ (o_ r_ (bn_ r_ r_ (T_ (ap_ r_ w_ (jc_hpM 7 (n := 9) rfl 5 k_ rfl (fun cs1 hcs1 hv1 => ?_)))))))
          obtain ⟨u10, u11, u12, rfl⟩ := len3 hcs1
          obtain rfl := Option.some.inj (hv1 1 _ rfl)
          obtain rfl := Option.some.inj (hv1 2 _ rfl)
          refine hp_know 5 rfl mem0 ?_
          dsimp only [List.zipWith, know]
          refine hp_pani (by (repeat (first | refine pani_then ?_ | refine pani_block ?_)); exact pani_body) (fun hPan => ?_)
          refine df_ (i := 0) r_ k_ k_ k_ b_ hPan (dl_ r_ r_ r_ b_) (df_ (i := 1) r_ k_ k_ k_ b_ hPan (dm_ 0 r_ r_ r_ mem0 r_) (df_ (i := 2) r_ k_ k_ k_ b_ hPan (dk_ r_) (df_ (i := 3) r_ k_ k_ k_ b_ hPan (dk_ r_) (dg_ (i := 4) r_ k_ b_ (ow_callc [3, 3] r_ r_ r_ r_ (hCc _) ⟨?_, ?_⟩)))))
          exact keepK 2 rfl rfl
          refine dg_ (i := 5) r_ k_ b_ (bq_ r_ r_ b_ r_ r_ b_ ⟨?_, ?_⟩)
          exact keepK 2 rfl rfl
          refine dg_ (i := 6) rfl k_ b_ (ow_append1 3 (copN g.blocks.length nd xb.next[q]) rfl rfl rfl rfl rfl rfl rfl (fun _ => rfl) (by simp only [List.length_map, List.length_take, List.length_append, List.length_cons, List.length_nil] ; show (_ + 1) * 8 ≤ _ ; omega) (by simp only [List.length_map, List.length_take, List.length_append, List.length_cons, List.length_nil] ; omega) (fun v1 hv1 => ⟨?_, ?_⟩))
          exact keepK 3 rfl rfl
          refine df_ (i := 7) r_ k_ k_ k_ b_ hPan (dl_ r_ r_ r_ b_) (hp_tail (dj_ (i := 8) rfl k_ (by decide) (ca_ 3 rfl rfl rfl rfl b_ (ht_done k_ ?_))))
          clear hPan
          refine jq_unk _ 0 rfl rfl ?_
          dsimp only [List.map, unk]
          refine ay_ (al_ (an_ (o_ r_ (bj_ r_ r_ g_ (M_ r_ (ak_ (jq_againS (i := (q, u12)) (q + 1, v1) hltq (by dsimp only; omega) ?_ ?_)))))))
          · dsimp only
            rw [htk, hsm]
            exact bc_ 1 r_ (bc_ 3 r_ (bc_ 1 r_ (bc_ 1 r_ (bc_ 1 r_ (bc_ 0 r_ (bc_ 0 r_ (bc_ 0 r_ (bc_ 0 r_ (bc_ 0 r_ (bc_ 0 r_ (bc_ 0 r_ (bc_ 0 r_ (bc_ 0 r_ (bc_ 0 r_ sub_end))))))))))))))
          · (repeat (first | exact True.intro | refine ⟨rfl, ?_⟩))
      · have hltq2 : ¬ (q : Int) < (((xb.next).map Irow).length : Int) := by omega
        have eqn : q = xb.next.length := by omega
        have htk : xb.next.take q = xb.next := List.take_of_length_le (by omega)
        have hkl := nxK_len (B := g.blocks) (nd := nd) (h := h) (b := b) hk xb.next q
        rw [htk]
        rw [← eqn] at hqe hqn
        have hpu : bkVs (unQ g.blocks nd h k) ns ++ [[.list (xb.ops.map Opx.row), .val (.int .i64 xb.cond), .val v]] = bkVs (unQ g.blocks nd h (k + 1)) (ns ++ [v]) := by
          rw [hqn, ← bkVs_push (by rw [List.length_set]; omega), bkVs_next _ _ _ xb _ huq]
          rfl
        refine R_ (o_ r_ (bw_ r_ r_ (T_ (am_ (ap_ r_ w_ (av_ (ax_ (ax_ (ba_ (al_ (R_ (F_ r_ (L_ 12 r_ (A_ 5 r_ (o_ r_ (bq_ r_ r_ b_ r_ r_ b_ (o_ r_ (ow_append 4 rfl rfl rfl rfl rfl rfl rfl (rows1 rfl) (by rw [hbv] ; show (_ + 1) * 56 ≤ _ ; omega) (by rw [hbv] ; show _ + 1 ≤ _ ; omega) (fun vB1 hvB1 => ?_)))))))))))))))))))
        refine F_ r_ (W_ 12 r_ (T_ (jc_regroup _ (famI_more (j := 2) (j2 := 2) (v := v) (L := xb.next.map (npF g.blocks.length nd h)) (vs := ns) (Ls := nxK g.blocks nd h k b xb.next q) g_ rfl hqe.symm) (jc_regroup _ (famI_outE (j := 8) b htv hm0 rfl) ?_))))
        have htv2 : ts[(b : Int).toNat * 1]? = some tv := by rw [Int.toNat_natCast, Nat.mul_one]; exact htv
        refine jc_hp0 11 (n := 13) rfl k_ (hp_pani (by (repeat (first | refine pani_then ?_ | refine pani_block ?_)); exact pani_body) (fun hPan => ?_))
        refine df_ (i := 0) r_ k_ k_ k_ b_ hPan (dk_ r_) (df_ (i := 1) r_ k_ k_ k_ b_ hPan (dk_ r_) (df_ (i := 2) r_ k_ k_ k_ b_ hPan (dk_ r_) (df_ (i := 3) r_ k_ k_ k_ b_ hPan (dk_ r_) (df_ (i := 4) rfl k_ k_ k_ b_ hPan (hok_indexOwn 9 rfl rfl rfl g_ (by rw [List.length_map] ; omega) rfl) (df_ (i := 6) r_ k_ k_ k_ b_ hPan (dk_ r_) (df_ (i := 7) r_ k_ k_ k_ b_ hPan (dk_ r_) (hp_br2 (i := 5) (j := 8) rfl rfl k_ rfl ?_ ?_)))))))
        refine hs_v (ow_loadVs 9 rfl rfl rfl htv2 ⟨?_, ?_⟩)
        exact keep0
        refine dg_ (i := 8) r_ k_ b_ (ow_callc [5, 5] r_ r_ r_ r_ (hCc _) ⟨?_, ?_⟩)
        exact keep0
        refine dg_ (i := 9) r_ k_ b_ (bq_ r_ r_ b_ r_ r_ b_ ⟨?_, ?_⟩)
        exact keep0
        refine dg_ (i := 10) rfl k_ b_ (ow_append1 2 (copN g.blocks.length nd (b : Int)) (l1 := [(b : Int)]) (f := irow) rfl rfl rfl rfl rfl rfl rfl (fun _ => rfl) b_ b_ (fun tv1 htv1 => ⟨?_, ?_⟩))
        exact keep0
        refine df_ (i := 11) rfl k_ k_ k_ b_ hPan (hok_indexOwn 9 rfl rfl rfl g_ (by rw [List.length_map] ; omega) rfl) (hp_tail (dj_ (i := 12) rfl k_ (by decide) (ow_storeVs 9 rfl rfl rfl (by rw [Int.toNat_natCast] ; omega) rfl (ht_done k_ ?_))))
        clear hPan
        rotate_left
        refine hs_v (ow_callc [5, 5] rfl rfl rfl rfl (hCc _) ⟨?_, ?_⟩)
        exact keep0
        refine hp_br2 (i := 5) (j := 9) rfl rfl k_ rfl ?_ ?_
        refine hs_v (ow_loadVs 9 rfl rfl rfl htv2 ⟨?_, ?_⟩)
        exact keep0
        refine dg_ (i := 9) r_ k_ b_ (bq_ r_ r_ b_ r_ r_ b_ ⟨?_, ?_⟩)
        exact keep0
        refine dg_ (i := 10) rfl k_ b_ (ow_append1 2 (copN g.blocks.length nd (b : Int)) (l1 := [(b : Int)]) (f := irow) rfl rfl rfl rfl rfl rfl rfl (fun _ => rfl) b_ b_ (fun tv1 htv1 => ⟨?_, ?_⟩))
        exact keep0
        refine df_ (i := 11) rfl k_ k_ k_ b_ hPan (hok_indexOwn 9 rfl rfl rfl g_ (by rw [List.length_map] ; omega) rfl) (hp_tail (dj_ (i := 12) rfl k_ (by decide) (ow_storeVs 9 rfl rfl rfl (by rw [Int.toNat_natCast] ; omega) rfl (ht_done k_ ?_))))
        clear hPan
        rotate_left
        refine hs_v (bq_ rfl rfl (nb rfl) rfl rfl (nb rfl) ⟨?_, ?_⟩)
        exact keep0
        refine dg_ (i := 5) r_ k_ b_ (ow_loadVs 9 r_ r_ r_ htv2 ⟨?_, ?_⟩)
        exact keep0
        refine dg_ (i := 10) rfl k_ b_ (ow_append1 2 (copN g.blocks.length nd (b : Int)) (l1 := [(b : Int)]) (f := irow) rfl rfl rfl rfl rfl rfl rfl (fun _ => rfl) b_ b_ (fun tv1 htv1 => ⟨?_, ?_⟩))
        exact keep0
        refine df_ (i := 11) rfl k_ k_ k_ b_ hPan (hok_indexOwn 9 rfl rfl rfl g_ (by rw [List.length_map] ; omega) rfl) (hp_tail (dj_ (i := 12) rfl k_ (by decide) (ow_storeVs 9 rfl rfl rfl (by rw [Int.toNat_natCast] ; omega) rfl (ht_done k_ ?_))))
        clear hPan
        rotate_left
        · refine ay_ (al_ (an_ (o_ r_ (bj_ r_ r_ g_ (M_ r_ (ak_ ?_))))))
          rw [show (b : Int).toNat * 1 = b by omega]
          refine jq_regroup _ (famI_inV (j := 1) (j2 := 3) (vs' := ts.set b tv1) (Ls' := mpQ g.blocks.length nd (k + 1)) b g_ (by rw [mpQ_len]; omega) rfl rfl hms) (jq_againS (i := (k, vB, ns, ts)) (k + 1, vB1, ns ++ [v], ts.set b tv1) ⟨hltk, by dsimp only; rw [List.length_append, List.length_singleton]; omega, by dsimp only; rw [List.length_set]; exact hts⟩ (by dsimp only; omega) ?_ ?_)
          · dsimp only
            rw [← hpu]
            exact bc_ 2 r_ (bc_ 2 r_ (bc_ 4 r_ (bc_ 2 r_ (bc_ 1 r_ (bc_ 0 r_ (bc_ 3 r_ (bc_ 3 r_ (bc_ 3 r_ (bc_ 0 r_ (bc_ 2 r_ (bc_ 2 r_ sub_end)))))))))))
          · (repeat (first | exact True.intro | refine ⟨rfl, ?_⟩))
        · refine ay_ (al_ (an_ (o_ r_ (bj_ r_ r_ g_ (M_ r_ (ak_ ?_))))))
          rw [show (b : Int).toNat * 1 = b by omega]
          refine jq_regroup _ (famI_inV (j := 1) (j2 := 3) (vs' := ts.set b tv1) (Ls' := mpQ g.blocks.length nd (k + 1)) b g_ (by rw [mpQ_len]; omega) rfl rfl hms) (jq_againS (i := (k, vB, ns, ts)) (k + 1, vB1, ns ++ [v], ts.set b tv1) ⟨hltk, by dsimp only; rw [List.length_append, List.length_singleton]; omega, by dsimp only; rw [List.length_set]; exact hts⟩ (by dsimp only; omega) ?_ ?_)
          · dsimp only
            rw [← hpu]
            exact bc_ 2 r_ (bc_ 2 r_ (bc_ 4 r_ (bc_ 2 r_ (bc_ 1 r_ (bc_ 0 r_ (bc_ 3 r_ (bc_ 3 r_ (bc_ 3 r_ (bc_ 0 r_ (bc_ 2 r_ (bc_ 2 r_ sub_end)))))))))))
          · (repeat (first | exact True.intro | refine ⟨rfl, ?_⟩))
        · refine ay_ (al_ (an_ (o_ r_ (bj_ r_ r_ g_ (M_ r_ (ak_ ?_))))))
          rw [show (b : Int).toNat * 1 = b by omega]
          refine jq_regroup _ (famI_inV (j := 1) (j2 := 3) (vs' := ts.set b tv1) (Ls' := mpQ g.blocks.length nd (k + 1)) b g_ (by rw [mpQ_len]; omega) rfl rfl hms) (jq_againS (i := (k, vB, ns, ts)) (k + 1, vB1, ns ++ [v], ts.set b tv1) ⟨hltk, by dsimp only; rw [List.length_append, List.length_singleton]; omega, by dsimp only; rw [List.length_set]; exact hts⟩ (by dsimp only; omega) ?_ ?_)
          · dsimp only
            rw [← hpu]
            exact bc_ 2 r_ (bc_ 2 r_ (bc_ 4 r_ (bc_ 2 r_ (bc_ 1 r_ (bc_ 0 r_ (bc_ 3 r_ (bc_ 3 r_ (bc_ 3 r_ (bc_ 0 r_ (bc_ 2 r_ (bc_ 2 r_ sub_end)))))))))))
          · (repeat (first | exact True.intro | refine ⟨rfl, ?_⟩))
    · have hltk2 : ¬ (k : Int) < (((nd).map Irow).length : Int) := by omega
      have ekn : k = nd.length := by omega
      subst ekn
      rw [unQ_end, mpQ_end]
      have hub : (unBs g.blocks nd h).length = g.blocks.length + nd.length := by rw [← unQ_end]; exact unQ_len g.blocks nd h (Nat.le_refl _)
      have hCc := copied_c bn bg g nd hasc (by omega) (by omega)
      have hszP : szP g.points ≤ 1500 := by have := hw.size; unfold szG at this; omega
      have hszB : szB g.blocks ≤ 1500 := by have := hw.size; unfold szG at this; omega
      refine R_ (o_ r_ (bw_ r_ r_ (T_ (am_ (ap_ r_ w_ (av_ (ax_ (ax_ (ba_ (al_ (am_ (R_ (F_ r_ (L_ 1 r_ (o_ r_ (br_ r_ (fun hlen => M_ r_ ?_)))))))))))))))))
      refine T_ (au_ ?_)
      refine jc_loopS (ι := Nat × List Value) [] (fun i => i.1 ≤ (g.points).length ∧ i.2.length = g.points.length) (fun i => (163, In .i64 (i.1 : Int)) :: [(161, .cell (.list (g.points.map NRow))), (162, In .i64 ((g.points.map NRow).length : Int)), (14, Ptr bo), (15, .cell (.val vT)), (16, .cell (.val (.func (.func 18) #[] #[PV bn, PV bg]))), (10, Ptr bn), (2, Ptr bg), (3, Ptr bh), (4, Ptr br)]) (fun i => [.blk bn 33 [.list (nd.map Irow)], .blk bg 28 g.row, .own vP 33 1 (i.2.map vrow), .fam (famI 3 i.2 (mapP (ptF g.blocks.length nd) g.points i.1)), .own vB 35 3 (bkVs (unBs g.blocks nd h) ns), .fam (famI 3 ns (nxs (unBs g.blocks nd h))), .own vT 33 1 (ts.map vrow), .fam (famI 3 ts (unMp g.blocks.length nd)), .own vH 42 2 (g.heads.map HdRow), .blk bo 28 (GhV g vB vP vH), .blk bh 3 [.val (.int .i64 h)], .blk br 28 GhZ]) (fun i => (g.points).length - i.1) (0, ps0) ⟨Nat.zero_le _, hi0.2⟩ ?_ ?_ ?_
      · dsimp only
        rw [mapP_zero]
        exact bc_ 0 r_ (bc_ 0 r_ (bc_ 4 r_ (bc_ 4 r_ (bc_ 0 r_ (bc_ 0 r_ (bc_ 0 r_ (bc_ 0 r_ (bc_ 0 r_ (bc_ 0 r_ (bc_ 0 r_ (bc_ 0 r_ sub_end)))))))))))
      · (repeat (first | exact True.intro | refine ⟨rfl, ?_⟩))
      rintro ⟨p, ps⟩ hz
      dsimp only at hz ⊢
      obtain ⟨hp, hps⟩ := hz
      have eLp : ((g.points).map NRow).length = (g.points).length := List.length_map _
      by_cases hltp : p < (g.points).length
      · have hltp2 : (p : Int) < (((g.points).map NRow).length : Int) := by omega
        have hir : (g.points.map NRow)[p]? = some (NRow g.points[p]) := by rw [List.getElem?_map, List.getElem?_eq_getElem hltp]; rfl
        have hp0 : (mapP (ptF g.blocks.length nd) g.points p).set p (ptK g.blocks.length nd g.points[p] 0) = mapP (ptF g.blocks.length nd) g.points p := by rw [ptK_zero]; exact set_same (mapP_get hltp)
        refine R_ (o_ r_ (bw_ r_ r_ (T_ (am_ (aq_ r_ u_ (as_ (al_ (B_ (R_ (M_ r_ (o_ r_ (ow_indexAddrN p r_ r_ r_ hir r_ b_ (o_ r_ (cb_ r_ r_ (E_ r_ (E_ r_ (T_ (R_ ?_))))))))))))))))))
        refine M_ r_ (o_ r_ (br_ r_ (fun hlen => M_ r_ (T_ (au_ ?_)))))
        refine jc_loopS (ι := Nat × List Value) [] (fun i => i.1 ≤ (g.points[p]).length ∧ i.2.length = g.points.length) (fun i => (170, In .i64 (i.1 : Int)) :: [(168, .cell (.list ((g.points[p]).map Irow))), (169, In .i64 (((g.points[p]).map Irow).length : Int)), (23, In .i64 (p : Int)), (161, .cell (.list (g.points.map NRow))), (162, In .i64 ((g.points.map NRow).length : Int)), (163, In .i64 (p : Int)), (14, Ptr bo), (15, .cell (.val vT)), (16, .cell (.val (.func (.func 18) #[] #[PV bn, PV bg]))), (10, Ptr bn), (2, Ptr bg), (3, Ptr bh), (4, Ptr br)]) (fun i => [.blk bn 33 [.list (nd.map Irow)], .blk bg 28 g.row, .own vP 33 1 (i.2.map vrow), .fam (famI 3 i.2 ((mapP (ptF g.blocks.length nd) g.points p).set p (ptK g.blocks.length nd g.points[p] i.1))), .own vB 35 3 (bkVs (unBs g.blocks nd h) ns), .fam (famI 3 ns (nxs (unBs g.blocks nd h))), .own vT 33 1 (ts.map vrow), .fam (famI 3 ts (unMp g.blocks.length nd)), .own vH 42 2 (g.heads.map HdRow), .blk bo 28 (GhV g vB vP vH), .blk bh 3 [.val (.int .i64 h)], .blk br 28 GhZ]) (fun i => (g.points[p]).length - i.1) (0, ps) ⟨Nat.zero_le _, hps⟩ ?_ ?_ ?_
        · dsimp only
          rw [hp0]
          exact bc_ 0 r_ (bc_ 0 r_ (bc_ 0 r_ (bc_ 0 r_ (bc_ 0 r_ (bc_ 0 r_ (bc_ 0 r_ (bc_ 0 r_ (bc_ 0 r_ (bc_ 0 r_ (bc_ 0 r_ (bc_ 0 r_ sub_end)))))))))))
        · (repeat (first | exact True.intro | refine ⟨rfl, ?_⟩))
        rintro ⟨q, qs⟩ hz
        dsimp only at hz ⊢
        obtain ⟨hq, hqs⟩ := hz
        have eLq : ((g.points[p]).map Irow).length = (g.points[p]).length := List.length_map _
        by_cases hltq : q < (g.points[p]).length
        · have hltq2 : (q : Int) < (((g.points[p]).map Irow).length : Int) := by omega
          have hpl := szP_mem (List.getElem_mem hltp)
          have hst := ptK_step g.blocks.length nd hltq
          have hyb := ch_points hck _ (List.getElem_mem hltp) _ (List.getElem_mem hltq)
          have hlt0 := ptK_len g.blocks.length nd g.points[p] q
          have hgi : ((mapP (ptF g.blocks.length nd) g.points p).set p (ptK g.blocks.length nd g.points[p] q))[p]? = some (ptK g.blocks.length nd g.points[p] q) := List.getElem?_set_self (by rw [mapP_len]; exact hltp)
          have hgl : ((mapP (ptF g.blocks.length nd) g.points p).set p (ptK g.blocks.length nd g.points[p] q)).length = g.points.length := by rw [List.length_set, mapP_len]
          have hcn := copN_lt (nd := nd) hyb.2
          obtain ⟨pv, hpv⟩ : ∃ pv, qs[p]? = some pv := ⟨qs[p], List.getElem?_eq_getElem (by omega)⟩
          have hpv2 : qs[(p : Int).toNat * 1]? = some pv := by rw [Int.toNat_natCast, Nat.mul_one]; exact hpv
          have hyr : ((g.points[p]).map Irow)[q]? = some (Irow (g.points[p])[q]) := by rw [List.getElem?_map, List.getElem?_eq_getElem hltq]; rfl
          generalize hye : (g.points[p])[q] = y at *
          by_cases hm : y ∈ nd
          · have hne : copN g.blocks.length nd y ≠ y := hcn.2 hm
            rw [if_pos hm] at hst
            refine R_ (o_ r_ (bw_ r_ r_ (T_ (am_ (aq_ r_ u_ (as_ (al_ (B_ (R_ (o_ r_ (ow_indexAddrN q r_ r_ r_ hyr r_ b_ (o_ r_ (cb_ r_ r_ (E_ r_ (T_ (R_ (M_ r_ (M_ r_ ?_))))))))))))))))))
            refine o_ r_ (ow_callc [0, 0] r_ r_ r_ r_ (hCc _) (E_ r_ (T_ (R_ (M_ r_ (M_ r_ (o_ r_ (bx_ r_ r_ (T_ (aq_ r_ u_ (jc_regroup _ (famI_outE (j := 3) p hpv hgi rfl) (jc_hpM 11 (n := 13) rfl 10 k_ rfl (fun cs1 hcs1 hv1 => ?_)))))))))))))
            obtain ⟨u10, u11, u12, u13, u14, u15, u16, u17, rfl⟩ := len8 hcs1
            obtain rfl := Option.some.inj (hv1 1 _ rfl)
            obtain rfl := Option.some.inj (hv1 2 _ rfl)
            obtain rfl := Option.some.inj (hv1 4 _ rfl)
            obtain rfl := Option.some.inj (hv1 5 _ rfl)
            obtain rfl := Option.some.inj (hv1 6 _ rfl)
            obtain rfl := Option.some.inj (hv1 7 _ rfl)
            refine hp_know 10 rfl mem0 ?_
            dsimp only [List.zipWith, know]
            refine hp_pani (by (repeat (first | refine pani_then ?_ | refine pani_block ?_)); exact pani_body) (fun hPan => ?_)
            refine df_ (i := 0) r_ k_ k_ k_ b_ hPan (dl_ r_ r_ r_ b_) (df_ (i := 1) r_ k_ k_ k_ b_ hPan (dm_ 0 r_ r_ r_ mem0 r_) (df_ (i := 2) r_ k_ k_ k_ b_ hPan (dk_ r_) (df_ (i := 3) r_ k_ k_ k_ b_ hPan (dl_ r_ r_ r_ b_) (df_ (i := 4) r_ k_ k_ k_ b_ hPan (dm_ 0 r_ r_ r_ mem0 r_) (df_ (i := 5) r_ k_ k_ k_ b_ hPan (dk_ r_) (df_ (i := 6) rfl k_ k_ k_ b_ hPan (hok_indexOwn 5 rfl rfl rfl g_ (by rw [List.length_map] ; omega) rfl) ?_))))))
            refine df_ (i := 8) r_ k_ k_ k_ b_ hPan (dk_ r_) (hp_br2 (i := 7) (j := 9) rfl rfl k_ rfl ?_ ?_)
            refine hs_v (ow_loadVs 5 rfl rfl rfl hpv2 ⟨?_, ?_⟩)
            exact keepK 0 rfl rfl
            refine dg_ (i := 9) r_ k_ b_ (bq_ r_ r_ b_ r_ r_ b_ ⟨?_, ?_⟩)
            exact keepK 0 rfl rfl
            refine dg_ (i := 10) rfl k_ b_ (ow_append1 1 (copN g.blocks.length nd y) rfl rfl rfl rfl rfl rfl rfl (fun _ => rfl) (by show (_ + 1) * 8 ≤ _ ; omega) g_ (fun pv1 hpv1 => ⟨?_, ?_⟩))
            exact keepK 1 rfl rfl
            refine df_ (i := 11) rfl k_ k_ k_ b_ hPan (hok_indexOwn 5 rfl rfl rfl g_ (by rw [List.length_map] ; omega) rfl) (hp_tail (dj_ (i := 12) rfl k_ (by decide) (ow_storeVs 5 rfl rfl rfl (by rw [Int.toNat_natCast] ; omega) rfl (ht_done k_ ?_))))
            clear hPan
            refine jq_unk _ 2 rfl rfl ?_
            dsimp only [List.map, unk]
            rotate_left
            refine hs_v (bq_ rfl rfl (nb rfl) rfl rfl (nb rfl) ⟨?_, ?_⟩)
            exact keepK 0 rfl rfl
            refine dg_ (i := 7) r_ k_ b_ (ow_loadVs 5 r_ r_ r_ hpv2 ⟨?_, ?_⟩)
            exact keepK 0 rfl rfl
            refine dg_ (i := 10) rfl k_ b_ (ow_append1 1 (copN g.blocks.length nd y) rfl rfl rfl rfl rfl rfl rfl (fun _ => rfl) (by show (_ + 1) * 8 ≤ _ ; omega) g_ (fun pv1 hpv1 => ⟨?_, ?_⟩))
            exact keepK 1 rfl rfl
            refine df_ (i := 11) rfl k_ k_ k_ b_ hPan (hok_indexOwn 5 rfl rfl rfl g_ (by rw [List.length_map] ; omega) rfl) (hp_tail (dj_ (i := 12) rfl k_ (by decide) (ow_storeVs 5 rfl rfl rfl (by rw [Int.toNat_natCast] ; omega) rfl (ht_done k_ ?_))))
            clear hPan
            refine jq_unk _ 2 rfl rfl ?_
            dsimp only [List.map, unk]
            rotate_left
            · rw [show (p : Int).toNat * 1 = p by omega]
              refine ay_ (al_ (an_ (o_ r_ (bj_ r_ r_ g_ (M_ r_ (ak_ (jq_regroup _ (famI_inV (j := 2) (j2 := 2) (vs' := qs.set p pv1) (Ls' := (mapP (ptF g.blocks.length nd) g.points p).set p (ptK g.blocks.length nd g.points[p] (q + 1))) p g_ g_ rfl rfl (by rw [hst, List.set_set])) (jq_againS (i := (q, qs)) (q + 1, qs.set p pv1) ⟨hltq, by dsimp only; rw [List.length_set]; exact hqs⟩ (by dsimp only; omega) ?_ ?_))))))))
              · exact bc_ 3 r_ (bc_ 3 r_ (bc_ 2 r_ (bc_ 0 r_ (bc_ 1 r_ (bc_ 1 r_ (bc_ 1 r_ (bc_ 1 r_ (bc_ 1 r_ (bc_ 0 r_ (bc_ 0 r_ (bc_ 0 r_ sub_end)))))))))))
              · (repeat (first | exact True.intro | refine ⟨rfl, ?_⟩))
            · rw [show (p : Int).toNat * 1 = p by omega]
              refine ay_ (al_ (an_ (o_ r_ (bj_ r_ r_ g_ (M_ r_ (ak_ (jq_regroup _ (famI_inV (j := 2) (j2 := 2) (vs' := qs.set p pv1) (Ls' := (mapP (ptF g.blocks.length nd) g.points p).set p (ptK g.blocks.length nd g.points[p] (q + 1))) p g_ g_ rfl rfl (by rw [hst, List.set_set])) (jq_againS (i := (q, qs)) (q + 1, qs.set p pv1) ⟨hltq, by dsimp only; rw [List.length_set]; exact hqs⟩ (by dsimp only; omega) ?_ ?_))))))))
              · exact bc_ 3 r_ (bc_ 3 r_ (bc_ 2 r_ (bc_ 0 r_ (bc_ 1 r_ (bc_ 1 r_ (bc_ 1 r_ (bc_ 1 r_ (bc_ 1 r_ (bc_ 0 r_ (bc_ 0 r_ (bc_ 0 r_ sub_end)))))))))))
              · (repeat (first | exact True.intro | refine ⟨rfl, ?_⟩))
          · have hne : ¬ copN g.blocks.length nd y ≠ y := fun q => hm (hcn.1 q)
            rw [if_neg hm] at hst
            refine R_ (o_ r_ (bw_ r_ r_ (T_ (am_ (aq_ r_ u_ (as_ (al_ (B_ (R_ (o_ r_ (ow_indexAddrN q r_ r_ r_ hyr r_ b_ (o_ r_ (cb_ r_ r_ (E_ r_ (T_ (R_ (M_ r_ (M_ r_ ?_))))))))))))))))))
            refine o_ r_ (ow_callc [0, 0] r_ r_ r_ r_ (hCc _) (E_ r_ (T_ (R_ (M_ r_ (M_ r_ (o_ r_ (bx_ r_ r_ (T_ (ap_ r_ w_ (as_ (ay_ (al_ (an_ (o_ r_ (bj_ r_ r_ g_ (M_ r_ (ak_ ?_))))))))))))))))))
            refine jq_againS (i := (q, qs)) (q + 1, qs) ⟨hltq, hqs⟩ (by dsimp only; omega) ?_ ?_
            · dsimp only
              rw [hst]
              exact bc_ 0 r_ (bc_ 0 r_ (bc_ 0 r_ (bc_ 0 r_ (bc_ 0 r_ (bc_ 0 r_ (bc_ 0 r_ (bc_ 0 r_ (bc_ 0 r_ (bc_ 0 r_ (bc_ 0 r_ (bc_ 0 r_ sub_end)))))))))))
            · (repeat (first | exact True.intro | refine ⟨rfl, ?_⟩))
        · have hltq2 : ¬ (q : Int) < (((g.points[p]).map Irow).length : Int) := by omega
          have hse : (mapP (ptF g.blocks.length nd) g.points p).set p (ptK g.blocks.length nd g.points[p] q) = mapP (ptF g.blocks.length nd) g.points (p + 1) := by rw [ptK_end _ _ (by omega)]; exact mapP_set hltp
          rw [hse]
          refine R_ (o_ r_ (bw_ r_ r_ (T_ (am_ (ap_ r_ w_ (av_ (ax_ (ax_ (ba_ (ay_ (al_ (an_ (o_ r_ (bj_ r_ r_ g_ (M_ r_ (ak_ (jq_againS (i := (p, ps)) (p + 1, qs) ⟨hltp, hqs⟩ (by dsimp only; omega) ?_ ?_)))))))))))))))))
          · exact bc_ 0 r_ (bc_ 0 r_ (bc_ 0 r_ (bc_ 0 r_ (bc_ 0 r_ (bc_ 0 r_ (bc_ 0 r_ (bc_ 0 r_ (bc_ 0 r_ (bc_ 0 r_ (bc_ 0 r_ (bc_ 0 r_ sub_end)))))))))))
          · (repeat (first | exact True.intro | refine ⟨rfl, ?_⟩))
      · have hltp2 : ¬ (p : Int) < (((g.points).map NRow).length : Int) := by omega
        have hpe : mapP (ptF g.blocks.length nd) g.points p = unPs g.blocks.length nd g.points := by rw [mapP_end _ _ (by omega)]; rfl
        rw [hpe]
        have hh64 := heads_few hck
        obtain ⟨hhp, hhb⟩ := ch_heads hck
        refine R_ (o_ r_ (bw_ r_ r_ (T_ (am_ (ap_ r_ w_ (av_ (ax_ (ax_ (ba_ (al_ (am_ (R_ (F_ r_ (L_ 1 r_ (o_ r_ (br_ r_ (fun hlen => M_ r_ ?_)))))))))))))))))
        refine T_ (au_ ?_)
        refine jc_loopS (ι := Nat × Value) [] (fun i => i.1 ≤ (g.heads).length) (fun i => (197, In .i64 (i.1 : Int)) :: [(195, .cell (.list (g.heads.map HdRow))), (196, In .i64 ((g.heads.map HdRow).length : Int)), (14, Ptr bo), (15, .cell (.val vT)), (16, .cell (.val (.func (.func 18) #[] #[PV bn, PV bg]))), (10, Ptr bn), (2, Ptr bg), (3, Ptr bh), (4, Ptr br)]) (fun i => [.blk bn 33 [.list (nd.map Irow)], .blk bg 28 g.row, .own i.2 42 2 ((mapP (hdF h) g.heads i.1 ++ hdM g.blocks.length nd h (g.heads.take i.1)).map HdRow), .own vP 33 1 (ps.map vrow), .fam (famI 3 ps (unPs g.blocks.length nd g.points)), .own vB 35 3 (bkVs (unBs g.blocks nd h) ns), .fam (famI 3 ns (nxs (unBs g.blocks nd h))), .own vT 33 1 (ts.map vrow), .fam (famI 3 ts (unMp g.blocks.length nd)), .blk bo 28 (GhV g vB vP i.2), .blk bh 3 [.val (.int .i64 h)], .blk br 28 GhZ]) (fun i => (g.heads).length - i.1) (0, vH) (Nat.zero_le _) ?_ ?_ ?_
        · dsimp only
          rw [show (mapP (hdF h) g.heads 0 ++ hdM g.blocks.length nd h (g.heads.take 0)) = g.heads by rw [mapP_zero, List.take_zero]; exact List.append_nil _]
          exact bc_ 0 r_ (bc_ 0 r_ (bc_ 6 r_ (bc_ 0 r_ (bc_ 0 r_ (bc_ 0 r_ (bc_ 0 r_ (bc_ 0 r_ (bc_ 0 r_ (bc_ 0 r_ (bc_ 0 r_ (bc_ 0 r_ sub_end)))))))))))
        · (repeat (first | exact True.intro | refine ⟨rfl, ?_⟩))
        rintro ⟨j, vH1⟩ hz
        dsimp only at hz ⊢
        obtain hj := hz
        have eLj : ((g.heads).map HdRow).length = (g.heads).length := List.length_map _
        by_cases hltj : j < (g.heads).length
        · have hltj2 : (j : Int) < (((g.heads).map HdRow).length : Int) := by omega
          have hjr : (g.heads.map HdRow)[j]? = some (HdRow g.heads[j]) := by rw [List.getElem?_map, List.getElem?_eq_getElem hltj]; rfl
          have hst := hdM_step g.blocks.length nd h hltj
          have hmg := mapP_get (f := hdF h) hltj
          have hml := mapP_len (hdF h) g.heads j
          have hms := mapP_set (f := hdF h) hltj
          have hmx := fun q => mapP_same (f := hdF h) hltj q
          have hbj := hhb _ (List.getElem_mem hltj)
          have hdl : (hdM g.blocks.length nd h (g.heads.take j)).length ≤ g.heads.length := by
            have h1 := List.length_filter_le (fun x : Hd => !decide (x.1 = h) && decide (x.1 ∈ nd)) (g.heads.take j)
            unfold hdM
            rw [List.length_map]
            rw [List.length_take] at h1
            omega
          have hcn := copN_lt (nd := nd) hbj.2.1
          obtain ⟨y, hy⟩ : ∃ y, y = g.heads[j] := ⟨_, rfl⟩
          rw [← hy] at hjr hst hmg hms hmx hbj hcn
          by_cases hyh : y.1 = h
          · rw [if_neg (fun q => q.1 hyh), List.append_nil] at hst
            have hdf : hdF h y = (y.1, y.2 / 2) := if_pos hyh
            rw [hdf] at hms
            have hrw : ((mapP (hdF h) g.heads j ++ hdM g.blocks.length nd h (g.heads.take j)).map HdRow)[j]? = some (HdRow y) := by rw [List.getElem?_map, List.getElem?_append_left (by omega), hmg]; rfl
            have hre : ((mapP (hdF h) g.heads j ++ hdM g.blocks.length nd h (g.heads.take j)).map HdRow).set j (HdRow (y.1, y.2 / 2)) = ((mapP (hdF h) g.heads (j + 1) ++ hdM g.blocks.length nd h (g.heads.take (j + 1))).map HdRow) := by rw [hst, ← hms, ← List.set_append_left _ _ (by omega), List.map_set]
            refine R_ (o_ r_ (bw_ r_ r_ (T_ (am_ (aq_ r_ u_ (as_ (al_ (B_ (R_ (M_ r_ (o_ r_ (ow_indexAddrN j r_ r_ r_ hjr r_ b_ (o_ r_ (cr_ r_ r_ r_ (o_ r_ (bl_ rfl rfl (fun b29 => E_ r_ (S_ 0 r_ (T_ ?_)))))))))))))))))))
            refine R_ (M_ r_ (F_ r_ (L_ 0 r_ (o_ r_ (ow_callc [1, 1] r_ r_ r_ r_ (hCc _) (E_ r_ (T_ (au_ (R_ (F_ r_ (L_ 2 r_ (L_ 11 r_ (o_ r_ (bn_ r_ r_ (E_ r_ (T_ (aq_ r_ u_ ?_)))))))))))))))))
            refine an_ (F_ r_ (L_ 10 r_ (M_ r_ (F_ r_ (L_ 2 r_ (o_ r_ (ow_quo64 r_ r_ g_ g_ (o_ r_ (ow_indexOwnE 3 j rfl rfl rfl rfl (by rw [List.length_map, List.length_append] ; omega) rfl (o_ r_ (ow_fieldAddrInn r_ r_ r_ b_ (ag_ (ow_storeInn (row' := HdRow (y.1, y.2 / 2)) 3 j 1 r_ r_ r_ r_ r_ hrw r_ b_ r_ (ak_ (ay_ (ay_ (al_ (an_ (o_ r_ (bj_ r_ r_ g_ ?_))))))))))))))))))))
            refine M_ r_ (ak_ (jq_againS (i := (j, vH1)) (j + 1, vH1) hltj (by dsimp only; omega) ?_ ?_))
            · dsimp only
              rw [← hre]
              exact bc_ 1 r_ (bc_ 1 r_ (bc_ 0 r_ (bc_ 1 r_ (bc_ 1 r_ (bc_ 1 r_ (bc_ 1 r_ (bc_ 1 r_ (bc_ 1 r_ (bc_ 1 r_ (bc_ 1 r_ (bc_ 1 r_ sub_end)))))))))))
            · (repeat (first | exact True.intro | refine ⟨rfl, ?_⟩))
          · have hmx2 := hmx (if_neg hyh)
            by_cases hm : y.1 ∈ nd
            · have hne : copN g.blocks.length nd y.1 ≠ y.1 := hcn.2 hm
              rw [if_pos ⟨hyh, hm⟩] at hst
              refine R_ (o_ r_ (bw_ r_ r_ (T_ (am_ (aq_ r_ u_ (as_ (al_ (B_ (R_ (M_ r_ (o_ r_ (ow_indexAddrN j r_ r_ r_ hjr r_ b_ (o_ r_ (cr_ r_ r_ r_ (o_ r_ (bl_ rfl rfl (fun b29 => E_ r_ (S_ 0 r_ (T_ ?_)))))))))))))))))))
              refine R_ (M_ r_ (F_ r_ (L_ 0 r_ (o_ r_ (ow_callc [1, 1] r_ r_ r_ r_ (hCc _) (E_ r_ (T_ (au_ (R_ (F_ r_ (L_ 2 r_ (L_ 11 r_ (o_ r_ (bn_ r_ r_ (E_ r_ (T_ (ap_ r_ w_ ?_)))))))))))))))))
              refine R_ (M_ r_ (F_ r_ (L_ 2 r_ (o_ r_ (bx_ r_ r_ (E_ r_ (T_ (aq_ r_ u_ (an_ (F_ r_ (L_ 10 r_ (M_ r_ (F_ r_ (L_ 2 r_ (o_ r_ (bu_ r_ r_ r_ r_ r_ (o_ r_ (bq_ r_ r_ b_ r_ r_ b_ ?_))))))))))))))))))
              refine o_ r_ (ow_append1 3 ((copN g.blocks.length nd y.1, y.2) : Hd) rfl rfl rfl rfl rfl rfl rfl (fun _ => rfl) (by rw [List.length_append] ; show (_ + 1) * 16 ≤ _ ; omega) (by rw [List.length_append] ; omega) (fun v1 hv1 => F_ r_ (W_ 10 r_ (ak_ (ay_ (ay_ (al_ (an_ (o_ r_ (bj_ r_ r_ g_ (M_ r_ (ak_ (jq_againS (i := (j, vH1)) (j + 1, v1) hltj (by dsimp only; omega) ?_ ?_)))))))))))))
              · dsimp only
                rw [hst, hmx2, ← List.append_assoc]
                exact bc_ 2 r_ (bc_ 2 r_ (bc_ 1 r_ (bc_ 2 r_ (bc_ 2 r_ (bc_ 2 r_ (bc_ 2 r_ (bc_ 2 r_ (bc_ 2 r_ (bc_ 0 r_ (bc_ 1 r_ (bc_ 1 r_ sub_end)))))))))))
              · (repeat (first | exact True.intro | refine ⟨rfl, ?_⟩))
            · have hne : ¬ copN g.blocks.length nd y.1 ≠ y.1 := fun q => hm (hcn.1 q)
              rw [if_neg (fun q => hm q.2), List.append_nil] at hst
              refine R_ (o_ r_ (bw_ r_ r_ (T_ (am_ (aq_ r_ u_ (as_ (al_ (B_ (R_ (M_ r_ (o_ r_ (ow_indexAddrN j r_ r_ r_ hjr r_ b_ (o_ r_ (cr_ r_ r_ r_ (o_ r_ (bl_ rfl rfl (fun b29 => E_ r_ (S_ 0 r_ (T_ ?_)))))))))))))))))))
              refine R_ (M_ r_ (F_ r_ (L_ 0 r_ (o_ r_ (ow_callc [1, 1] r_ r_ r_ r_ (hCc _) (E_ r_ (T_ (au_ (R_ (F_ r_ (L_ 2 r_ (L_ 11 r_ (o_ r_ (bn_ r_ r_ (E_ r_ (T_ (ap_ r_ w_ ?_)))))))))))))))))
              refine R_ (M_ r_ (F_ r_ (L_ 2 r_ (o_ r_ (bx_ r_ r_ (E_ r_ (T_ (ap_ r_ w_ (as_ (ay_ (ay_ (al_ (an_ (o_ r_ (bj_ r_ r_ g_ (M_ r_ (ak_ ?_)))))))))))))))))
              refine jq_againS (i := (j, vH1)) (j + 1, vH1) hltj (by dsimp only; omega) ?_ ?_
              · dsimp only
                rw [hst, hmx2]
                exact bc_ 0 r_ (bc_ 0 r_ (bc_ 1 r_ (bc_ 1 r_ (bc_ 1 r_ (bc_ 1 r_ (bc_ 1 r_ (bc_ 1 r_ (bc_ 1 r_ (bc_ 1 r_ (bc_ 1 r_ (bc_ 1 r_ sub_end)))))))))))
              · (repeat (first | exact True.intro | refine ⟨rfl, ?_⟩))
        · have hltj2 : ¬ (j : Int) < (((g.heads).map HdRow).length : Int) := by omega
          have hje : j = g.heads.length := by omega
          have hhe : (mapP (hdF h) g.heads j ++ hdM g.blocks.length nd h (g.heads.take j)) = unHs g.blocks.length nd h g.heads := by rw [hje]; exact (unHs_eq _ _ _ _).symm
          rw [hhe]
          have hul2 := unHs_len g.blocks.length nd h g.heads
          have hub2 := unHs_bd (nd := nd) (h := h) hasc (fun x hx => ⟨(hhb x hx).1, (hhb x hx).2.1⟩)
          have hasc2 := unHs_asc (nd := nd) (h := h) hasc hhp (fun x hx => (hhb x hx).2.1)
          have ho : HdO (unHs g.blocks.length nd h g.heads) := ⟨fun p q hp hq hpq => List.pairwise_iff_getElem.1 hasc2 p q hp hq hpq, fun p hp => by have := hub2 _ (List.getElem_mem hp); omega, by omega⟩
          have cS := sortHd_c 22 unroll3_c vH1 _ ho
          have hnl2 : ns.length = (unBs g.blocks nd h).length := by omega
          have hpl2 : ps.length = (unPs g.blocks.length nd g.points).length := by unfold unPs; rw [List.length_map]; exact hps
          have htl2 : ts.length = (unMp g.blocks.length nd).length := by unfold unMp; rw [List.length_map, List.length_range]; exact hts
          refine R_ (o_ r_ (bw_ r_ r_ (T_ (am_ (ap_ r_ w_ (av_ (ax_ (ax_ (ba_ (al_ (R_ (F_ r_ (L_ 9 r_ (o_ r_ (bi_ [2] r_ r_ (cS) (T_ (R_ ?_)))))))))))))))))
          refine A_ 9 r_ (M_ r_ (S_ 11 r_ (E_ r_ (E_ r_ (T_ (ar_ (jq_sub (H1 := [.blk br 28 (GhV g vB vP vH1), .own vT 33 1 (ts.map vrow), .fam (famI 3 ts (unMp g.blocks.length nd)), .own vB 35 3 (bkVs (unBs g.blocks nd h) ns), .fam (famI 3 ns (nxs (unBs g.blocks nd h))), .own vP 33 1 (ps.map vrow), .fam (famI 3 ps (unPs g.blocks.length nd g.points)), .own vH1 42 2 ((unHs g.blocks.length nd h g.heads).map HdRow)]) ?_ ?_)))))))
          · exact bc_ 0 r_ (bc_ 7 r_ (bc_ 7 r_ (bc_ 5 r_ (bc_ 5 r_ (bc_ 3 r_ (bc_ 3 r_ (bc_ 0 r_ sub_end)))))))
          refine jq_freezeFam 1 1 0 rfl (famI_holds htl2) (by rw [hc]; simp [hb]) ?_
          rw [famI_frz htl2]
          refine jq_freeze 5 0 rfl rfl (by rw [hc]; simp [hb]) (jq_freezeFam 1 1 2 rfl (bkVs_holds hnl2) (by rw [hc]; simp [hb]) ?_)
          rw [bkVs_frz hnl2]
          refine jq_freezeBi 0 0 5 rfl rfl rfl (by rw [hc]; simp [hb]) (jq_freezeFam 1 1 0 rfl (famI_holds hpl2) (by rw [hc]; simp [hb]) ?_)
          rw [famI_frz hpl2]
          exact jq_freezeBi 0 0 6 rfl rfl rfl (by rw [hc]; simp [hb]) (jq_freezeBi 1 0 7 rfl rfl rfl (by rw [hc]; simp [hb]) (jq_retRow2 rfl rfl rfl rfl rfl rfl 0 rfl (fun K h => by rw [UnK, hres] at h; exact h) sub_end))
end Go.Proofs.Ytpolnonbgaolkaa
end

section
namespace Go.Proofs.Ytpolnonbgaolkaa
open Go.Vc
set_option maxHeartbeats 1000000

def AtI (l : List (Lp × Int)) (h : Int) (k : Nat) (a : Int) : Prop := (a = -1 ∧ ∀ j (hj : j < l.length), j < k → l[j].1.hdr ≠ h) ∨ (∃ j : Nat, a = j ∧ j < k ∧ ∃ hj : j < l.length, l[j].1.hdr = h)
theorem AtI.zero (l : List (Lp × Int)) (h : Int) : AtI l h 0 (-1) := .inl ⟨rfl, fun _ _ q => absurd q (Nat.not_lt_zero _)⟩
theorem AtI.yes {l : List (Lp × Int)} {h : Int} {k : Nat} (hk : k < l.length) (he : l[k].1.hdr = h) : AtI l h (k + 1) k := .inr ⟨k, rfl, Nat.lt_succ_self k, hk, he⟩
theorem AtI.no {l : List (Lp × Int)} {h : Int} {k : Nat} {a : Int} (hk : k < l.length) (he : l[k].1.hdr ≠ h) (hA : AtI l h k a) : AtI l h (k + 1) a := by
  rcases hA with ⟨h1, h2⟩ | ⟨j, h1, h2, h3⟩
  · refine .inl ⟨h1, fun j hj hjk => ?_⟩
    rcases Nat.lt_succ_iff_lt_or_eq.1 hjk with q | q
    · exact h2 j hj q
    · subst q; exact he
  · exact .inr ⟨j, h1, by omega, h3⟩
theorem AtI.endN {l : List (Lp × Int)} {h : Int} {k : Nat} {a : Int} (hA : AtI l h k a) (hk : l.length ≤ k) (ha : a < 0) : l.find? (fun x => decide (x.1.hdr = h)) = none := by
  rcases hA with ⟨_, h2⟩ | ⟨j, h1, _⟩
  · rw [List.find?_eq_none]
    intro x hx
    obtain ⟨j, hj, rfl⟩ := List.getElem_of_mem hx
    simpa using h2 j hj (by omega)
  · omega
theorem AtI.endS {l : List (Lp × Int)} {h : Int} {k : Nat} {a : Int} (hA : AtI l h k a) (hn : (l.map fun x => x.1.hdr).Nodup) (ha : ¬ a < 0) : ∃ (j : Nat) (x : Lp × Int), a = j ∧ l[j]? = some x ∧ l.find? (fun x => decide (x.1.hdr = h)) = some x := by
  rcases hA with ⟨h1, _⟩ | ⟨j, h1, _, hj, he⟩
  · omega
  · exact ⟨j, l[j], h1, List.getElem?_eq_getElem hj, find_last (f := fun x : Lp × Int => x.1.hdr) hn hj he⟩
theorem loops_few (g : Gh) : (loopsF g).1.length ≤ g.blocks.length := by
  unfold loopsF
  split
  · exact Nat.zero_le _
  · split
    · exact Nat.zero_le _
    · cases h : lpsO g g.blocks.length with
      | none => exact Nat.zero_le _
      | some l =>
        dsimp only
        rw [arS_len, srt_len]
        exact lpsO_len h
abbrev m1 : Int → Int := fun _ => -1
theorem toP_init {n k : Nat} (h : n ≤ k) (nd : List Int) : mapP m1 (List.replicate n 0) k = toP n nd 0 := by
  rw [mapP_end _ _ (by rw [List.length_replicate]; exact h), toP_zero, List.map_replicate]
theorem toP_at {n : Nat} {nd : List Int} {x : Int} (h0 : 0 ≤ x) (h1 : x < (n : Int)) : (toP n nd nd.length).getD x.toNat 0 = if x ∈ nd then copN n nd x else -1 := by
  rw [toP_all (by omega), show ((x.toNat : Nat) : Int) = x by omega]
theorem toP_in {n : Nat} {nd : List Int} {x : Int} (ha : Asc nd) (h0 : 0 ≤ x) (h1 : x < (n : Int)) (hm : x ∈ nd) : (toP n nd nd.length).getD x.toNat 0 = copN n nd x ∧ 0 ≤ (toP n nd nd.length).getD x.toNat 0 ∧ (toP n nd nd.length).getD x.toNat 0 < (n : Int) + (nd.length : Int) := by
  have := cop_in (n := n) ha hm
  rw [toP_at h0 h1, if_pos hm]
  exact ⟨rfl, by omega, this.2⟩
theorem toP_out {n : Nat} {nd : List Int} {x : Int} (h0 : 0 ≤ x) (h1 : x < (n : Int)) (hm : x ∉ nd) : (toP n nd nd.length).getD x.toNat 0 = -1 := by
  rw [toP_at h0 h1, if_neg hm]
theorem unMp_step {n : Nat} (nd : List Int) {k : Nat} (hk : k < n) : (unMp n nd).take (k + 1) = (unMp n nd).take k ++ [(k : Int) :: if (k : Int) ∈ nd then [copN n nd k] else []] := by
  have hl : k < (unMp n nd).length := by unfold unMp; rw [List.length_map, List.length_range]; exact hk
  rw [List.take_succ_eq_append_getElem hl]
  congr 1
  simp [unMp]
theorem unMp_len (n : Nat) (nd : List Int) : (unMp n nd).length = n := by simp [unMp]
end Go.Proofs.Ytpolnonbgaolkaa
end

section
namespace Go.Proofs.Ytpolnonbgaolkaa
open Go.Vc
attribute [local irreducible] JL JC JQ OpWp Con ConN HOk
set_option maxHeartbeats 40000000

/-- The first slice of one's own. -/
def fstO : List Ch → Nat
  | .own .. :: _ => 0
  | _ :: H => fstO H + 1
  | [] => 0
theorem ow_appendO {P : Program} [Gl P] {nt : Nat} {c : Cx P nt} {env : Env} {H : List Ch} {K : S → List Ch → Prop} {d : Option Tmp} {ty t : TypeId} {pos : String} {af : Array Edge} {g : Option (Nat × Bool)} {x y : Operand} {v : Value} {e : TypeId} {k : Nat} {rows rows2 : List (List C)} {Hr : List Ch} [SL P t] {z : Value} (hx : env.ev x = some (.cell (.val v))) (hp : pick [fstO H] H = some ([.own v e k rows], Hr)) (hy : env.ev y = some (.cell (.list rows2)))
    (he : SL.e P t = e) (hz : (TI.i P (SL.e P t)).zero = some z) (hzs : z.cells.size = k) (hsz : (TI.i P (SL.e P t)).size = k)
    (hrow : ∀ row ∈ rows2, row.length = k) (hlim : (rows.length + rows2.length) * (TI.i P (SL.e P t)).bytes ≤ 140737488355328) (hlim2 : rows.length + rows2.length ≤ 9223372036854775807)
    (hK : ∀ v', v'.oneCell' = true → K (.cell (.val v')) (.own v' e k (rows ++ rows2) :: Hr)) :
    OpWp c ⟨d, .call { callee := .builtin .append, args := #[x, y], argTypes := #[t, t] }, ty, pos, af, g⟩ env H K := ow_append (fstO H) hx hp hy he hz hzs hsz hrow hlim hlim2 hK
theorem rUnroll_c (g : Gh) (hw : GhW g) (h : Int) : Con Try.prog 8 [.row g.row, In .i64 h] [] (UnK g h) := by
  have eB : (g.blocks.map Bk.row).length = g.blocks.length := List.length_map _
  have eP : (g.points.map NRow).length = g.points.length := List.length_map _
  have eH : (g.heads.map HdRow).length = g.heads.length := List.length_map _
  have hL := rLoops_c g hw
  have hsz := hw.ops
  have hOp := rOps_c g (by omega)
  have hlf := loops_few g
  refine con_intro Try.func8 rfl rfl (Nat.le_of_ble_eq_true rfl) (fun c hc => R_ (o_ r_ (ci_ rfl (fun bg => o_ r_ (bl_ rfl rfl (fun br => E_ r_ (E_ r_ (T_ (am_ ?_)))))))))
  by_cases he : (loopsF g).2 = 0
  case neg =>
    have hres := unr_err (h := h) he
    refine an_ (A_ 1 r_ (o_ r_ (bm_ r_ (hL) (M_ r_ (X_ r_ (X_ r_ (E_ r_ (E_ r_ (T_ (am_ (R_ (M_ r_ (o_ r_ (bx_ r_ r_ (T_ (aq_ r_ u_ (R_ ?_)))))))))))))))))
    exact o_ r_ (bu_ r_ r_ r_ r_ r_ (M_ r_ (S_ 0 r_ (E_ r_ (E_ r_ (T_ (ar_ (aw_ (jq_row 0 ghZ.row rfl zero_row (jq_ownNil 33 1 g_ (jq_freeze 5 0 rfl rfl (by rw [hc]; simp [hb]) (jq_retRow2 rfl rfl rfl rfl rfl rfl 0 rfl (fun K h => by rw [UnK, hres] at h; exact h) sub_end))))))))))))
  refine an_ (A_ 1 r_ (o_ r_ (bm_ r_ (hL) (M_ r_ (X_ r_ (X_ r_ (E_ r_ (E_ r_ (T_ (am_ (R_ (M_ r_ (o_ r_ (bx_ r_ r_ (T_ (ap_ r_ v_ (as_ ?_)))))))))))))))))
  refine al_ (R_ (E_ r_ (T_ (am_ (R_ (E_ r_ (T_ (au_ ?_))))))))
  clear hL
  refine jc_loopS (ι := Nat × Int) [] (fun i => i.1 ≤ ((loopsF g).1).length ∧ AtI (loopsF g).1 h i.1 i.2) (fun i => (10, In .i64 (i.1 : Int)) :: [(9, In .i64 i.2), (7, .cell (.list ((loopsF g).1.map AlRow))), (1, In .i64 h), (2, Ptr bg), (4, Ptr br)]) (fun i => [.blk bg 28 g.row, .blk br 28 GhZ]) (fun i => ((loopsF g).1).length - i.1) (0, -1) ⟨Nat.zero_le _, AtI.zero _ _⟩ ?_ ?_ ?_
  · exact bc_ 1 r_ (bc_ 0 r_ sub_end)
  · (repeat (first | exact True.intro | refine ⟨rfl, ?_⟩))
  rintro ⟨k, a⟩ hz
  dsimp only at hz ⊢
  obtain ⟨hk, hA⟩ := hz
  have eLk : (((loopsF g).1).map AlRow).length = ((loopsF g).1).length := List.length_map _
  by_cases hltk : k < ((loopsF g).1).length
  · have hltk2 : (k : Int) < ((((loopsF g).1).map AlRow).length : Int) := by omega
    obtain ⟨x, hx⟩ : ∃ x, x = (loopsF g).1[k] := ⟨_, rfl⟩
    have hyr : ((loopsF g).1.map AlRow)[k]? = some [.val (.int .i64 x.1.hdr), .val (.int .i64 x.1.bef), .list (x.1.nodes.map Irow), .val (.int .i64 x.2), .val (.int .i64 x.1.max)] := by rw [List.getElem?_map, List.getElem?_eq_getElem hltk, hx]; rfl
    by_cases hxh : x.1.hdr = h
    · refine am_ (R_ (M_ r_ (M_ r_ (o_ r_ (br_ r_ (fun hlen => o_ r_ (bw_ r_ r_ (T_ (aq_ r_ u_ (as_ (al_ (B_ (R_ (M_ r_ (M_ r_ (o_ r_ (ow_indexAddrN k r_ r_ r_ hyr r_ b_ (o_ r_ (cf_ r_ r_ r_ b_ r_ b_ ?_)))))))))))))))))))
      refine o_ r_ (cb_ r_ r_ (M_ r_ (o_ r_ (bn_ r_ r_ (T_ (aq_ r_ u_ (an_ (M_ r_ (E_ r_ (ak_ (ay_ (al_ (an_ (M_ r_ (o_ r_ (bj_ r_ r_ g_ (E_ r_ (ak_ ?_))))))))))))))))))
      refine jq_againS (i := (k, a)) (k + 1, (k : Int)) ⟨hltk, AtI.yes hltk (by rw [← hx]; exact hxh)⟩ (by dsimp only; omega) ?_ ?_
      · exact bc_ 0 r_ (bc_ 0 r_ sub_end)
      · (repeat (first | exact True.intro | refine ⟨rfl, ?_⟩))
    · refine am_ (R_ (M_ r_ (M_ r_ (o_ r_ (br_ r_ (fun hlen => o_ r_ (bw_ r_ r_ (T_ (aq_ r_ u_ (as_ (al_ (B_ (R_ (M_ r_ (M_ r_ (o_ r_ (ow_indexAddrN k r_ r_ r_ hyr r_ b_ (o_ r_ (cf_ r_ r_ r_ b_ r_ b_ ?_)))))))))))))))))))
      refine o_ r_ (cb_ r_ r_ (M_ r_ (o_ r_ (bn_ r_ r_ (T_ (ap_ r_ w_ (as_ (ay_ (al_ (an_ (M_ r_ (o_ r_ (bj_ r_ r_ g_ (E_ r_ (ak_ (jq_againS (i := (k, a)) (k + 1, a) ⟨hltk, AtI.no hltk (by rw [← hx]; exact hxh) hA⟩ (by dsimp only; omega) ?_ ?_))))))))))))))))
      · exact bc_ 0 r_ (bc_ 0 r_ sub_end)
      · (repeat (first | exact True.intro | refine ⟨rfl, ?_⟩))
  · have hltk2 : ¬ (k : Int) < ((((loopsF g).1).map AlRow).length : Int) := by omega
    by_cases ha : a < 0
    · have hres := unr_none he (AtI.endN hA (by omega) ha)
      refine am_ (R_ (M_ r_ (M_ r_ (o_ r_ (br_ r_ (fun hlen => o_ r_ (bw_ r_ r_ (T_ (ap_ r_ w_ (av_ (ax_ (ax_ (ba_ (al_ (am_ (R_ (M_ r_ ?_)))))))))))))))))
      exact o_ r_ (bw_ r_ r_ (T_ (aq_ r_ u_ (R_ (o_ r_ (bu_ r_ r_ r_ r_ r_ (S_ 1 r_ (E_ r_ (E_ r_ (T_ (ar_ (aw_ (jq_row 0 ghZ.row rfl zero_row (jq_ownNil 33 1 g_ (jq_freeze 5 0 rfl rfl (by rw [hc]; simp [hb]) (jq_retRow2 rfl rfl rfl rfl rfl rfl 0 rfl (fun K h => by rw [UnK, hres] at h; exact h) sub_end))))))))))))))))
    obtain ⟨pl, x, ea, hx, hf⟩ := AtI.endS hA loops_hdr ha
    subst ea
    obtain ⟨hck, hxh, hasc, hnb, hnl, hh0, hh1, hhn⟩ := unr_loop hf
    have hok := unr_ok he hf
    have hlm := unr_lim he hf
    have hbl := ch_len hck
    obtain ⟨nd, hnd⟩ : ∃ nd, nd = x.1.nodes := ⟨_, rfl⟩
    rw [← hnd] at hasc hnb hnl hhn hok hlm
    have hxr : ((loopsF g).1.map AlRow)[pl]? = some [.val (.int .i64 x.1.hdr), .val (.int .i64 x.1.bef), .list (nd.map Irow), .val (.int .i64 x.2), .val (.int .i64 x.1.max)] := by rw [List.getElem?_map, hx, hnd]; rfl
    have eN : (nd.map Irow).length = nd.length := List.length_map _
    have hopn : nOps g.blocks ≤ 600 := by
      have := (ch_ok hck).1
      unfold limG at this
      simp only [Bool.and_eq_true, decide_eq_true_eq] at this
      exact this.1.1.1.2
    refine am_ (R_ (M_ r_ (M_ r_ (o_ r_ (br_ r_ (fun hlen => o_ r_ (bw_ r_ r_ (T_ (ap_ r_ w_ (av_ (ax_ (ax_ (ba_ (al_ (am_ (R_ (M_ r_ ?_)))))))))))))))))
    refine o_ r_ (bw_ r_ r_ (T_ (ap_ r_ r_ (as_ (al_ (R_ (M_ r_ (M_ r_ (o_ r_ (ow_indexAddrN pl r_ r_ r_ hxr r_ b_ (o_ r_ (cf_ r_ r_ r_ b_ r_ b_ (o_ r_ (cb_ r_ r_ (E_ r_ (T_ (R_ (F_ r_ (L_ 0 r_ ?_)))))))))))))))))))
    refine o_ r_ (br_ r_ (fun hlen => E_ r_ (T_ (R_ (A_ 0 r_ (o_ r_ (bm_ r_ (hOp) (E_ r_ (T_ (R_ (M_ r_ (o_ r_ (ow_makeSliceI g.blocks.length rfl rfl rfl rfl rfl g_ g_ (fun vT hvT fvT => E_ r_ (T_ (am_ (R_ (E_ r_ ?_))))))))))))))))))
    refine T_ (au_ ?_)
    clear hOp hxr hx hf hA
    refine jc_loopS (ι := Nat) [] (fun k => k ≤ (g.blocks).length) (fun k => (15, In .i64 (k : Int)) :: [(13, In .i64 (nOps g.blocks : Nat)), (14, .cell (.val vT)), (12, In .i64 ((g.blocks.map Bk.row).length : Int)), (11, .cell (.list (nd.map Irow))), (1, In .i64 h), (2, Ptr bg), (4, Ptr br)]) (fun k => [.own vT 3 1 ((mapP m1 (List.replicate g.blocks.length 0) k).map irow), .blk bg 28 g.row, .blk br 28 GhZ]) (fun k => (g.blocks).length - k) 0 (Nat.zero_le _) ?_ ?_ ?_
    · rw [mapP_zero]
      exact bc_ 0 r_ (bc_ 0 r_ (bc_ 0 r_ sub_end))
    · (repeat (first | exact True.intro | refine ⟨rfl, ?_⟩))
    rintro k hk
    have eLk : ((g.blocks).map Bk.row).length = (g.blocks).length := List.length_map _
    by_cases hltk : k < (g.blocks).length
    · have hltk2 : (k : Int) < (((g.blocks).map Bk.row).length : Int) := by omega
      have hml := mapP_len m1 (List.replicate g.blocks.length 0) k
      rw [List.length_replicate] at hml
      have hms : (mapP m1 (List.replicate g.blocks.length 0) k).set (k : Int).toNat (-1) = mapP m1 (List.replicate g.blocks.length 0) (k + 1) := mapP_set (f := m1) (l := List.replicate g.blocks.length 0) (i := k) (by rw [List.length_replicate]; exact hltk)
      refine am_ (R_ (M_ r_ (M_ r_ (o_ r_ (bw_ r_ r_ (T_ (aq_ r_ u_ (as_ (al_ (B_ (an_ (M_ r_ (M_ r_ (o_ r_ (ow_indexI 0 r_ r_ r_ g_ r_ (ag_ (ow_storeI 0 r_ r_ r_ g_ r_ (ak_ ?_))))))))))))))))))
      refine ay_ (al_ (an_ (M_ r_ (o_ r_ (bj_ r_ r_ g_ (E_ r_ (ak_ (jq_againS (i := k) (k + 1) hltk g_ ?_ ?_))))))))
      · rw [← hms]
        exact bc_ 0 r_ (bc_ 0 r_ (bc_ 0 r_ sub_end))
      · (repeat (first | exact True.intro | refine ⟨rfl, ?_⟩))
    · have hltk2 : ¬ (k : Int) < (((g.blocks).map Bk.row).length : Int) := by omega
      rw [toP_init (by omega) nd]
      refine am_ (R_ (M_ r_ (M_ r_ (o_ r_ (bw_ r_ r_ (T_ (ap_ r_ w_ (av_ (ax_ (ax_ (ba_ (al_ (am_ (R_ (E_ r_ (T_ ?_))))))))))))))))
      refine au_ ?_
      refine jc_loopS (ι := Nat) [] (fun k => k ≤ (nd).length) (fun k => (16, In .i64 (k : Int)) :: [(13, In .i64 ((nOps g.blocks + opsAt g.blocks (nd.take k) : Nat) : Int)), (14, .cell (.val vT)), (12, In .i64 ((g.blocks.map Bk.row).length : Int)), (11, .cell (.list (nd.map Irow))), (1, In .i64 h), (2, Ptr bg), (4, Ptr br)]) (fun k => [.own vT 3 1 ((toP g.blocks.length nd k).map irow), .blk bg 28 g.row, .blk br 28 GhZ]) (fun k => (nd).length - k) 0 (Nat.zero_le _) ?_ ?_ ?_
      · exact bc_ 0 r_ (bc_ 0 r_ (bc_ 0 r_ sub_end))
      · rw [show nOps g.blocks + opsAt g.blocks (nd.take 0) = nOps g.blocks by simp [opsAt]]
        (repeat (first | exact True.intro | refine ⟨rfl, ?_⟩))
      rintro k hk
      have eLk : ((nd).map Irow).length = (nd).length := List.length_map _
      by_cases hltk : k < (nd).length
      · have hltk2 : (k : Int) < (((nd).map Irow).length : Int) := by omega
        have hnk := hnb nd[k] (List.getElem_mem hltk)
        obtain ⟨b, hbe⟩ : ∃ b : Nat, b = (nd[k]).toNat := ⟨_, rfl⟩
        have hbi : nd[k] = (b : Int) := by omega
        have hbn : b < g.blocks.length := by omega
        have hkr : (nd.map Irow)[k]? = some (Irow (b : Int)) := by rw [List.getElem?_map, List.getElem?_eq_getElem hltk, ← hbi]; rfl
        have hbr : (g.blocks.map Bk.row)[b]? = some (Bk.row g.blocks[b]) := by rw [List.getElem?_map, List.getElem?_eq_getElem hbn]; rfl
        have htl := toP_len g.blocks.length nd k
        have hst : toP g.blocks.length nd (k + 1) = (toP g.blocks.length nd k).set (b : Int).toNat (((g.blocks.map Bk.row).length : Int) + (k : Int)) := by rw [toP_step hasc hltk hnk.1, ← hbi, eB]
        have hle := opsAt_le (bkAt_ops g.blocks) (nd.take k)
        have hlt2 : (nd.take k).length ≤ 64 := by rw [List.length_take]; omega
        have hle2 : (nd.take k).length * nOps g.blocks ≤ 64 * 600 := Nat.mul_le_mul hlt2 hopn
        have hos := opsAt_step (B := g.blocks) hltk
        have hbk : bkAt g.blocks nd[k] = g.blocks[b] := by unfold bkAt; rw [← hbe, List.getElem?_eq_getElem hbn]; rfl
        have hbo := bkAt_ops g.blocks nd[k]
        rw [hbk] at hos hbo
        have eO : ((g.blocks[b]).ops.map Opx.row).length = (g.blocks[b]).ops.length := List.length_map _
        generalize hxb : g.blocks[b] = xb at *
        refine am_ (R_ (M_ r_ (M_ r_ (o_ r_ (br_ r_ (fun hlen => o_ r_ (bw_ r_ r_ (T_ (aq_ r_ u_ (as_ (al_ (B_ (R_ (M_ r_ (M_ r_ (M_ r_ (o_ r_ (ow_indexAddrN k r_ r_ r_ hkr r_ b_ ?_))))))))))))))))))
        refine o_ r_ (cb_ r_ r_ (M_ r_ (M_ r_ (o_ r_ (bj_ r_ r_ g_ (o_ r_ (ow_indexI 0 r_ r_ r_ g_ r_ (ag_ (ow_storeI 0 r_ r_ r_ g_ r_ (T_ (ao_ r_ r_ k_ k_ (yM_ r_ (yF_ r_ (yL_ 1 r_ (yM_ r_ (yM_ r_ (aa_ (fun c => ow_indexAddrN k r_ r_ r_ hkr r_ b_ p_) (aa_ (fun c => cb_ r_ r_ p_) (aa_ (fun c => ow_indexAddrN b r_ r_ g_ hbr r_ b_ p_) ?_)))))))))))))))))))
        refine aa_ (fun c => cf_ r_ r_ r_ b_ r_ b_ p_) (aa_ (fun c => cb_ r_ r_ p_) (aa_ (fun c => br_ r_ (fun hlen => p_)) (aa_ (fun c => bj_ r_ r_ g_ p_) (yE_ r_ (ae_ (ay_ (al_ (an_ (M_ r_ (o_ r_ (bj_ r_ r_ g_ (E_ r_ (ak_ (jq_againS (i := k) (k + 1) hltk g_ ?_ ?_))))))))))))))
        · rw [hst]
          exact bc_ 0 r_ (bc_ 0 r_ (bc_ 0 r_ sub_end))
        · rw [hos, show ((nOps g.blocks + (opsAt g.blocks (nd.take k) + xb.ops.length) : Nat) : Int) = ((nOps g.blocks + opsAt g.blocks (nd.take k) : Nat) : Int) + ((xb.ops.map Opx.row).length : Int) by omega]
          (repeat (first | exact True.intro | refine ⟨rfl, ?_⟩))
      · have hltk2 : ¬ (k : Int) < (((nd).map Irow).length : Int) := by omega
        rw [List.take_of_length_le (show nd.length ≤ k by omega)]
        have hole := opsAt_le (bkAt_ops g.blocks) nd
        have hole2 : nd.length * nOps g.blocks ≤ 64 * 600 := Nat.mul_le_mul (by omega) hopn
        have ekn : k = nd.length := by omega
        subst ekn
        by_cases hl1 : ((g.blocks.map Bk.row).length : Int) + ((nd.map Irow).length : Int) > 64
        · have hres := hlm (.inl (by omega))
          refine am_ (R_ (M_ r_ (M_ r_ (o_ r_ (br_ r_ (fun hlen => o_ r_ (bw_ r_ r_ (T_ (ap_ r_ w_ (av_ (ax_ (ax_ (ba_ (al_ (am_ (R_ (M_ r_ ?_)))))))))))))))))
          refine M_ r_ (o_ r_ (br_ r_ (fun hlen => o_ r_ (bj_ r_ r_ g_ (o_ r_ (bz_ r_ r_ (M_ r_ (ai_ r_ u_ b_ (ai_ r_ u_ b_ (o_ r_ (bp_ r_ u_ r_ (T_ (aq_ r_ r_ (R_ (o_ r_ (bu_ r_ r_ r_ r_ r_ (S_ 2 r_ (E_ r_ (E_ r_ (T_ ?_))))))))))))))))))))
          exact ar_ (aw_ (jq_row 0 ghZ.row rfl zero_row (jq_ownNil 33 1 g_ (jq_freeze 5 0 rfl rfl (by rw [hc]; simp [hb]) (jq_retRow2 rfl rfl rfl rfl rfl rfl 0 rfl (fun K h => by rw [UnK, hres] at h; exact h) sub_end)))))
        by_cases hl2 : ((nOps g.blocks + opsAt g.blocks nd : Nat) : Int) > 600
        · have hres := hlm (.inr (by omega))
          refine am_ (R_ (M_ r_ (M_ r_ (o_ r_ (br_ r_ (fun hlen => o_ r_ (bw_ r_ r_ (T_ (ap_ r_ w_ (av_ (ax_ (ax_ (ba_ (al_ (am_ (R_ (M_ r_ ?_)))))))))))))))))
          refine M_ r_ (o_ r_ (br_ r_ (fun hlen => o_ r_ (bj_ r_ r_ g_ (o_ r_ (bz_ r_ r_ (M_ r_ (ah_ r_ w_ b_ (bd_ r_ (ah_ r_ w_ b_ (bz_ r_ r_ (o_ r_ (bv_ r_ w_ r_ (T_ (aq_ r_ u_ (R_ (o_ r_ (bu_ r_ r_ r_ r_ r_ (S_ 2 r_ (E_ r_ (E_ r_ (T_ ?_))))))))))))))))))))))
          exact ar_ (aw_ (jq_row 0 ghZ.row rfl zero_row (jq_ownNil 33 1 g_ (jq_freeze 5 0 rfl rfl (by rw [hc]; simp [hb]) (jq_retRow2 rfl rfl rfl rfl rfl rfl 0 rfl (fun K h => by rw [UnK, hres] at h; exact h) sub_end)))))
        have hres := hok (by omega)
        clear hok hlm
        have hCp := rCopy_c g hw
        have hTn := fun x : Int => toP_out (n := g.blocks.length) (nd := nd) (x := x)
        have hTi := fun x : Int => toP_in (n := g.blocks.length) (nd := nd) (x := x) hasc
        have hTl := toP_len g.blocks.length nd nd.length
        generalize hTo : toP g.blocks.length nd nd.length = To at *
        refine am_ (R_ (M_ r_ (M_ r_ (o_ r_ (br_ r_ (fun hlen => o_ r_ (bw_ r_ r_ (T_ (ap_ r_ w_ (av_ (ax_ (ax_ (ba_ (al_ (am_ (R_ (M_ r_ ?_)))))))))))))))))
        refine M_ r_ (o_ r_ (br_ r_ (fun hlen => o_ r_ (bj_ r_ r_ g_ (o_ r_ (bz_ r_ r_ (M_ r_ (ah_ r_ w_ b_ (bd_ r_ (ah_ r_ w_ b_ (bz_ r_ r_ (o_ r_ (bv_ r_ w_ r_ (T_ (ap_ r_ w_ (as_ (al_ (R_ (A_ 1 r_ (o_ r_ (bt_ [] rfl rfl hCp (fun i0 hi0 => o_ r_ (bl_ rfl rfl (fun bo => ?_))))))))))))))))))))))))
        refine S_ 0 r_ (T_ (am_ (R_ (E_ r_ (T_ (au_ ?_))))))
        obtain ⟨vB0, vP, vH, ns0, ps0⟩ := i0
        dsimp only at hi0 ⊢
        clear hCp
        refine jc_loopS (ι := Nat × Value × List Value) [] (fun i => i.1 ≤ (nd).length ∧ i.2.2.length = g.blocks.length + i.1) (fun i => (18, In .i64 (i.1 : Int)) :: [(17, Ptr bo), (14, .cell (.val vT)), (12, In .i64 ((g.blocks.map Bk.row).length : Int)), (11, .cell (.list (nd.map Irow))), (1, In .i64 h), (2, Ptr bg), (4, Ptr br)]) (fun i => [.own i.2.1 35 3 (bkVs (unQ g.blocks nd h i.1) i.2.2), .fam (famI 3 i.2.2 (nxs (unQ g.blocks nd h i.1))), .own vT 3 1 ((To).map irow), .own vP 33 1 (ps0.map vrow), .fam (famI 3 ps0 g.points), .own vH 42 2 (g.heads.map HdRow), .blk bo 28 (GhV g i.2.1 vP vH), .blk bg 28 g.row, .blk br 28 GhZ]) (fun i => (nd).length - i.1) (0, vB0, ns0) ⟨Nat.zero_le _, by dsimp only; omega⟩ ?_ ?_ ?_
        · dsimp only
          rw [unQ_zero]
          exact bc_ 1 r_ (bc_ 1 r_ (bc_ 4 r_ (bc_ 1 r_ (bc_ 1 r_ (bc_ 1 r_ (bc_ 0 r_ (bc_ 0 r_ (bc_ 0 r_ sub_end))))))))
        · (repeat (first | exact True.intro | refine ⟨rfl, ?_⟩))
        rintro ⟨k, vB, ns⟩ hz
        dsimp only at hz ⊢
        obtain ⟨hk, hns⟩ := hz
        have eLk : ((nd).map Irow).length = (nd).length := List.length_map _
        by_cases hltk : k < (nd).length
        · have hltk2 : (k : Int) < (((nd).map Irow).length : Int) := by omega
          have hnk := hnb nd[k] (List.getElem_mem hltk)
          obtain ⟨b, hbe⟩ : ∃ b : Nat, b = (nd[k]).toNat := ⟨_, rfl⟩
          have hbi : nd[k] = (b : Int) := by omega
          have hbn : b < g.blocks.length := by omega
          have hkr : (nd.map Irow)[k]? = some (Irow (b : Int)) := by rw [List.getElem?_map, List.getElem?_eq_getElem hltk, ← hbi]; rfl
          have hbr : (g.blocks.map Bk.row)[b]? = some (Bk.row g.blocks[b]) := by rw [List.getElem?_map, List.getElem?_eq_getElem hbn]; rfl
          have huq : (unQ g.blocks nd h k)[b]? = some g.blocks[b] := by subst hbe; exact unQ_get hasc hltk hnk.1 (by omega)
          have hqn : unQ g.blocks nd h (k + 1) = (unQ g.blocks nd h k).set b ⟨(g.blocks[b]).ops, (g.blocks[b]).cond, mapP (rpF g.blocks.length nd h) (g.blocks[b]).next (g.blocks[b]).next.length⟩ ++ [neB g.blocks.length nd h g.blocks[b]] := by subst hbe; exact unQ_next hltk hnk.1 (by omega)
          have hnx0 : nxK g.blocks nd h k b (g.blocks[b]).next 0 = nxs (unQ g.blocks nd h k) := by subst hbe; exact nxK_zero hasc hltk hnk.1 (by omega)
          have hqe : nxK g.blocks nd h k b (g.blocks[b]).next (g.blocks[b]).next.length ++ [(g.blocks[b]).next.map (npF g.blocks.length nd h)] = nxs (unQ g.blocks nd h (k + 1)) := by subst hbe; exact nxK_end hltk hnk.1 (by omega)
          have hul := unQ_len g.blocks nd h hk
          have hbv : (bkVs (unQ g.blocks nd h k) ns).length = g.blocks.length + k := by rw [bkVs_len (by omega), hul]
          have hbnx := (ch_next hck b).1
          have hbnd := (ch_next hck b).2.2
          rw [nx_at hbn] at hbnx hbnd
          obtain ⟨v0, hv0⟩ : ∃ v0, ns[b]? = some v0 := ⟨ns[b], List.getElem?_eq_getElem (by omega)⟩
          have hrw : (bkVs (unQ g.blocks nd h k) ns)[b]? = some (bkV g.blocks[b] v0) := by
            obtain ⟨h1, rfl⟩ := List.getElem?_eq_some_iff.1 hv0
            obtain ⟨h2, h3⟩ := List.getElem?_eq_some_iff.1 huq
            rw [bkVs_get h2 h1, h3]
          have hbs := szB_mem (List.getElem_mem hbn)
          have hszB : szB g.blocks ≤ 1500 := by have := hw.size; unfold szG at this; omega
          have eO : ((g.blocks[b]).ops.map Opx.row).length = (g.blocks[b]).ops.length := List.length_map _
          generalize hxb : g.blocks[b] = xb at *
          have hbr2 : (g.blocks.map Bk.row)[b]? = some [.list (xb.ops.map Opx.row), .val (.int .i64 xb.cond), .list (xb.next.map Irow)] := hbr
          clear hbe hbr
          refine am_ (R_ (M_ r_ (M_ r_ (o_ r_ (br_ r_ (fun hlen => o_ r_ (bw_ r_ r_ (T_ (aq_ r_ u_ (as_ (al_ (B_ (am_ (jc_anyB 9 (some 8) rfl k_ k_ (yF_ r_ (yL_ 7 r_ (yM_ r_ ?_)))))))))))))))))
          refine yM_ r_ (aa_ (fun c => ow_indexAddrN k r_ r_ r_ hkr r_ b_ p_) (aa_ (fun c => cb_ r_ r_ p_) (aa_ (fun c => ow_indexAddrN b r_ r_ g_ hbr2 r_ b_ p_) (aa_ (fun c => cr_ r_ r_ r_ p_) (af_ (ae_ (afin_some rfl rfl rfl (fun bl => S_ 0 r_ (T_ (am_ ?_))))))))))
          generalize bl = b19
          refine jc_cut (ι := Nat) [] (fun _ => True) (fun i => [(20, Ptr i), (18, In .i64 (k : Int)), (19, Ptr b19), (17, Ptr bo), (14, .cell (.val vT)), (12, In .i64 ((g.blocks.map Bk.row).length : Int)), (11, .cell (.list (nd.map Irow))), (1, In .i64 h), (2, Ptr bg), (4, Ptr br)]) (fun i => [.blk i 35 [.list (xb.ops.map Opx.row), .val (.int .i64 xb.cond), .val (.slice none 0 0)], .blk b19 35 xb.row, .own vB 35 3 (bkVs (unQ g.blocks nd h k) ns), .fam (famI 3 ns (nxs (unQ g.blocks nd h k))), .own vT 3 1 ((To).map irow), .own vP 33 1 (ps0.map vrow), .fam (famI 3 ps0 g.points), .own vH 42 2 (g.heads.map HdRow), .blk bo 28 (GhV g vB vP vH), .blk bg 28 g.row, .blk br 28 GhZ]) ?_ ?_
          · refine jc_hpM 8 (n := 9) rfl 0 k_ rfl (fun cs1 hcs1 hv1 => ?_)
            obtain ⟨u10, u11, u12, rfl⟩ := len3 hcs1
            obtain rfl := Option.some.inj (hv1 1 _ rfl)
            refine hp_know 0 rfl mem0 ?_
            dsimp only [List.zipWith, know]
            refine hp_pani (by (repeat (first | refine pani_then ?_ | refine pani_block ?_)); exact pani_body) (fun hPan => ?_)
            refine df_ (i := 1) r_ k_ k_ k_ b_ hPan (dl_ r_ r_ r_ b_) (df_ (i := 2) r_ k_ k_ k_ b_ hPan (hok_loadK 0 r_ r_ r_ mem0 r_) (df_ (i := 4) r_ k_ k_ k_ b_ hPan (dl_ r_ r_ r_ b_) (df_ (i := 5) r_ k_ k_ k_ b_ hPan (dm_ 0 r_ r_ r_ mem0 r_) (hp_br2 (i := 0) (j := 7) rfl rfl k_ rfl ?_ ?_))))
            refine hs_v (ow_buildSliceOwn (rows := []) rfl rfl (nb rfl) rfl rfl (nb rfl) (fun q0 hq0 fq0 => ⟨?_, ?_⟩))
            exact keepK 1 rfl rfl
            refine hp_br2 (i := 3) (j := 7) rfl rfl k_ rfl ?_ ?_
            refine hs_v (ow_appendO rfl rfl rfl rfl rfl rfl rfl (rows_len (fun _ => rfl)) (by simp only [List.length_nil, List.length_map] ; show (0 + _) * 40 ≤ _ ; omega) (by simp only [List.length_nil, List.length_map] ; omega) (fun q3 hq3 => ⟨?_, ?_⟩))
            exact keepK 1 rfl rfl
            refine df_ (i := 6) r_ k_ k_ k_ b_ hPan (hok_build r_ r_ r_ r_ r_) (dg_ (i := 7) rfl k_ b_ (bl_ rfl rfl (fun b20 => ⟨?_, ?_⟩)))
            exact keepK 2 rfl rfl
            refine hp_tail (dj_ (i := 8) rfl k_ (by decide) (bk_ 0 rfl rfl rfl rfl rfl rfl (ht_done k_ ?_)))
            clear hPan
            refine jq_unk _ 0 rfl rfl ?_
            dsimp only [List.map, unk]
            rotate_left
            refine hs_v (bl_ rfl rfl (fun b20 => ⟨?_, ?_⟩))
            exact keepK 2 rfl rfl
            refine dg_ (i := 3) rfl k_ b_ (ow_appendO rfl rfl rfl rfl rfl rfl rfl (rows_len (fun _ => rfl)) (by simp only [List.length_nil, List.length_map] ; show (0 + _) * 40 ≤ _ ; omega) (by simp only [List.length_nil, List.length_map] ; omega) (fun q3 hq3 => ⟨?_, ?_⟩))
            exact keepK 2 rfl rfl
            refine df_ (i := 6) r_ k_ k_ k_ b_ hPan (hok_build r_ r_ r_ r_ r_) ?_; refine hp_tail ?_; refine dj_ (i := 8) rfl k_ (by decide) (bk_ 1 rfl rfl rfl rfl rfl rfl ?_); refine ht_done k_ ?_
            clear hPan
            refine jq_unk _ 0 rfl rfl ?_
            dsimp only [List.map, unk]
            rotate_left
            refine hs_v (bl_ rfl rfl (fun b20 => ⟨?_, ?_⟩))
            exact keepK 1 rfl rfl
            refine dg_ (i := 0) rfl k_ b_ (ow_buildSliceOwn (rows := []) rfl rfl b_ rfl rfl b_ (fun q0 hq0 fq0 => ⟨?_, ?_⟩))
            exact keepK 2 rfl rfl
            refine dg_ (i := 3) rfl k_ b_ (ow_appendO rfl rfl rfl rfl rfl rfl rfl (rows_len (fun _ => rfl)) (by simp only [List.length_nil, List.length_map] ; show (0 + _) * 40 ≤ _ ; omega) (by simp only [List.length_nil, List.length_map] ; omega) (fun q3 hq3 => ⟨?_, ?_⟩))
            exact keepK 2 rfl rfl
            refine df_ (i := 6) r_ k_ k_ k_ b_ hPan (hok_build r_ r_ r_ r_ r_) ?_; refine hp_tail ?_; refine dj_ (i := 8) rfl k_ (by decide) (bk_ 1 rfl rfl rfl rfl rfl rfl ?_); refine ht_done k_ ?_
            clear hPan
            refine jq_unk _ 0 rfl rfl ?_
            dsimp only [List.map, unk]
            rotate_left
            · skip
              refine jq_freezeBi 1 0 0 rfl rfl rfl (by rw [hc]; simp [hb, fstO]) (jq_row 1 [.list (xb.ops.map Opx.row), .val (.int .i64 xb.cond), .list (xb.next.map Irow)] rfl (fun _ _ _ h => rdRow_unk h) (jq_cutS b20 trivial ?_ ?_))
              · exact bc_ 1 r_ (bc_ 0 r_ (bc_ 0 r_ (bc_ 0 r_ (bc_ 0 r_ (bc_ 0 r_ (bc_ 0 r_ (bc_ 0 r_ (bc_ 0 r_ (bc_ 0 r_ (bc_ 0 r_ sub_end))))))))))
              · (repeat (first | exact True.intro | refine ⟨rfl, ?_⟩))
            · skip
              refine jq_freezeBi 1 0 0 rfl rfl rfl (by rw [hc]; simp [hb, fstO]) (jq_row 1 [.list (xb.ops.map Opx.row), .val (.int .i64 xb.cond), .list (xb.next.map Irow)] rfl (fun _ _ _ h => rdRow_unk h) (jq_cutS b20 trivial ?_ ?_))
              · exact bc_ 1 r_ (bc_ 0 r_ (bc_ 0 r_ (bc_ 0 r_ (bc_ 0 r_ (bc_ 0 r_ (bc_ 0 r_ (bc_ 0 r_ (bc_ 0 r_ (bc_ 0 r_ (bc_ 0 r_ sub_end))))))))))
              · (repeat (first | exact True.intro | refine ⟨rfl, ?_⟩))
            · skip
              refine jq_freezeBi 1 0 0 rfl rfl rfl (by rw [hc]; simp [hb, fstO]) (jq_row 1 [.list (xb.ops.map Opx.row), .val (.int .i64 xb.cond), .list (xb.next.map Irow)] rfl (fun _ _ _ h => rdRow_unk h) (jq_cutS b20 trivial ?_ ?_))
              · exact bc_ 1 r_ (bc_ 0 r_ (bc_ 0 r_ (bc_ 0 r_ (bc_ 0 r_ (bc_ 0 r_ (bc_ 0 r_ (bc_ 0 r_ (bc_ 0 r_ (bc_ 0 r_ (bc_ 0 r_ sub_end))))))))))
              · (repeat (first | exact True.intro | refine ⟨rfl, ?_⟩))
          intro b20 _
          refine jc_ownNil 3 1 g_ (am_ (R_ (E_ r_ (T_ (au_ ?_)))))
          refine jc_loopS (ι := Nat × Value) [] (fun i => i.1 ≤ (xb.next).length) (fun i => (21, In .i64 (i.1 : Int)) :: [(18, In .i64 (k : Int)), (19, Ptr b19), (20, Ptr b20), (17, Ptr bo), (14, .cell (.val vT)), (12, In .i64 ((g.blocks.map Bk.row).length : Int)), (11, .cell (.list (nd.map Irow))), (1, In .i64 h), (2, Ptr bg), (4, Ptr br)]) (fun i => [.own i.2 3 1 (((xb.next.take i.1).map (npF g.blocks.length nd h)).map irow), .fam (famI 3 ns (nxK g.blocks nd h k b xb.next i.1)), .own vB 35 3 (bkVs (unQ g.blocks nd h k) ns), .own vT 3 1 ((To).map irow), .blk b20 35 [.list (xb.ops.map Opx.row), .val (.int .i64 xb.cond), .val i.2], .blk b19 35 xb.row, .own vP 33 1 (ps0.map vrow), .fam (famI 3 ps0 g.points), .own vH 42 2 (g.heads.map HdRow), .blk bo 28 (GhV g vB vP vH), .blk bg 28 g.row, .blk br 28 GhZ]) (fun i => (xb.next).length - i.1) (0, .slice none 0 0) (Nat.zero_le _) ?_ ?_ ?_
          · dsimp only
            rw [hnx0]
            exact bc_ 0 r_ (bc_ 3 r_ (bc_ 2 r_ (bc_ 2 r_ (bc_ 0 r_ (bc_ 0 r_ (bc_ 0 r_ (bc_ 0 r_ (bc_ 0 r_ (bc_ 0 r_ (bc_ 0 r_ (bc_ 0 r_ sub_end)))))))))))
          · (repeat (first | exact True.intro | refine ⟨rfl, ?_⟩))
          rintro ⟨q, v⟩ hz
          dsimp only at hz ⊢
          obtain hq := hz
          have eLq : ((xb.next).map Irow).length = (xb.next).length := List.length_map _
          by_cases hltq : q < (xb.next).length
          · have hltq2 : (q : Int) < (((xb.next).map Irow).length : Int) := by omega
            have hyr : (xb.next.map Irow)[q]? = some (Irow xb.next[q]) := by rw [List.getElem?_map, List.getElem?_eq_getElem hltq]; rfl
            have hgL := nxK_get (B := g.blocks) (nd := nd) (h := h) hk hbn xb.next q
            have hkl := nxK_len (B := g.blocks) (nd := nd) (h := h) (b := b) hk xb.next q
            have hml := mapP_len (rpF g.blocks.length nd h) xb.next q
            have htk : (xb.next.take (q + 1)).map (npF g.blocks.length nd h) = (xb.next.take q).map (npF g.blocks.length nd h) ++ [(npF g.blocks.length nd h) xb.next[q]] := by rw [List.take_succ_eq_append_getElem hltq, List.map_append]; rfl
            have hyb := hbnd _ (List.getElem_mem hltq)
            by_cases hyh : xb.next[q] = h
            · have hhT := hTi h hh0 hh1 hhn
              have hse : mapP (rpF g.blocks.length nd h) xb.next (q + 1) = (mapP (rpF g.blocks.length nd h) xb.next q).set (q : Int).toNat (To.getD h.toNat 0) := by
                have := mapP_set (f := rpF g.blocks.length nd h) hltq
                rw [rpF, if_pos hyh, hyh, ← hhT.1] at this
                exact this.symm
              have hnp : (npF g.blocks.length nd h) xb.next[q] = xb.next[q] := if_pos hyh
              rw [hnp] at htk
              refine am_ (R_ (M_ r_ (F_ r_ (L_ 5 r_ (o_ r_ (br_ r_ (fun hlen => o_ r_ (bw_ r_ r_ (T_ (aq_ r_ u_ (as_ (al_ (B_ (R_ (F_ r_ (L_ 5 r_ (M_ r_ ?_)))))))))))))))))
              refine o_ r_ (ow_indexAddrN q r_ r_ r_ hyr r_ b_ (o_ r_ (cb_ r_ r_ (E_ r_ (T_ (am_ (R_ (M_ r_ (M_ r_ (o_ r_ (bn_ r_ r_ (T_ (aq_ r_ u_ (jc_regroup _ (famI_outE (j := 1) b hv0 hgL rfl) (jc_anyB 15 none rfl k_ k_ (yF_ r_ (yL_ 10 r_ (yM_ r_ ?_))))))))))))))))))
              refine yM_ r_ (aa_ (fun c => ow_indexAddrN k r_ r_ r_ hkr r_ b_ p_) (aa_ (fun c => cb_ r_ r_ p_) (aa_ (fun c => ow_indexOwnE 3 b r_ r_ r_ g_ g_ r_ p_) (aa_ (fun c => ow_fieldAddrInn r_ r_ r_ b_ p_) (aa_ (fun c => ow_loadInn 3 b 2 r_ r_ r_ r_ hrw r_ p_) (yM_ r_ (yM_ r_ (yM_ r_ (aa_ (fun c => ow_indexI 4 r_ r_ r_ g_ r_ p_) (aa_ (fun c => ow_loadI 4 r_ r_ r_ g_ p_) (aa_ (fun c => ow_indexI 0 r_ r_ r_ g_ r_ p_) ?_)))))))))))
              refine ae_ (afin_none (ag_ (ow_storeI 0 r_ r_ r_ g_ r_ (T_ (an_ (F_ r_ (L_ 5 r_ (M_ r_ (o_ r_ (bq_ r_ r_ b_ r_ r_ b_ ?_))))))))))
              refine o_ r_ (ow_append1 2 (xb.next[q]) rfl rfl rfl rfl rfl rfl rfl (fun _ => rfl) (by simp only [List.length_map, List.length_take, List.length_append, List.length_cons, List.length_nil] ; show (_ + 1) * 8 ≤ _ ; omega) (by simp only [List.length_map, List.length_take, List.length_append, List.length_cons, List.length_nil] ; omega) (fun v1 hv1 => F_ r_ (W_ 5 r_ (ak_ (ay_ (al_ (an_ (M_ r_ (o_ r_ (bj_ r_ r_ g_ ?_))))))))))
              refine E_ r_ (ak_ (jq_regroup _ (famI_inV (j := 2) (j2 := 2) (vs' := ns) (Ls' := nxK g.blocks nd h k b xb.next (q + 1)) b g_ g_ rfl (set_sameC hv0).symm (nxK_set _ hse.symm)) (jq_againS (i := (q, v)) (q + 1, v1) hltq (by dsimp only; omega) ?_ ?_)))
              · dsimp only
                rw [htk]
                exact bc_ 2 r_ (bc_ 0 r_ (bc_ 1 r_ (bc_ 1 r_ (bc_ 0 r_ (bc_ 0 r_ (bc_ 0 r_ (bc_ 0 r_ (bc_ 0 r_ (bc_ 0 r_ (bc_ 0 r_ (bc_ 0 r_ sub_end)))))))))))
              · (repeat (first | exact True.intro | refine ⟨rfl, ?_⟩))
            · have hnp : (npF g.blocks.length nd h) xb.next[q] = copN g.blocks.length nd xb.next[q] := if_neg hyh
              rw [hnp] at htk
              have hsm := nxK_same (B := g.blocks) (nd := nd) (h := h) (i := k) (b := b) hltq hyh
              by_cases hm : xb.next[q] ∈ nd
              · have hyT := hTi _ (by omega) (by omega) hm
                rw [← hyT.1] at htk
                refine am_ (R_ (M_ r_ (F_ r_ (L_ 5 r_ (o_ r_ (br_ r_ (fun hlen => o_ r_ (bw_ r_ r_ (T_ (aq_ r_ u_ (as_ (al_ (B_ (R_ (F_ r_ (L_ 5 r_ (M_ r_ ?_)))))))))))))))))
                refine o_ r_ (ow_indexAddrN q r_ r_ r_ hyr r_ b_ (o_ r_ (cb_ r_ r_ (E_ r_ (T_ (am_ (R_ (M_ r_ (M_ r_ (o_ r_ (bn_ r_ r_ (T_ (ap_ r_ w_ (R_ (M_ r_ (M_ r_ (o_ r_ (ow_indexI 3 r_ r_ r_ g_ r_ (o_ r_ (ow_loadI 3 r_ r_ r_ g_ ?_))))))))))))))))))))
                refine o_ r_ (cn_ r_ r_ (T_ (aq_ r_ t_ (an_ (M_ r_ (M_ r_ (o_ r_ (ow_indexI 3 r_ r_ r_ g_ r_ (o_ r_ (ow_loadI 3 r_ r_ r_ g_ (E_ r_ (T_ (an_ (F_ r_ (L_ 4 r_ (M_ r_ (o_ r_ (bq_ r_ r_ b_ r_ r_ b_ ?_))))))))))))))))))
                refine o_ r_ (ow_append1 0 (To.getD (xb.next[q]).toNat 0) rfl rfl rfl rfl rfl rfl rfl (fun _ => rfl) (by simp only [List.length_map, List.length_take, List.length_append, List.length_cons, List.length_nil] ; show (_ + 1) * 8 ≤ _ ; omega) (by simp only [List.length_map, List.length_take, List.length_append, List.length_cons, List.length_nil] ; omega) (fun v1 hv1 => F_ r_ (W_ 4 r_ (ak_ (ay_ (al_ (an_ (M_ r_ ?_))))))))
                refine o_ r_ (bj_ r_ r_ g_ (E_ r_ (ak_ (jq_againS (i := (q, v)) (q + 1, v1) hltq (by dsimp only; omega) ?_ ?_))))
                · dsimp only
                  rw [htk, hsm]
                  exact bc_ 1 r_ (bc_ 1 r_ (bc_ 1 r_ (bc_ 1 r_ (bc_ 0 r_ (bc_ 0 r_ (bc_ 0 r_ (bc_ 0 r_ (bc_ 0 r_ (bc_ 0 r_ (bc_ 0 r_ (bc_ 0 r_ sub_end)))))))))))
                · (repeat (first | exact True.intro | refine ⟨rfl, ?_⟩))
              · have hyT := hTn _ (by omega) (by omega) hm
                rw [cop_out hm] at htk
                refine am_ (R_ (M_ r_ (F_ r_ (L_ 5 r_ (o_ r_ (br_ r_ (fun hlen => o_ r_ (bw_ r_ r_ (T_ (aq_ r_ u_ (as_ (al_ (B_ (R_ (F_ r_ (L_ 5 r_ (M_ r_ ?_)))))))))))))))))
                refine o_ r_ (ow_indexAddrN q r_ r_ r_ hyr r_ b_ (o_ r_ (cb_ r_ r_ (E_ r_ (T_ (am_ (R_ (M_ r_ (M_ r_ (o_ r_ (bn_ r_ r_ (T_ (ap_ r_ w_ (R_ (M_ r_ (M_ r_ (o_ r_ (ow_indexI 3 r_ r_ r_ g_ r_ (o_ r_ (ow_loadI 3 r_ r_ r_ g_ ?_))))))))))))))))))))
                refine o_ r_ (cn_ r_ r_ (T_ (ap_ r_ v_ (as_ (al_ (an_ (F_ r_ (L_ 4 r_ (M_ r_ (o_ r_ (bq_ r_ r_ b_ r_ r_ b_ ?_)))))))))))
                refine o_ r_ (ow_append1 0 (xb.next[q]) rfl rfl rfl rfl rfl rfl rfl (fun _ => rfl) (by simp only [List.length_map, List.length_take, List.length_append, List.length_cons, List.length_nil] ; show (_ + 1) * 8 ≤ _ ; omega) (by simp only [List.length_map, List.length_take, List.length_append, List.length_cons, List.length_nil] ; omega) (fun v1 hv1 => F_ r_ (W_ 4 r_ (ak_ (ay_ (al_ (an_ (M_ r_ (o_ r_ (bj_ r_ r_ g_ ?_))))))))))
                refine E_ r_ (ak_ (jq_againS (i := (q, v)) (q + 1, v1) hltq (by dsimp only; omega) ?_ ?_))
                · dsimp only
                  rw [htk, hsm]
                  exact bc_ 1 r_ (bc_ 1 r_ (bc_ 1 r_ (bc_ 1 r_ (bc_ 0 r_ (bc_ 0 r_ (bc_ 0 r_ (bc_ 0 r_ (bc_ 0 r_ (bc_ 0 r_ (bc_ 0 r_ (bc_ 0 r_ sub_end)))))))))))
                · (repeat (first | exact True.intro | refine ⟨rfl, ?_⟩))
          · have hltq2 : ¬ (q : Int) < (((xb.next).map Irow).length : Int) := by omega
            have eqn : q = xb.next.length := by omega
            have htk : xb.next.take q = xb.next := List.take_of_length_le (by omega)
            have hkl := nxK_len (B := g.blocks) (nd := nd) (h := h) (b := b) hk xb.next q
            rw [htk]
            rw [← eqn] at hqe hqn
            have hpu : bkVs (unQ g.blocks nd h k) ns ++ [[.list (xb.ops.map Opx.row), .val (.int .i64 xb.cond), .val v]] = bkVs (unQ g.blocks nd h (k + 1)) (ns ++ [v]) := by
              rw [hqn, ← bkVs_push (by rw [List.length_set]; omega), bkVs_next _ _ _ xb _ huq]
              rfl
            refine am_ (R_ (M_ r_ (F_ r_ (L_ 5 r_ (o_ r_ (br_ r_ (fun hlen => o_ r_ (bw_ r_ r_ (T_ (ap_ r_ w_ (av_ (ax_ (ax_ (ba_ (al_ (an_ (F_ r_ ?_)))))))))))))))))
            refine L_ 9 r_ (A_ 4 r_ (o_ r_ (bq_ r_ r_ b_ r_ r_ b_ (o_ r_ (ow_append 2 rfl rfl rfl rfl rfl rfl rfl (rows1 rfl) (by rw [hbv] ; show (_ + 1) * 56 ≤ _ ; omega) (by rw [hbv] ; show _ + 1 ≤ _ ; omega) (fun vB1 hvB1 => F_ r_ (W_ 9 r_ (ak_ (ay_ (al_ (an_ (M_ r_ (o_ r_ (bj_ r_ r_ g_ (E_ r_ (ak_ ?_))))))))))))))))
            refine jq_regroup _ (famI_more (j := 2) (j2 := 2) (v := v) (L := xb.next.map (npF g.blocks.length nd h)) (vs := ns) (Ls := nxK g.blocks nd h k b xb.next q) g_ rfl hqe.symm) (jq_againS (i := (k, vB, ns)) (k + 1, vB1, ns ++ [v]) ⟨hltk, by dsimp only; rw [List.length_append, List.length_singleton]; omega⟩ (by dsimp only; omega) ?_ ?_)
            · dsimp only
              rw [← hpu]
              exact bc_ 2 r_ (bc_ 0 r_ (bc_ 1 r_ (bc_ 3 r_ (bc_ 3 r_ (bc_ 3 r_ (bc_ 0 r_ (bc_ 2 r_ (bc_ 2 r_ sub_end))))))))
            · (repeat (first | exact True.intro | refine ⟨rfl, ?_⟩))
        · have hltk2 : ¬ (k : Int) < (((nd).map Irow).length : Int) := by omega
          have ekn2 : k = nd.length := by omega
          subst ekn2
          rw [unQ_end]
          have hub : (unBs g.blocks nd h).length = g.blocks.length + nd.length := by rw [← unQ_end]; exact unQ_len g.blocks nd h (Nat.le_refl _)
          have hszP : szP g.points ≤ 1500 := by have := hw.size; unfold szG at this; omega
          refine am_ (R_ (M_ r_ (M_ r_ (o_ r_ (br_ r_ (fun hlen => o_ r_ (bw_ r_ r_ (T_ (ap_ r_ w_ (av_ (ax_ (ax_ (ba_ (al_ (am_ (R_ (E_ r_ ?_)))))))))))))))))
          refine T_ (au_ ?_)
          refine jc_loopS (ι := Nat × List Value) [] (fun i => i.1 ≤ (g.points).length ∧ i.2.length = g.points.length) (fun i => (23, In .i64 (i.1 : Int)) :: [(17, Ptr bo), (14, .cell (.val vT)), (12, In .i64 ((g.blocks.map Bk.row).length : Int)), (11, .cell (.list (nd.map Irow))), (1, In .i64 h), (2, Ptr bg), (4, Ptr br)]) (fun i => [.own vT 3 1 ((To).map irow), .own vP 33 1 (i.2.map vrow), .fam (famI 3 i.2 (mapP (ptF g.blocks.length nd) g.points i.1)), .own vB 35 3 (bkVs (unBs g.blocks nd h) ns), .fam (famI 3 ns (nxs (unBs g.blocks nd h))), .own vH 42 2 (g.heads.map HdRow), .blk bo 28 (GhV g vB vP vH), .blk bg 28 g.row, .blk br 28 GhZ]) (fun i => (g.points).length - i.1) (0, ps0) ⟨Nat.zero_le _, hi0.2⟩ ?_ ?_ ?_
          · dsimp only
            rw [mapP_zero]
            exact bc_ 2 r_ (bc_ 2 r_ (bc_ 2 r_ (bc_ 0 r_ (bc_ 0 r_ (bc_ 0 r_ (bc_ 0 r_ (bc_ 0 r_ (bc_ 0 r_ sub_end))))))))
          · (repeat (first | exact True.intro | refine ⟨rfl, ?_⟩))
          rintro ⟨p, ps⟩ hz
          dsimp only at hz ⊢
          obtain ⟨hp, hps⟩ := hz
          have eLp : ((g.points).map NRow).length = (g.points).length := List.length_map _
          by_cases hltp : p < (g.points).length
          · have hltp2 : (p : Int) < (((g.points).map NRow).length : Int) := by omega
            have hir : (g.points.map NRow)[p]? = some (NRow g.points[p]) := by rw [List.getElem?_map, List.getElem?_eq_getElem hltp]; rfl
            have hp0 : (mapP (ptF g.blocks.length nd) g.points p).set p (ptK g.blocks.length nd g.points[p] 0) = mapP (ptF g.blocks.length nd) g.points p := by rw [ptK_zero]; exact set_same (mapP_get hltp)
            refine am_ (R_ (M_ r_ (F_ r_ (L_ 7 r_ (o_ r_ (br_ r_ (fun hlen => o_ r_ (bw_ r_ r_ (T_ (aq_ r_ u_ (as_ (al_ (B_ (R_ (E_ r_ (T_ (au_ ?_)))))))))))))))))
            refine jc_loopS (ι := Nat × List Value) [] (fun i => i.1 ≤ (g.points[p]).length ∧ i.2.length = g.points.length) (fun i => (24, In .i64 (i.1 : Int)) :: [(23, In .i64 (p : Int)), (17, Ptr bo), (14, .cell (.val vT)), (12, In .i64 ((g.blocks.map Bk.row).length : Int)), (11, .cell (.list (nd.map Irow))), (1, In .i64 h), (2, Ptr bg), (4, Ptr br)]) (fun i => [.own vT 3 1 ((To).map irow), .own vP 33 1 (i.2.map vrow), .fam (famI 3 i.2 ((mapP (ptF g.blocks.length nd) g.points p).set p (ptK g.blocks.length nd g.points[p] i.1))), .own vB 35 3 (bkVs (unBs g.blocks nd h) ns), .fam (famI 3 ns (nxs (unBs g.blocks nd h))), .own vH 42 2 (g.heads.map HdRow), .blk bo 28 (GhV g vB vP vH), .blk bg 28 g.row, .blk br 28 GhZ]) (fun i => (g.points[p]).length - i.1) (0, ps) ⟨Nat.zero_le _, hps⟩ ?_ ?_ ?_
            · dsimp only
              rw [hp0]
              exact bc_ 0 r_ (bc_ 0 r_ (bc_ 0 r_ (bc_ 0 r_ (bc_ 0 r_ (bc_ 0 r_ (bc_ 0 r_ (bc_ 0 r_ (bc_ 0 r_ sub_end))))))))
            · (repeat (first | exact True.intro | refine ⟨rfl, ?_⟩))
            rintro ⟨q, qs⟩ hz
            dsimp only at hz ⊢
            obtain ⟨hq, hqs⟩ := hz
            have eLq : ((g.points[p]).map Irow).length = (g.points[p]).length := List.length_map _
            by_cases hltq : q < (g.points[p]).length
            · have hltq2 : (q : Int) < (((g.points[p]).map Irow).length : Int) := by omega
              have hpl := szP_mem (List.getElem_mem hltp)
              have hst := ptK_step g.blocks.length nd hltq
              have hyb := ch_points hck _ (List.getElem_mem hltp) _ (List.getElem_mem hltq)
              have hlt0 := ptK_len g.blocks.length nd g.points[p] q
              have hgi : ((mapP (ptF g.blocks.length nd) g.points p).set p (ptK g.blocks.length nd g.points[p] q))[p]? = some (ptK g.blocks.length nd g.points[p] q) := List.getElem?_set_self (by rw [mapP_len]; exact hltp)
              have hgl : ((mapP (ptF g.blocks.length nd) g.points p).set p (ptK g.blocks.length nd g.points[p] q)).length = g.points.length := by rw [List.length_set, mapP_len]
              obtain ⟨pv, hpv⟩ : ∃ pv, qs[p]? = some pv := ⟨qs[p], List.getElem?_eq_getElem (by omega)⟩
              have hpv2 : qs[(p : Int).toNat * 1]? = some pv := by rw [Int.toNat_natCast, Nat.mul_one]; exact hpv
              have hyr : ((g.points[p]).map Irow)[q]? = some (Irow (g.points[p])[q]) := by rw [List.getElem?_map, List.getElem?_eq_getElem hltq]; rfl
              generalize hye : (g.points[p])[q] = y at *
              by_cases hm : y ∈ nd
              · have hyT := hTi y hyb.1 hyb.2 hm
                rw [if_pos hm, ← hyT.1] at hst
                refine am_ (R_ (M_ r_ (F_ r_ (L_ 7 r_ (M_ r_ (o_ r_ (ow_indexAddrN p r_ r_ r_ hir r_ b_ (o_ r_ (cb_ r_ r_ (o_ r_ (br_ r_ (fun hlen => o_ r_ (bw_ r_ r_ (T_ (aq_ r_ u_ (as_ (al_ (B_ (R_ ?_)))))))))))))))))))
                refine M_ r_ (F_ r_ (L_ 7 r_ (M_ r_ (o_ r_ (ow_indexAddrN p r_ r_ r_ hir r_ b_ (o_ r_ (cb_ r_ r_ (M_ r_ (o_ r_ (ow_indexAddrN q r_ r_ r_ hyr r_ b_ (o_ r_ (cb_ r_ r_ (o_ r_ (ow_indexI 0 r_ r_ r_ g_ r_ (o_ r_ (ow_loadI 0 r_ r_ r_ g_ (E_ r_ (T_ (R_ (M_ r_ (o_ r_ (cn_ r_ r_ ?_))))))))))))))))))))))
                refine T_ (aq_ r_ t_ (jc_regroup _ (famI_outE (j := 2) p hpv hgi rfl) (jc_hpM 11 (n := 13) rfl 7 k_ rfl (fun cs1 hcs1 hv1 => ?_))))
                obtain ⟨u10, u11, u12, u13, u14, u15, u16, u17, rfl⟩ := len8 hcs1
                obtain rfl := Option.some.inj (hv1 1 _ rfl)
                obtain rfl := Option.some.inj (hv1 2 _ rfl)
                obtain rfl := Option.some.inj (hv1 4 _ rfl)
                obtain rfl := Option.some.inj (hv1 5 _ rfl)
                obtain rfl := Option.some.inj (hv1 6 _ rfl)
                obtain rfl := Option.some.inj (hv1 7 _ rfl)
                refine hp_know 7 rfl mem0 ?_
                dsimp only [List.zipWith, know]
                refine hp_pani (by (repeat (first | refine pani_then ?_ | refine pani_block ?_)); exact pani_body) (fun hPan => ?_)
                refine df_ (i := 0) r_ k_ k_ k_ b_ hPan (dl_ r_ r_ r_ b_) (df_ (i := 1) r_ k_ k_ k_ b_ hPan (dm_ 0 r_ r_ r_ mem0 r_) (df_ (i := 2) r_ k_ k_ k_ b_ hPan (dk_ r_) (df_ (i := 3) r_ k_ k_ k_ b_ hPan (dl_ r_ r_ r_ b_) (df_ (i := 4) r_ k_ k_ k_ b_ hPan (dm_ 0 r_ r_ r_ mem0 r_) (df_ (i := 5) r_ k_ k_ k_ b_ hPan (dk_ r_) (df_ (i := 6) rfl k_ k_ k_ b_ hPan (hok_indexOwn 4 rfl rfl rfl g_ (by rw [List.length_map] ; omega) rfl) ?_))))))
                refine df_ (i := 8) r_ k_ k_ k_ b_ hPan (dk_ r_) (hp_br2 (i := 7) (j := 9) rfl rfl k_ rfl ?_ ?_)
                refine hs_v (ow_loadVs 4 rfl rfl rfl hpv2 ⟨?_, ?_⟩)
                exact keepK 0 rfl rfl
                refine dg_ (i := 9) r_ k_ b_ (bq_ r_ r_ b_ r_ r_ b_ ⟨?_, ?_⟩)
                exact keepK 0 rfl rfl
                refine dg_ (i := 10) rfl k_ b_ (ow_append1 1 (To.getD y.toNat 0) rfl rfl rfl rfl rfl rfl rfl (fun _ => rfl) (by show (_ + 1) * 8 ≤ _ ; omega) g_ (fun pv1 hpv1 => ⟨?_, ?_⟩))
                exact keepK 1 rfl rfl
                refine df_ (i := 11) rfl k_ k_ k_ b_ hPan (hok_indexOwn 4 rfl rfl rfl g_ (by rw [List.length_map] ; omega) rfl) (hp_tail (dj_ (i := 12) rfl k_ (by decide) (ow_storeVs 4 rfl rfl rfl (by rw [Int.toNat_natCast] ; omega) rfl (ht_done k_ ?_))))
                clear hPan
                refine jq_unk _ 2 rfl rfl ?_
                dsimp only [List.map, unk]
                rotate_left
                refine hs_v (bq_ rfl rfl (nb rfl) rfl rfl (nb rfl) ⟨?_, ?_⟩)
                exact keepK 0 rfl rfl
                refine dg_ (i := 7) r_ k_ b_ (ow_loadVs 4 r_ r_ r_ hpv2 ⟨?_, ?_⟩)
                exact keepK 0 rfl rfl
                refine dg_ (i := 10) rfl k_ b_ (ow_append1 1 (To.getD y.toNat 0) rfl rfl rfl rfl rfl rfl rfl (fun _ => rfl) (by show (_ + 1) * 8 ≤ _ ; omega) g_ (fun pv1 hpv1 => ⟨?_, ?_⟩))
                exact keepK 1 rfl rfl
                refine df_ (i := 11) rfl k_ k_ k_ b_ hPan (hok_indexOwn 4 rfl rfl rfl g_ (by rw [List.length_map] ; omega) rfl) (hp_tail (dj_ (i := 12) rfl k_ (by decide) (ow_storeVs 4 rfl rfl rfl (by rw [Int.toNat_natCast] ; omega) rfl (ht_done k_ ?_))))
                clear hPan
                refine jq_unk _ 2 rfl rfl ?_
                dsimp only [List.map, unk]
                rotate_left
                · rw [show (p : Int).toNat * 1 = p by omega]
                  refine ay_ (al_ (an_ (M_ r_ (o_ r_ (bj_ r_ r_ g_ (E_ r_ (ak_ (jq_regroup _ (famI_inV (j := 2) (j2 := 2) (vs' := qs.set p pv1) (Ls' := (mapP (ptF g.blocks.length nd) g.points p).set p (ptK g.blocks.length nd g.points[p] (q + 1))) p g_ g_ rfl rfl (by rw [hst, List.set_set])) (jq_againS (i := (q, qs)) (q + 1, qs.set p pv1) ⟨hltq, by dsimp only; rw [List.length_set]; exact hqs⟩ (by dsimp only; omega) ?_ ?_)))))))))
                  · exact bc_ 3 r_ (bc_ 2 r_ (bc_ 0 r_ (bc_ 1 r_ (bc_ 1 r_ (bc_ 1 r_ (bc_ 0 r_ (bc_ 0 r_ (bc_ 0 r_ sub_end))))))))
                  · (repeat (first | exact True.intro | refine ⟨rfl, ?_⟩))
                · rw [show (p : Int).toNat * 1 = p by omega]
                  refine ay_ (al_ (an_ (M_ r_ (o_ r_ (bj_ r_ r_ g_ (E_ r_ (ak_ (jq_regroup _ (famI_inV (j := 2) (j2 := 2) (vs' := qs.set p pv1) (Ls' := (mapP (ptF g.blocks.length nd) g.points p).set p (ptK g.blocks.length nd g.points[p] (q + 1))) p g_ g_ rfl rfl (by rw [hst, List.set_set])) (jq_againS (i := (q, qs)) (q + 1, qs.set p pv1) ⟨hltq, by dsimp only; rw [List.length_set]; exact hqs⟩ (by dsimp only; omega) ?_ ?_)))))))))
                  · exact bc_ 3 r_ (bc_ 2 r_ (bc_ 0 r_ (bc_ 1 r_ (bc_ 1 r_ (bc_ 1 r_ (bc_ 0 r_ (bc_ 0 r_ (bc_ 0 r_ sub_end))))))))
                  · (repeat (first | exact True.intro | refine ⟨rfl, ?_⟩))
              · have hyT := hTn y hyb.1 hyb.2 hm
                rw [if_neg hm] at hst
                refine am_ (R_ (M_ r_ (F_ r_ (L_ 7 r_ (M_ r_ (o_ r_ (ow_indexAddrN p r_ r_ r_ hir r_ b_ (o_ r_ (cb_ r_ r_ (o_ r_ (br_ r_ (fun hlen => o_ r_ (bw_ r_ r_ (T_ (aq_ r_ u_ (as_ (al_ (B_ (R_ ?_)))))))))))))))))))
                refine M_ r_ (F_ r_ (L_ 7 r_ (M_ r_ (o_ r_ (ow_indexAddrN p r_ r_ r_ hir r_ b_ (o_ r_ (cb_ r_ r_ (M_ r_ (o_ r_ (ow_indexAddrN q r_ r_ r_ hyr r_ b_ (o_ r_ (cb_ r_ r_ (o_ r_ (ow_indexI 0 r_ r_ r_ g_ r_ (o_ r_ (ow_loadI 0 r_ r_ r_ g_ (E_ r_ (T_ (R_ (M_ r_ (o_ r_ (cn_ r_ r_ ?_))))))))))))))))))))))
                refine T_ (ap_ r_ v_ (as_ (ay_ (al_ (an_ (M_ r_ (o_ r_ (bj_ r_ r_ g_ (E_ r_ (ak_ (jq_againS (i := (q, qs)) (q + 1, qs) ⟨hltq, hqs⟩ (by dsimp only; omega) ?_ ?_)))))))))))
                · dsimp only
                  rw [hst]
                  exact bc_ 0 r_ (bc_ 0 r_ (bc_ 0 r_ (bc_ 0 r_ (bc_ 0 r_ (bc_ 0 r_ (bc_ 0 r_ (bc_ 0 r_ (bc_ 0 r_ sub_end))))))))
                · (repeat (first | exact True.intro | refine ⟨rfl, ?_⟩))
            · have hltq2 : ¬ (q : Int) < (((g.points[p]).map Irow).length : Int) := by omega
              have hse : (mapP (ptF g.blocks.length nd) g.points p).set p (ptK g.blocks.length nd g.points[p] q) = mapP (ptF g.blocks.length nd) g.points (p + 1) := by rw [ptK_end _ _ (by omega)]; exact mapP_set hltp
              rw [hse]
              refine am_ (R_ (M_ r_ (F_ r_ (L_ 7 r_ (M_ r_ (o_ r_ (ow_indexAddrN p r_ r_ r_ hir r_ b_ (o_ r_ (cb_ r_ r_ (o_ r_ (br_ r_ (fun hlen => o_ r_ (bw_ r_ r_ (T_ (ap_ r_ w_ (av_ (ax_ (ax_ (ba_ ?_)))))))))))))))))))
              refine ay_ (al_ (an_ (M_ r_ (o_ r_ (bj_ r_ r_ g_ (E_ r_ (ak_ (jq_againS (i := (p, ps)) (p + 1, qs) ⟨hltp, hqs⟩ (by dsimp only; omega) ?_ ?_))))))))
              · exact bc_ 0 r_ (bc_ 0 r_ (bc_ 0 r_ (bc_ 0 r_ (bc_ 0 r_ (bc_ 0 r_ (bc_ 0 r_ (bc_ 0 r_ (bc_ 0 r_ sub_end))))))))
              · (repeat (first | exact True.intro | refine ⟨rfl, ?_⟩))
          · have hltp2 : ¬ (p : Int) < (((g.points).map NRow).length : Int) := by omega
            have hpe : mapP (ptF g.blocks.length nd) g.points p = unPs g.blocks.length nd g.points := by rw [mapP_end _ _ (by omega)]; rfl
            rw [hpe]
            have hh64 := heads_few hck
            obtain ⟨hhp, hhb⟩ := ch_heads hck
            refine jc_ownNil 42 2 g_ (am_ (R_ (M_ r_ (F_ r_ (L_ 8 r_ (o_ r_ (br_ r_ (fun hlen => o_ r_ (bw_ r_ r_ (T_ (ap_ r_ w_ (av_ (ax_ (ax_ (ba_ (al_ (R_ ?_)))))))))))))))))
            refine E_ r_ (T_ (am_ (R_ (E_ r_ (T_ (au_ ?_))))))
            refine jc_loopS (ι := Nat × Value) [] (fun i => i.1 ≤ (g.heads).length) (fun i => (27, In .i64 (i.1 : Int)) :: [(26, .cell (.val i.2)), (17, Ptr bo), (14, .cell (.val vT)), (12, In .i64 ((g.blocks.map Bk.row).length : Int)), (11, .cell (.list (nd.map Irow))), (1, In .i64 h), (2, Ptr bg), (4, Ptr br)]) (fun i => [.own vH 42 2 ((mapP (hdF h) g.heads i.1).map HdRow), .own i.2 42 2 ((hdM g.blocks.length nd h (g.heads.take i.1)).map HdRow), .own vT 3 1 ((To).map irow), .blk bo 28 (GhV g vB vP vH), .own vP 33 1 (ps.map vrow), .fam (famI 3 ps (unPs g.blocks.length nd g.points)), .own vB 35 3 (bkVs (unBs g.blocks nd h) ns), .fam (famI 3 ns (nxs (unBs g.blocks nd h))), .blk bg 28 g.row, .blk br 28 GhZ]) (fun i => (g.heads).length - i.1) (0, .slice none 0 0) (Nat.zero_le _) ?_ ?_ ?_
            · dsimp only
              rw [mapP_zero]
              exact bc_ 6 r_ (bc_ 0 r_ (bc_ 0 r_ (bc_ 4 r_ (bc_ 0 r_ (bc_ 0 r_ (bc_ 0 r_ (bc_ 0 r_ (bc_ 0 r_ (bc_ 0 r_ sub_end)))))))))
            · (repeat (first | exact True.intro | refine ⟨rfl, ?_⟩))
            rintro ⟨j, w⟩ hz
            dsimp only at hz ⊢
            obtain hj := hz
            have eLj : ((g.heads).map HdRow).length = (g.heads).length := List.length_map _
            by_cases hltj : j < (g.heads).length
            · have hltj2 : (j : Int) < (((g.heads).map HdRow).length : Int) := by omega
              have hst := hdM_step g.blocks.length nd h hltj
              have hmg := mapP_get (f := hdF h) hltj
              have hml := mapP_len (hdF h) g.heads j
              have eML : ((mapP (hdF h) g.heads j).map HdRow).length = g.heads.length := by rw [List.length_map]; exact hml
              have hms := mapP_set (f := hdF h) hltj
              have hmx := fun q => mapP_same (f := hdF h) hltj q
              have hbj := hhb _ (List.getElem_mem hltj)
              have hdl : (hdM g.blocks.length nd h (g.heads.take j)).length ≤ g.heads.length := by
                have h1 := List.length_filter_le (fun x : Hd => !decide (x.1 = h) && decide (x.1 ∈ nd)) (g.heads.take j)
                unfold hdM
                rw [List.length_map]
                rw [List.length_take] at h1
                omega
              obtain ⟨y, hy⟩ : ∃ y, y = g.heads[j] := ⟨_, rfl⟩
              rw [← hy] at hst hmg hms hmx hbj
              have hrw : ((mapP (hdF h) g.heads j).map HdRow)[j]? = some (HdRow y) := by rw [List.getElem?_map, hmg]; rfl
              by_cases hyh : y.1 = h
              · rw [if_neg (fun q => q.1 hyh), List.append_nil] at hst
                have hdf : hdF h y = (y.1, y.2 / 2) := if_pos hyh
                rw [hdf] at hms
                have hre : ((mapP (hdF h) g.heads j).map HdRow).set j (HdRow (y.1, y.2 / 2)) = (mapP (hdF h) g.heads (j + 1)).map HdRow := by rw [← hms, List.map_set]
                refine am_ (R_ (M_ r_ (F_ r_ (L_ 3 r_ (o_ r_ (cw_ 0 r_ r_ (fun hlen => o_ r_ (bw_ r_ r_ (T_ (aq_ r_ t_ (as_ (al_ (B_ (R_ (F_ r_ (L_ 3 r_ (M_ r_ ?_)))))))))))))))))
                refine o_ r_ (ow_indexOwnE 0 j rfl rfl rfl rfl (by rw [List.length_map] ; omega) rfl (o_ r_ (ow_loadInnN 0 j r_ r_ r_ r_ hrw r_ (o_ r_ (bl_ rfl rfl (fun b28 => S_ 0 r_ (T_ (au_ (R_ (F_ r_ (L_ 0 r_ (M_ r_ (o_ r_ (bn_ r_ r_ (E_ r_ (T_ (aq_ r_ u_ (an_ (F_ r_ ?_)))))))))))))))))))
                refine L_ 4 r_ (M_ r_ (F_ r_ (L_ 0 r_ (o_ r_ (ow_quo64 r_ r_ g_ g_ (o_ r_ (ow_indexOwnE 1 j rfl rfl rfl rfl (by rw [List.length_map] ; omega) rfl (o_ r_ (ow_fieldAddrInn r_ r_ r_ b_ (ag_ (ow_storeInn (row' := HdRow (y.1, y.2 / 2)) 1 j 1 r_ r_ r_ r_ r_ hrw r_ b_ r_ (ak_ (ay_ (ay_ (al_ (an_ (M_ r_ (o_ r_ (bj_ r_ r_ g_ (E_ r_ ?_))))))))))))))))))))
                refine ak_ (jq_againS (i := (j, w)) (j + 1, w) hltj (by dsimp only; omega) ?_ ?_)
                · dsimp only
                  rw [← hre, hst]
                  exact bc_ 0 r_ (bc_ 1 r_ (bc_ 1 r_ (bc_ 1 r_ (bc_ 1 r_ (bc_ 1 r_ (bc_ 1 r_ (bc_ 1 r_ (bc_ 1 r_ (bc_ 1 r_ sub_end)))))))))
                · (repeat (first | exact True.intro | refine ⟨rfl, ?_⟩))
              · have hmx2 := hmx (if_neg hyh)
                by_cases hm : y.1 ∈ nd
                · have hyT := hTi _ hbj.1 hbj.2.1 hm
                  rw [if_pos ⟨hyh, hm⟩, ← hyT.1, ← Nat.mul_one y.1.toNat] at hst
                  refine am_ (R_ (M_ r_ (F_ r_ (L_ 3 r_ (o_ r_ (cw_ 0 r_ r_ (fun hlen => o_ r_ (bw_ r_ r_ (T_ (aq_ r_ t_ (as_ (al_ (B_ (R_ (F_ r_ (L_ 3 r_ (M_ r_ ?_)))))))))))))))))
                  refine o_ r_ (ow_indexOwnE 0 j rfl rfl rfl rfl (by rw [List.length_map] ; omega) rfl (o_ r_ (ow_loadInnN 0 j r_ r_ r_ r_ hrw r_ (o_ r_ (bl_ rfl rfl (fun b28 => S_ 0 r_ (T_ (au_ (R_ (F_ r_ (L_ 0 r_ (M_ r_ (o_ r_ (bn_ r_ r_ (E_ r_ (T_ (ap_ r_ w_ (R_ (M_ r_ ?_)))))))))))))))))))
                  refine F_ r_ (L_ 0 r_ (o_ r_ (ow_indexI 3 r_ r_ r_ g_ r_ (o_ r_ (ow_loadI 3 r_ r_ r_ g_ (o_ r_ (cn_ r_ r_ (E_ r_ (T_ (aq_ r_ t_ (jc_hpM 11 (n := 12) rfl 0 k_ rfl (fun cs1 hcs1 hv1 => ?_))))))))))))
                  obtain ⟨u10, u11, rfl⟩ := len2 hcs1
                  obtain rfl := Option.some.inj (hv1 0 _ rfl)
                  obtain rfl := Option.some.inj (hv1 1 _ rfl)
                  refine hp_know 0 rfl mem0 ?_
                  dsimp only [List.zipWith, know]
                  refine hp_pani (by (repeat (first | refine pani_then ?_ | refine pani_block ?_)); exact pani_body) (fun hPan => ?_)
                  refine df_ (i := 0) r_ k_ k_ k_ b_ hPan (dk_ r_) (df_ (i := 1) r_ k_ k_ k_ b_ hPan (dk_ r_) (df_ (i := 2) r_ k_ k_ k_ b_ hPan (dl_ r_ r_ r_ b_) (df_ (i := 3) r_ k_ k_ k_ b_ hPan (dm_ 0 r_ r_ r_ mem0 r_) (df_ (i := 4) rfl k_ k_ k_ b_ hPan (hok_indexOwn 3 rfl rfl rfl g_ (by simp only [List.length_map]; omega) rfl) (df_ (i := 6) r_ k_ k_ k_ b_ hPan (dl_ r_ r_ r_ b_) ?_)))))
                  refine df_ (i := 7) r_ k_ k_ k_ b_ hPan (dm_ 0 r_ r_ r_ mem0 r_) (dg_ (i := 5) r_ k_ b_ (ow_loadI 3 r_ r_ r_ g_ ⟨?_, ?_⟩))
                  exact keepK 0 rfl rfl
                  refine df_ (i := 8) r_ k_ k_ k_ b_ hPan (hok_build r_ r_ r_ r_ r_) (dg_ (i := 9) r_ k_ b_ (bq_ r_ r_ b_ r_ r_ b_ ⟨?_, ?_⟩))
                  exact keepK 0 rfl rfl
                  refine dg_ (i := 10) rfl k_ b_ (ow_append1 2 ((To.getD (y.1.toNat * 1) 0, y.2) : Hd) rfl rfl rfl rfl rfl rfl rfl (fun _ => rfl) (by show (_ + 1) * 16 ≤ _ ; omega) g_ (fun w1 hw1 => ⟨?_, ?_⟩))
                  exact keepK 1 rfl rfl
                  refine df_ (i := 11) r_ k_ k_ k_ b_ hPan (hok_assign r_) (hp_done k_ ?_)
                  clear hPan
                  refine jq_unk _ 1 rfl rfl ?_
                  dsimp only [List.map, unk]
                  refine ay_ (ay_ (al_ (an_ (M_ r_ (o_ r_ (bj_ r_ r_ g_ (E_ r_ (ak_ (jq_againS (i := (j, w)) (j + 1, w1) hltj (by dsimp only; omega) ?_ ?_)))))))))
                  · dsimp only
                    rw [hst, hmx2]
                    exact bc_ 2 r_ (bc_ 1 r_ (bc_ 1 r_ (bc_ 1 r_ (bc_ 1 r_ (bc_ 1 r_ (bc_ 1 r_ (bc_ 1 r_ (bc_ 1 r_ (bc_ 1 r_ sub_end)))))))))
                  · (repeat (first | exact True.intro | refine ⟨rfl, ?_⟩))
                · have hyT := hTn _ hbj.1 hbj.2.1 hm
                  rw [if_neg (fun q => hm q.2), List.append_nil] at hst
                  refine am_ (R_ (M_ r_ (F_ r_ (L_ 3 r_ (o_ r_ (cw_ 0 r_ r_ (fun hlen => o_ r_ (bw_ r_ r_ (T_ (aq_ r_ t_ (as_ (al_ (B_ (R_ (F_ r_ (L_ 3 r_ (M_ r_ ?_)))))))))))))))))
                  refine o_ r_ (ow_indexOwnE 0 j rfl rfl rfl rfl (by rw [List.length_map] ; omega) rfl (o_ r_ (ow_loadInnN 0 j r_ r_ r_ r_ hrw r_ (o_ r_ (bl_ rfl rfl (fun b28 => S_ 0 r_ (T_ (au_ (R_ (F_ r_ (L_ 0 r_ (M_ r_ (o_ r_ (bn_ r_ r_ (E_ r_ (T_ (ap_ r_ w_ (R_ (M_ r_ ?_)))))))))))))))))))
                  refine F_ r_ (L_ 0 r_ (o_ r_ (ow_indexI 3 r_ r_ r_ g_ r_ (o_ r_ (ow_loadI 3 r_ r_ r_ g_ (o_ r_ (cn_ r_ r_ (E_ r_ (T_ (ap_ r_ v_ (as_ (ay_ (ay_ (al_ (an_ (M_ r_ (o_ r_ (bj_ r_ r_ g_ (E_ r_ ?_)))))))))))))))))))
                  refine ak_ (jq_againS (i := (j, w)) (j + 1, w) hltj (by dsimp only; omega) ?_ ?_)
                  · dsimp only
                    rw [hst, hmx2]
                    exact bc_ 1 r_ (bc_ 1 r_ (bc_ 1 r_ (bc_ 1 r_ (bc_ 1 r_ (bc_ 1 r_ (bc_ 1 r_ (bc_ 1 r_ (bc_ 1 r_ (bc_ 1 r_ sub_end)))))))))
                  · (repeat (first | exact True.intro | refine ⟨rfl, ?_⟩))
            · have hltj2 : ¬ (j : Int) < (((g.heads).map HdRow).length : Int) := by omega
              have hml := mapP_len (hdF h) g.heads j
              have eML : ((mapP (hdF h) g.heads j).map HdRow).length = g.heads.length := by rw [List.length_map]; exact hml
              have hje : j = g.heads.length := by omega
              have hhe : (mapP (hdF h) g.heads j).map HdRow ++ (hdM g.blocks.length nd h (g.heads.take j)).map HdRow = (unHs g.blocks.length nd h g.heads).map HdRow := by rw [hje, unHs_eq, List.map_append]
              have hul2 := unHs_len g.blocks.length nd h g.heads
              have hul3 : ((mapP (hdF h) g.heads j).map HdRow).length + ((hdM g.blocks.length nd h (g.heads.take j)).map HdRow).length ≤ 128 := by rw [← List.length_append, hhe, List.length_map]; omega
              refine am_ (R_ (M_ r_ (F_ r_ (L_ 3 r_ (o_ r_ (cw_ 0 r_ r_ (fun hlen => o_ r_ (bw_ r_ r_ (T_ (ap_ r_ v_ (av_ (ax_ (ax_ (ba_ (al_ (am_ (jc_freeze 26 1 rfl rfl (by rw [hc]; simp [hb]) ?_)))))))))))))))))
              refine an_ (F_ r_ (L_ 2 r_ (M_ r_ (o_ r_ (ow_append 0 rfl rfl rfl rfl rfl rfl rfl (rows_len (fun _ => rfl)) (by show (_ + _) * 16 ≤ _ ; omega) g_ (fun vH1 hvH1 => F_ r_ (W_ 2 r_ (T_ (R_ (E_ r_ (T_ (am_ (R_ (E_ r_ (T_ (au_ ?_))))))))))))))))
              rw [hhe]
              refine jc_ownNil 33 1 g_ (jc_famNil 3 1 0 (Nat.succ_pos _) ?_)
              skip
              refine jc_loopS (ι := Nat × Value × List Value) [] (fun i => i.1 ≤ (g.blocks).length ∧ i.2.2.length = i.1) (fun i => (30, In .i64 (i.1 : Int)) :: [(29, .cell (.val i.2.1)), (17, Ptr bo), (14, .cell (.val vT)), (12, In .i64 ((g.blocks.map Bk.row).length : Int)), (11, .cell (.list (nd.map Irow))), (1, In .i64 h), (2, Ptr bg), (4, Ptr br)]) (fun i => [.own i.2.1 33 1 (i.2.2.map vrow), .fam (famI 3 i.2.2 ((unMp g.blocks.length nd).take i.1)), .own vT 3 1 ((To).map irow), .own vH1 42 2 ((unHs g.blocks.length nd h g.heads).map HdRow), .blk bo 28 (GhV g vB vP vH1), .own vP 33 1 (ps.map vrow), .fam (famI 3 ps (unPs g.blocks.length nd g.points)), .own vB 35 3 (bkVs (unBs g.blocks nd h) ns), .fam (famI 3 ns (nxs (unBs g.blocks nd h))), .blk bg 28 g.row, .blk br 28 GhZ]) (fun i => (g.blocks).length - i.1) (0, .slice none 0 0, []) ⟨Nat.zero_le _, rfl⟩ ?_ ?_ ?_
              · exact bc_ 1 r_ (bc_ 0 r_ (bc_ 2 r_ (bc_ 1 r_ (bc_ 0 r_ (bc_ 0 r_ (bc_ 0 r_ (bc_ 0 r_ (bc_ 0 r_ (bc_ 0 r_ (bc_ 0 r_ sub_end))))))))))
              · (repeat (first | exact True.intro | refine ⟨rfl, ?_⟩))
              rintro ⟨k, vM, ms⟩ hz
              dsimp only at hz ⊢
              obtain ⟨hk, hms⟩ := hz
              have eLk : ((g.blocks).map Bk.row).length = (g.blocks).length := List.length_map _
              by_cases hltk : k < (g.blocks).length
              · have hltk2 : (k : Int) < (((g.blocks).map Bk.row).length : Int) := by omega
                have hmt := unMp_step nd hltk
                have hml := unMp_len g.blocks.length nd
                have hmtl : ((unMp g.blocks.length nd).take k).length = k := by rw [List.length_take]; omega
                have emv : (ms.map vrow).length = k := by rw [List.length_map]; exact hms
                refine am_ (R_ (M_ r_ (M_ r_ (o_ r_ (bw_ r_ r_ (T_ (aq_ r_ u_ (as_ (al_ (B_ (R_ (M_ r_ (o_ r_ (ow_buildSliceOwn (rows := ([(k : Int)] : List Int).map irow) rfl rfl b_ rfl rfl b_ (fun q0 hq0 fq0 => E_ r_ (T_ (am_ ?_)))))))))))))))))
                refine am_ ?_
                by_cases hm : (k : Int) ∈ nd
                · have hyT := hTi (k : Int) (by omega) (by omega) hm
                  rw [if_pos hm, ← hyT.1] at hmt
                  refine an_ (M_ r_ (M_ r_ (o_ r_ (ow_indexI 3 r_ r_ r_ g_ r_ (o_ r_ (ow_loadI 3 r_ r_ r_ g_ (o_ r_ (cn_ r_ r_ (T_ (aq_ r_ t_ (an_ (M_ r_ (M_ r_ (M_ r_ (o_ r_ (ow_indexI 3 r_ r_ r_ g_ r_ (o_ r_ (ow_loadI 3 r_ r_ r_ g_ (o_ r_ (bq_ r_ r_ b_ r_ r_ b_ (o_ r_ (ow_append1 0 (To.getD (k : Int).toNat 0) (l1 := [(k : Int)]) (f := irow) rfl rfl rfl rfl rfl rfl rfl (fun _ => rfl) b_ b_ (fun q1 hq1 => ?_)))))))))))))))))))))))
                  refine E_ r_ (T_ (an_ (M_ r_ (M_ r_ (o_ r_ (bq_ r_ r_ b_ r_ r_ b_ (o_ r_ (ow_append 1 rfl rfl rfl rfl rfl rfl rfl (rows1 rfl) (by rw [emv] ; show (_ + 1) * 24 ≤ _ ; omega) (by rw [emv] ; show _ + 1 ≤ _ ; omega) (fun vM1 hvM1 => E_ r_ (ak_ (ay_ (al_ (an_ (M_ r_ (o_ r_ (bj_ r_ r_ g_ (E_ r_ (ak_ ?_))))))))))))))))))
                  refine jq_regroup _ (famI_more (e := 3) (j := 1) (j2 := 1) (L := [(k : Int), To.getD (k : Int).toNat 0]) g_ rfl hmt) (jq_againS (i := (k, vM, ms)) (k + 1, vM1, ms ++ [q1]) ⟨hltk, by dsimp only; rw [List.length_append, hms]; rfl⟩ (by dsimp only; omega) ?_ ?_)
                  · dsimp only
                    rw [show (ms ++ [q1]).map vrow = ms.map vrow ++ [[C.val q1]] from List.map_append]
                    exact bc_ 1 r_ (bc_ 0 r_ (bc_ 0 r_ (bc_ 0 r_ (bc_ 0 r_ (bc_ 0 r_ (bc_ 0 r_ (bc_ 0 r_ (bc_ 0 r_ (bc_ 0 r_ (bc_ 0 r_ sub_end))))))))))
                  · (repeat (first | exact True.intro | refine ⟨rfl, ?_⟩))
                · have hyT := hTn (k : Int) (by omega) (by omega) hm
                  rw [if_neg hm] at hmt
                  refine an_ (M_ r_ (M_ r_ (o_ r_ (ow_indexI 3 r_ r_ r_ g_ r_ (o_ r_ (ow_loadI 3 r_ r_ r_ g_ (o_ r_ (cn_ r_ r_ (T_ (ap_ r_ v_ (as_ (al_ (an_ (M_ r_ (M_ r_ (o_ r_ (bq_ r_ r_ b_ r_ r_ b_ (o_ r_ (ow_append 1 rfl rfl rfl rfl rfl rfl rfl (rows1 rfl) (by rw [emv] ; show (_ + 1) * 24 ≤ _ ; omega) (by rw [emv] ; show _ + 1 ≤ _ ; omega) (fun vM1 hvM1 => E_ r_ ?_))))))))))))))))))))
                  refine ak_ (ay_ (al_ (an_ (M_ r_ (o_ r_ (bj_ r_ r_ g_ (E_ r_ (ak_ (jq_regroup _ (famI_more (e := 3) (j := 1) (j2 := 1) (L := [(k : Int)]) g_ rfl hmt) (jq_againS (i := (k, vM, ms)) (k + 1, vM1, ms ++ [q0]) ⟨hltk, by dsimp only; rw [List.length_append, hms]; rfl⟩ (by dsimp only; omega) ?_ ?_))))))))))
                  · dsimp only
                    rw [show (ms ++ [q0]).map vrow = ms.map vrow ++ [[C.val q0]] from List.map_append]
                    exact bc_ 1 r_ (bc_ 0 r_ (bc_ 0 r_ (bc_ 0 r_ (bc_ 0 r_ (bc_ 0 r_ (bc_ 0 r_ (bc_ 0 r_ (bc_ 0 r_ (bc_ 0 r_ (bc_ 0 r_ sub_end))))))))))
                  · (repeat (first | exact True.intro | refine ⟨rfl, ?_⟩))
              · have hltk2 : ¬ (k : Int) < (((g.blocks).map Bk.row).length : Int) := by omega
                have hml := unMp_len g.blocks.length nd
                rw [List.take_of_length_le (show (unMp g.blocks.length nd).length ≤ k by omega)]
                have hnl2 : ns.length = (unBs g.blocks nd h).length := by omega
                have hpl2 : ps.length = (unPs g.blocks.length nd g.points).length := by unfold unPs; rw [List.length_map]; exact hps
                have htl2 : ms.length = (unMp g.blocks.length nd).length := by omega
                refine am_ (R_ (M_ r_ (M_ r_ (o_ r_ (bw_ r_ r_ (T_ (ap_ r_ w_ (av_ (ax_ (ax_ (ba_ (al_ (R_ (A_ 4 r_ (M_ r_ (S_ 10 r_ ?_))))))))))))))))
                refine E_ r_ (E_ r_ (T_ (ar_ (jq_sub (H1 := [.blk br 28 (GhV g vB vP vH1), .own vM 33 1 (ms.map vrow), .fam (famI 3 ms (unMp g.blocks.length nd)), .own vB 35 3 (bkVs (unBs g.blocks nd h) ns), .fam (famI 3 ns (nxs (unBs g.blocks nd h))), .own vP 33 1 (ps.map vrow), .fam (famI 3 ps (unPs g.blocks.length nd g.points)), .own vH1 42 2 ((unHs g.blocks.length nd h g.heads).map HdRow)]) ?_ ?_))))
                · exact bc_ 0 r_ (bc_ 0 r_ (bc_ 0 r_ (bc_ 5 r_ (bc_ 5 r_ (bc_ 3 r_ (bc_ 3 r_ (bc_ 1 r_ sub_end)))))))
                refine jq_freezeFam 1 1 0 rfl (famI_holds htl2) (by rw [hc]; simp [hb]) ?_
                rw [famI_frz htl2]
                refine jq_freeze 5 0 rfl rfl (by rw [hc]; simp [hb]) (jq_freezeFam 1 1 2 rfl (bkVs_holds hnl2) (by rw [hc]; simp [hb]) ?_)
                rw [bkVs_frz hnl2]
                refine jq_freezeBi 0 0 5 rfl rfl rfl (by rw [hc]; simp [hb]) (jq_freezeFam 1 1 0 rfl (famI_holds hpl2) (by rw [hc]; simp [hb]) ?_)
                rw [famI_frz hpl2]
                exact jq_freezeBi 0 0 6 rfl rfl rfl (by rw [hc]; simp [hb]) (jq_freezeBi 1 0 7 rfl rfl rfl (by rw [hc]; simp [hb]) (jq_retRow2 rfl rfl rfl rfl rfl rfl 0 rfl (fun K h => by rw [UnK, hres] at h; exact h) sub_end))
end Go.Proofs.Ytpolnonbgaolkaa
end

section
namespace Go.Proofs.Ytpolnonbgaolkaa
open Go.Vc
attribute [local irreducible] JL JC JQ OpWp Con ConN HOk
set_option maxHeartbeats 4000000

theorem rSameInts_c (a b : List Int) : Con Try.prog 11 [.cell (.list (a.map Irow)), .cell (.list (b.map Irow))] [] (fun K => K (Bl (decide (a = b))) []) := by
  have eA : (a.map Irow).length = a.length := List.length_map _
  have eB : (b.map Irow).length = b.length := List.length_map _
  refine con_intro Try.func11 rfl rfl (Nat.le_of_ble_eq_true rfl) (fun c hc => ?_)
  by_cases hab : ((a.map Irow).length : Int) ≠ ((b.map Irow).length : Int)
  · have hres : decide (a = b) = false := decide_eq_false (fun e => hab (by rw [e]))
    refine R_ (E_ r_ (T_ (am_ (R_ (M_ r_ (o_ r_ (br_ r_ (fun hlen => M_ r_ (o_ r_ (br_ r_ (fun hlen => o_ r_ (bx_ r_ r_ (T_ (aq_ r_ u_ (R_ (E_ r_ (T_ (ar_ ?_))))))))))))))))))
    exact aw_ (jq_ret1S rfl rfl (fun K h => by rw [hres] at h; exact h) sub_end)
  refine R_ (E_ r_ (T_ (am_ (R_ (M_ r_ (o_ r_ (br_ r_ (fun hlen => M_ r_ (o_ r_ (br_ r_ (fun hlen => o_ r_ (bx_ r_ r_ (T_ (ap_ r_ w_ (as_ (al_ (am_ (R_ ?_))))))))))))))))))
  refine E_ r_ (T_ (au_ (jc_loopS (ι := Nat) [] (fun k => k ≤ (a).length ∧ a.take k = b.take k) (fun k => (5, In .i64 (k : Int)) :: [(0, .cell (.list (a.map Irow))), (1, .cell (.list (b.map Irow)))]) (fun k => []) (fun k => (a).length - k) 0 ⟨Nat.zero_le _, rfl⟩ ?_ ?_ ?_)))
  · exact sub_end
  · (repeat (first | exact True.intro | refine ⟨rfl, ?_⟩))
  rintro k ⟨hk, hke⟩
  have eLk : ((a).map Irow).length = (a).length := List.length_map _
  by_cases hltk : k < (a).length
  · have hltk2 : (k : Int) < (((a).map Irow).length : Int) := by omega
    have hltb : k < b.length := by omega
    have hltb2 : (k : Int) < ((b.map Irow).length : Int) := by omega
    by_cases hq : a[k] ≠ b[k]
    · have hres : decide (a = b) = false := decide_eq_false (fun e => hq (by subst e; rfl))
      refine am_ (R_ (M_ r_ (M_ r_ (o_ r_ (br_ r_ (fun hlen => o_ r_ (bw_ r_ r_ (T_ (aq_ r_ u_ (as_ (al_ (B_ (am_ (ao_ r_ r_ k_ k_ (yM_ r_ (yM_ r_ (aa_ (fun c => cc_ r_ r_ g_ r_ r_ b_ p_) ?_)))))))))))))))))
      refine aa_ (fun c => cb_ r_ r_ p_) (yM_ r_ (yM_ r_ (aa_ (fun c => cc_ r_ r_ g_ r_ r_ b_ p_) (aa_ (fun c => cb_ r_ r_ p_) (aa_ (fun c => bx_ r_ r_ p_) (ae_ (al_ (aq_ r_ u_ (R_ (E_ r_ (T_ (ar_ (az_ (aw_ (aw_ ?_)))))))))))))))
      exact az_ (aw_ (jq_ret1S rfl rfl (fun K h => by rw [hres] at h; exact h) sub_end))
    · have hee : a[k] = b[k] := by omega
      refine am_ (R_ (M_ r_ (M_ r_ (o_ r_ (br_ r_ (fun hlen => o_ r_ (bw_ r_ r_ (T_ (aq_ r_ u_ (as_ (al_ (B_ (am_ (ao_ r_ r_ k_ k_ (yM_ r_ (yM_ r_ (aa_ (fun c => cc_ r_ r_ g_ r_ r_ b_ p_) ?_)))))))))))))))))
      refine aa_ (fun c => cb_ r_ r_ p_) (yM_ r_ (yM_ r_ (aa_ (fun c => cc_ r_ r_ g_ r_ r_ b_ p_) (aa_ (fun c => cb_ r_ r_ p_) (aa_ (fun c => bx_ r_ r_ p_) (ae_ (al_ (ap_ r_ w_ (as_ (ay_ (al_ (an_ (M_ r_ (o_ r_ (bj_ r_ r_ g_ (E_ r_ ?_))))))))))))))))
      refine ak_ (jq_againS (i := k) (k + 1) ⟨hltk, by rw [List.take_succ_eq_append_getElem hltk, List.take_succ_eq_append_getElem hltb, hke, hee]⟩ g_ ?_ ?_)
      · exact sub_end
      · (repeat (first | exact True.intro | refine ⟨rfl, ?_⟩))
  · have hltk2 : ¬ (k : Int) < (((a).map Irow).length : Int) := by omega
    rw [List.take_of_length_le (by omega), List.take_of_length_le (by omega)] at hke
    have hres : decide (a = b) = true := decide_eq_true hke
    refine am_ (R_ (M_ r_ (M_ r_ (o_ r_ (br_ r_ (fun hlen => o_ r_ (bw_ r_ r_ (T_ (ap_ r_ w_ (av_ (ax_ (ax_ (ba_ (al_ (R_ (E_ r_ (T_ ?_)))))))))))))))))
    exact ar_ (jq_ret1S rfl rfl (fun K h => by rw [hres] at h; exact h) sub_end)
theorem rSameLists_c (a b : List (List Int)) : Con Try.prog 10 [.cell (.list (a.map NRow)), .cell (.list (b.map NRow))] [] (fun K => K (Bl (decide (a = b))) []) := by
  have eA : (a.map NRow).length = a.length := List.length_map _
  have eB : (b.map NRow).length = b.length := List.length_map _
  refine con_intro Try.func10 rfl rfl (Nat.le_of_ble_eq_true rfl) (fun c hc => ?_)
  by_cases hab : ((a.map NRow).length : Int) ≠ ((b.map NRow).length : Int)
  · have hres : decide (a = b) = false := decide_eq_false (fun e => hab (by rw [e]))
    refine R_ (E_ r_ (T_ (am_ (R_ (M_ r_ (o_ r_ (br_ r_ (fun hlen => M_ r_ (o_ r_ (br_ r_ (fun hlen => o_ r_ (bx_ r_ r_ (T_ (aq_ r_ u_ (R_ (E_ r_ (T_ (ar_ ?_))))))))))))))))))
    exact aw_ (jq_ret1S rfl rfl (fun K h => by rw [hres] at h; exact h) sub_end)
  refine R_ (E_ r_ (T_ (am_ (R_ (M_ r_ (o_ r_ (br_ r_ (fun hlen => M_ r_ (o_ r_ (br_ r_ (fun hlen => o_ r_ (bx_ r_ r_ (T_ (ap_ r_ w_ (as_ (al_ (am_ (R_ ?_))))))))))))))))))
  refine E_ r_ (T_ (au_ (jc_loopS (ι := Nat) [] (fun k => k ≤ (a).length ∧ a.take k = b.take k) (fun k => (5, In .i64 (k : Int)) :: [(0, .cell (.list (a.map NRow))), (1, .cell (.list (b.map NRow)))]) (fun k => []) (fun k => (a).length - k) 0 ⟨Nat.zero_le _, rfl⟩ ?_ ?_ ?_)))
  · exact sub_end
  · (repeat (first | exact True.intro | refine ⟨rfl, ?_⟩))
  rintro k ⟨hk, hke⟩
  have eLk : ((a).map NRow).length = (a).length := List.length_map _
  by_cases hltk : k < (a).length
  · have hltk2 : (k : Int) < (((a).map NRow).length : Int) := by omega
    have hltb : k < b.length := by omega
    have hltb2 : (k : Int) < ((b.map NRow).length : Int) := by omega
    have hC := rSameInts_c a[k] b[k]
    cases hq : decide (a[k] = b[k]) with
    | false =>
      rw [hq] at hC
      have hres : decide (a = b) = false := decide_eq_false (fun e => by
        have := of_decide_eq_false hq
        subst e
        exact this rfl)
      refine am_ (R_ (M_ r_ (M_ r_ (o_ r_ (br_ r_ (fun hlen => o_ r_ (bw_ r_ r_ (T_ (aq_ r_ u_ (as_ (al_ (B_ (am_ (ao_ r_ r_ k_ k_ (yM_ r_ (yM_ r_ (aa_ (fun c => cc_ r_ r_ g_ r_ r_ b_ p_) ?_)))))))))))))))))
      refine aa_ (fun c => cb_ r_ r_ p_) (yM_ r_ (yM_ r_ (aa_ (fun c => cc_ r_ r_ g_ r_ r_ b_ p_) (aa_ (fun c => cb_ r_ r_ p_) (aa_ (fun c => bm_ r_ (hC) p_) (aa_ (fun c => cd_ r_ p_) (ae_ (al_ (aq_ r_ r_ (R_ (E_ r_ (T_ (ar_ (az_ (aw_ ?_)))))))))))))))
      exact aw_ (az_ (aw_ (jq_ret1S rfl rfl (fun K h => by rw [hres] at h; exact h) sub_end)))
    | true =>
      rw [hq] at hC
      have hee := of_decide_eq_true hq
      refine am_ (R_ (M_ r_ (M_ r_ (o_ r_ (br_ r_ (fun hlen => o_ r_ (bw_ r_ r_ (T_ (aq_ r_ u_ (as_ (al_ (B_ (am_ (ao_ r_ r_ k_ k_ (yM_ r_ (yM_ r_ (aa_ (fun c => cc_ r_ r_ g_ r_ r_ b_ p_) ?_)))))))))))))))))
      refine aa_ (fun c => cb_ r_ r_ p_) (yM_ r_ (yM_ r_ (aa_ (fun c => cc_ r_ r_ g_ r_ r_ b_ p_) (aa_ (fun c => cb_ r_ r_ p_) (aa_ (fun c => bm_ r_ (hC) p_) (aa_ (fun c => cd_ r_ p_) (ae_ (al_ (ap_ r_ r_ (as_ (ay_ (al_ (an_ (M_ r_ (o_ r_ (bj_ r_ r_ g_ ?_))))))))))))))))
      refine E_ r_ (ak_ (jq_againS (i := k) (k + 1) ⟨hltk, by rw [List.take_succ_eq_append_getElem hltk, List.take_succ_eq_append_getElem hltb, hke, hee]⟩ g_ ?_ ?_))
      · exact sub_end
      · (repeat (first | exact True.intro | refine ⟨rfl, ?_⟩))
  · have hltk2 : ¬ (k : Int) < (((a).map NRow).length : Int) := by omega
    rw [List.take_of_length_le (by omega), List.take_of_length_le (by omega)] at hke
    have hres : decide (a = b) = true := decide_eq_true hke
    refine am_ (R_ (M_ r_ (M_ r_ (o_ r_ (br_ r_ (fun hlen => o_ r_ (bw_ r_ r_ (T_ (ap_ r_ w_ (av_ (ax_ (ax_ (ba_ (al_ (R_ (E_ r_ (T_ ?_)))))))))))))))))
    exact ar_ (jq_ret1S rfl rfl (fun K h => by rw [hres] at h; exact h) sub_end)
theorem sameInts_self (a : List Int) : Con Try.prog 11 [.cell (.list (a.map Irow)), .cell (.list (a.map Irow))] [] (fun K => K (Bl true) []) := by
  have := rSameInts_c a a
  rwa [decide_eq_true rfl] at this
theorem sameLists_self (a : List (List Int)) : Con Try.prog 10 [.cell (.list (a.map NRow)), .cell (.list (a.map NRow))] [] (fun K => K (Bl true) []) := by
  have := rSameLists_c a a
  rwa [decide_eq_true rfl] at this
abbrev inpU (x : Inp) : List (TypeId × Value) := [((9 : TypeId), .string x.1), (3, .int .i64 x.2.1), (3, .int .i64 x.2.2)]
abbrev arrU (x : Arr) : List (TypeId × Value) := [(9, .string x.1), (3, .int .i64 x.2)]
abbrev hdU (x : Hd) : List (TypeId × Value) := [(3, .int .i64 x.1), (3, .int .i64 x.2)]
abbrev opU (x : Opx) : List (TypeId × Value) := [(3, .int .i64 x.kind), (3, .int .i64 x.dst), (3, .int .i64 x.a), (3, .int .i64 x.b), (3, .int .i64 x.imm)]
theorem inpF : Flds Try.prog 64 [9, 3, 3] := ⟨by kernel_rfl, by kernel_rfl, by kernel_rfl, by kernel_rfl⟩
theorem arrF : Flds Try.prog 66 [9, 3] := ⟨by kernel_rfl, by kernel_rfl, by kernel_rfl, by kernel_rfl⟩
theorem hdFl : Flds Try.prog 42 [3, 3] := ⟨by kernel_rfl, by kernel_rfl, by kernel_rfl, by kernel_rfl⟩
theorem eqI (n : Int) : PtEq Try.prog 3 (Value.int .i64 n) (Value.int .i64 n) true := eq_intS n Try.underlying3 rfl
theorem eqB (n : ByteArray) : PtEq Try.prog 9 (.string n) (.string n) true := eq_strS n Try.underlying9 rfl
theorem inpE (x : Inp) : ∀ q ∈ inpU x, PtEq Try.prog q.1 q.2 q.2 true := by
  intro q hq
  simp only [inpU, List.mem_cons, List.not_mem_nil, or_false] at hq
  rcases hq with rfl | rfl | rfl
  · exact eqB _
  · exact eqI _
  · exact eqI _
theorem arrE (x : Arr) : ∀ q ∈ arrU x, PtEq Try.prog q.1 q.2 q.2 true := by
  intro q hq
  simp only [arrU, List.mem_cons, List.not_mem_nil, or_false] at hq
  rcases hq with rfl | rfl
  · exact eqB _
  · exact eqI _
theorem hdE (x : Hd) : ∀ q ∈ hdU x, PtEq Try.prog q.1 q.2 q.2 true := by
  intro q hq
  simp only [hdU, List.mem_cons, List.not_mem_nil, or_false] at hq
  rcases hq with rfl | rfl <;> exact eqI _
theorem opE (x : Opx) : ∀ q ∈ opU x, PtEq Try.prog q.1 q.2 q.2 true := by
  intro q hq
  simp only [opU, List.mem_cons, List.not_mem_nil, or_false] at hq
  rcases hq with rfl | rfl | rfl | rfl | rfl <;> exact eqI _
theorem rSame_c (g : Gh) : Con Try.prog 9 [.row g.row, .row g.row] [] (fun K => K (Bl true) []) := by
  have eB : (g.blocks.map Bk.row).length = g.blocks.length := List.length_map _
  have hP := sameLists_self g.points
  refine con_intro Try.func9 rfl rfl (Nat.le_of_ble_eq_true rfl) (fun c hc => ?_)
  have c1 : ¬ g.vars ≠ g.vars := fun h => h rfl
  have c2 : ¬ g.keep ≠ g.keep := fun h => h rfl
  have c3 : ¬ g.shared ≠ g.shared := fun h => h rfl
  have c4 : ¬ ((g.inputs.map InRow).length : Int) ≠ ((g.inputs.map InRow).length : Int) := fun h => h rfl
  have c5 : ¬ ((g.arrays.map ArRow).length : Int) ≠ ((g.arrays.map ArRow).length : Int) := fun h => h rfl
  have c6 : ¬ ((g.blocks.map Bk.row).length : Int) ≠ ((g.blocks.map Bk.row).length : Int) := fun h => h rfl
  have c7 : ¬ ((g.heads.map HdRow).length : Int) ≠ ((g.heads.map HdRow).length : Int) := fun h => h rfl
  refine R_ (o_ r_ (ci_ r_ (fun bx => o_ r_ (ci_ r_ (fun bx => E_ r_ (T_ (am_ (am_ ?_))))))))
  rename_i b2
  refine an_ (F_ r_ (L_ 1 r_ (F_ r_ (L_ 0 r_ (o_ r_ (bx_ r_ r_ (M_ r_ (ah_ r_ w_ b_ (bf_ r_ r_ r_ b_ (ah_ r_ w_ b_ (bg_ 1 r_ r_ r_ r_ (ah_ r_ w_ b_ (bf_ r_ r_ r_ b_ (ah_ r_ w_ b_ (bg_ 0 r_ r_ r_ r_ (ah_ r_ w_ b_ (bx_ r_ r_ (o_ r_ (bv_ r_ w_ r_ (M_ r_ (ah_ r_ w_ b_ (bf_ r_ r_ r_ b_ (ah_ r_ w_ b_ (bg_ 1 r_ r_ r_ r_ ?_))))))))))))))))))))))))
  refine ah_ r_ w_ b_ (bf_ r_ r_ r_ b_ (ah_ r_ w_ b_ (bg_ 0 r_ r_ r_ r_ (ah_ r_ w_ b_ (bx_ r_ r_ (o_ r_ (bv_ r_ w_ r_ (M_ r_ (ah_ r_ w_ b_ (bf_ r_ r_ r_ b_ (ah_ r_ w_ b_ (bg_ 1 r_ r_ r_ r_ (ah_ r_ w_ b_ (br_ r_ (fun hlen => ah_ r_ w_ b_ (bf_ r_ r_ r_ b_ (ah_ r_ w_ b_ (bg_ 0 r_ r_ r_ r_ (ah_ r_ w_ b_ (br_ r_ (fun hlen => ah_ r_ w_ b_ (bx_ r_ r_ (o_ r_ (bv_ r_ w_ r_ (M_ r_ ?_)))))))))))))))))))))))))
  refine ah_ r_ w_ b_ (bf_ r_ r_ r_ b_ (ah_ r_ w_ b_ (bg_ 1 r_ r_ r_ r_ (ah_ r_ w_ b_ (br_ r_ (fun hlen => ah_ r_ w_ b_ (bf_ r_ r_ r_ b_ (ah_ r_ w_ b_ (bg_ 0 r_ r_ r_ r_ (ah_ r_ w_ b_ (br_ r_ (fun hlen => ah_ r_ w_ b_ (bx_ r_ r_ (o_ r_ (bv_ r_ w_ r_ (M_ r_ (ah_ r_ w_ b_ (bf_ r_ r_ r_ b_ (ah_ r_ w_ b_ (bg_ 1 r_ r_ r_ r_ (ah_ r_ w_ b_ (br_ r_ (fun hlen => ah_ r_ w_ b_ (bf_ r_ r_ r_ b_ ?_))))))))))))))))))))))))
  refine ah_ r_ w_ b_ (bg_ 0 r_ r_ r_ r_ (ah_ r_ w_ b_ (br_ r_ (fun hlen => ah_ r_ w_ b_ (bx_ r_ r_ (o_ r_ (bv_ r_ w_ r_ (M_ r_ (ah_ r_ w_ b_ (bf_ r_ r_ r_ b_ (ah_ r_ w_ b_ (bg_ 1 r_ r_ r_ r_ (ah_ r_ w_ b_ (br_ r_ (fun hlen => ah_ r_ w_ b_ (bf_ r_ r_ r_ b_ (ah_ r_ w_ b_ (bg_ 0 r_ r_ r_ r_ (ah_ r_ w_ b_ (br_ r_ (fun hlen => ah_ r_ w_ b_ (bx_ r_ r_ (o_ r_ (bv_ r_ w_ r_ (M_ r_ ?_)))))))))))))))))))))))))
  refine ah_ r_ w_ b_ (bf_ r_ r_ r_ b_ (ah_ r_ w_ b_ (bg_ 1 r_ r_ r_ r_ (ah_ r_ w_ b_ (bf_ r_ r_ r_ b_ (ah_ r_ w_ b_ (bg_ 0 r_ r_ r_ r_ (ah_ r_ w_ b_ (bm_ r_ (hP) (ah_ r_ w_ b_ (cd_ r_ (o_ r_ (bv_ r_ w_ r_ (T_ (ap_ r_ r_ (as_ (al_ (am_ (R_ (E_ r_ (T_ (au_ ?_))))))))))))))))))))))
  refine jc_loopS (ι := Nat) [] (fun k => k ≤ (g.inputs).length) (fun k => (5, In .i64 (k : Int)) :: [(2, Ptr b2), (3, Ptr bx)]) (fun k => [.blk bx 28 g.row, .blk b2 28 g.row]) (fun k => (g.inputs).length - k) 0 (Nat.zero_le _) ?_ ?_ ?_
  · exact bc_ 0 r_ (bc_ 0 r_ sub_end)
  · (repeat (first | exact True.intro | refine ⟨rfl, ?_⟩))
  rintro k hk
  have eLk : ((g.inputs).map InRow).length = (g.inputs).length := List.length_map _
  by_cases hltk : k < (g.inputs).length
  · have hltk2 : (k : Int) < (((g.inputs).map InRow).length : Int) := by omega
    refine am_ (R_ (M_ r_ (F_ r_ (L_ 1 r_ (o_ r_ (br_ r_ (fun hlen => o_ r_ (bw_ r_ r_ (T_ (aq_ r_ u_ (as_ (al_ (B_ (am_ (ao_ r_ r_ k_ k_ (yF_ r_ (yL_ 1 r_ ?_)))))))))))))))))
    refine yM_ r_ (aa_ (fun c => cc_ r_ r_ g_ r_ r_ b_ p_) (aa_ (fun c => cr_ r_ r_ r_ p_) (yF_ r_ (yL_ 0 r_ (yM_ r_ (aa_ (fun c => cc_ r_ r_ g_ r_ r_ b_ p_) (aa_ (fun c => cr_ r_ r_ r_ p_) (aa_ (fun c => ow_neqSame (inpU g.inputs[k]) inpF r_ r_ (inpE _) p_) (ae_ (al_ (ap_ r_ r_ (as_ (ay_ (al_ (an_ ?_)))))))))))))))
    refine M_ r_ (o_ r_ (bj_ r_ r_ g_ (E_ r_ (ak_ (jq_againS (i := k) (k + 1) hltk g_ ?_ ?_)))))
    · exact bc_ 0 r_ (bc_ 0 r_ sub_end)
    · (repeat (first | exact True.intro | refine ⟨rfl, ?_⟩))
  · have hltk2 : ¬ (k : Int) < (((g.inputs).map InRow).length : Int) := by omega
    refine am_ (R_ (M_ r_ (F_ r_ (L_ 1 r_ (o_ r_ (br_ r_ (fun hlen => o_ r_ (bw_ r_ r_ (T_ (ap_ r_ w_ (av_ (ax_ (ax_ (ba_ (al_ (am_ (R_ ?_)))))))))))))))))
    refine E_ r_ (T_ (au_ (jc_loopS (ι := Nat) [] (fun k => k ≤ (g.arrays).length) (fun k => (6, In .i64 (k : Int)) :: [(2, Ptr b2), (3, Ptr bx)]) (fun k => [.blk bx 28 g.row, .blk b2 28 g.row]) (fun k => (g.arrays).length - k) 0 (Nat.zero_le _) ?_ ?_ ?_)))
    · exact bc_ 0 r_ (bc_ 0 r_ sub_end)
    · (repeat (first | exact True.intro | refine ⟨rfl, ?_⟩))
    rintro k hk
    have eLk : ((g.arrays).map ArRow).length = (g.arrays).length := List.length_map _
    by_cases hltk : k < (g.arrays).length
    · have hltk2 : (k : Int) < (((g.arrays).map ArRow).length : Int) := by omega
      refine am_ (R_ (M_ r_ (F_ r_ (L_ 1 r_ (o_ r_ (br_ r_ (fun hlen => o_ r_ (bw_ r_ r_ (T_ (aq_ r_ u_ (as_ (al_ (B_ (am_ (ao_ r_ r_ k_ k_ (yF_ r_ (yL_ 1 r_ ?_)))))))))))))))))
      refine yM_ r_ (aa_ (fun c => cc_ r_ r_ g_ r_ r_ b_ p_) (aa_ (fun c => cr_ r_ r_ r_ p_) (yF_ r_ (yL_ 0 r_ (yM_ r_ (aa_ (fun c => cc_ r_ r_ g_ r_ r_ b_ p_) (aa_ (fun c => cr_ r_ r_ r_ p_) (aa_ (fun c => ow_neqSame (arrU g.arrays[k]) arrF r_ r_ (arrE _) p_) (ae_ (al_ (ap_ r_ r_ (as_ (ay_ (al_ (an_ ?_)))))))))))))))
      refine M_ r_ (o_ r_ (bj_ r_ r_ g_ (E_ r_ (ak_ (jq_againS (i := k) (k + 1) hltk g_ ?_ ?_)))))
      · exact bc_ 0 r_ (bc_ 0 r_ sub_end)
      · (repeat (first | exact True.intro | refine ⟨rfl, ?_⟩))
    · have hltk2 : ¬ (k : Int) < (((g.arrays).map ArRow).length : Int) := by omega
      refine am_ (R_ (M_ r_ (F_ r_ (L_ 1 r_ (o_ r_ (br_ r_ (fun hlen => o_ r_ (bw_ r_ r_ (T_ (ap_ r_ w_ (av_ (ax_ (ax_ (ba_ (al_ (am_ (R_ ?_)))))))))))))))))
      refine E_ r_ (T_ (au_ (jc_loopS (ι := Nat) [] (fun k => k ≤ (g.heads).length) (fun k => (7, In .i64 (k : Int)) :: [(2, Ptr b2), (3, Ptr bx)]) (fun k => [.blk bx 28 g.row, .blk b2 28 g.row]) (fun k => (g.heads).length - k) 0 (Nat.zero_le _) ?_ ?_ ?_)))
      · exact bc_ 0 r_ (bc_ 0 r_ sub_end)
      · (repeat (first | exact True.intro | refine ⟨rfl, ?_⟩))
      rintro k hk
      have eLk : ((g.heads).map HdRow).length = (g.heads).length := List.length_map _
      by_cases hltk : k < (g.heads).length
      · have hltk2 : (k : Int) < (((g.heads).map HdRow).length : Int) := by omega
        refine am_ (R_ (M_ r_ (F_ r_ (L_ 1 r_ (o_ r_ (br_ r_ (fun hlen => o_ r_ (bw_ r_ r_ (T_ (aq_ r_ u_ (as_ (al_ (B_ (am_ (ao_ r_ r_ k_ k_ (yF_ r_ (yL_ 1 r_ ?_)))))))))))))))))
        refine yM_ r_ (aa_ (fun c => cc_ r_ r_ g_ r_ r_ b_ p_) (aa_ (fun c => cr_ r_ r_ r_ p_) (yF_ r_ (yL_ 0 r_ (yM_ r_ (aa_ (fun c => cc_ r_ r_ g_ r_ r_ b_ p_) (aa_ (fun c => cr_ r_ r_ r_ p_) (aa_ (fun c => ow_neqSame (hdU g.heads[k]) hdFl r_ r_ (hdE _) p_) (ae_ (al_ (ap_ r_ r_ (as_ (ay_ (al_ (an_ ?_)))))))))))))))
        refine M_ r_ (o_ r_ (bj_ r_ r_ g_ (E_ r_ (ak_ (jq_againS (i := k) (k + 1) hltk g_ ?_ ?_)))))
        · exact bc_ 0 r_ (bc_ 0 r_ sub_end)
        · (repeat (first | exact True.intro | refine ⟨rfl, ?_⟩))
      · have hltk2 : ¬ (k : Int) < (((g.heads).map HdRow).length : Int) := by omega
        refine am_ (R_ (M_ r_ (F_ r_ (L_ 1 r_ (o_ r_ (br_ r_ (fun hlen => o_ r_ (bw_ r_ r_ (T_ (ap_ r_ w_ (av_ (ax_ (ax_ (ba_ (al_ (am_ (R_ ?_)))))))))))))))))
        refine E_ r_ (T_ (au_ (jc_loopS (ι := Nat) [] (fun k => k ≤ (g.blocks).length) (fun k => (8, In .i64 (k : Int)) :: [(2, Ptr b2), (3, Ptr bx)]) (fun k => [.blk bx 28 g.row, .blk b2 28 g.row]) (fun k => (g.blocks).length - k) 0 (Nat.zero_le _) ?_ ?_ ?_)))
        · exact bc_ 0 r_ (bc_ 0 r_ sub_end)
        · (repeat (first | exact True.intro | refine ⟨rfl, ?_⟩))
        rintro k hk
        have eLk : ((g.blocks).map Bk.row).length = (g.blocks).length := List.length_map _
        by_cases hltk : k < (g.blocks).length
        · have hltk2 : (k : Int) < (((g.blocks).map Bk.row).length : Int) := by omega
          refine am_ (R_ (M_ r_ (F_ r_ (L_ 1 r_ (o_ r_ (br_ r_ (fun hlen => o_ r_ (bw_ r_ r_ (T_ (aq_ r_ u_ (as_ (al_ (B_ (am_ (jc_cut (ι := Nat × Nat) [] (fun _ => True) (fun i => [(9, Ptr i.1), (10, Ptr i.2), (8, In .i64 (k : Int)), (2, Ptr b2), (3, Ptr bx)]) (fun i => [.blk i.1 35 (g.blocks[k]).row, .blk i.2 35 (g.blocks[k]).row, .blk bx 28 g.row, .blk b2 28 g.row]) ?_ ?_)))))))))))))))
          · refine jc_hpM2 13 (n := 14) rfl 0 1 k_ rfl rfl (fun cs1 cs2 hcs1 hv1 hcs2 hv2 => ?_)
            obtain ⟨u10, u11, u12, u13, u14, u15, u16, u17, rfl⟩ := len8 hcs1
            obtain ⟨u20, u21, u22, u23, u24, u25, u26, u27, rfl⟩ := len8 hcs2
            obtain rfl := Option.some.inj (hv1 1 _ rfl)
            obtain rfl := Option.some.inj (hv1 2 _ rfl)
            obtain rfl := Option.some.inj (hv1 4 _ rfl)
            obtain rfl := Option.some.inj (hv2 1 _ rfl)
            obtain rfl := Option.some.inj (hv2 2 _ rfl)
            obtain rfl := Option.some.inj (hv2 4 _ rfl)
            refine hp_know 0 rfl mem0 ?_
            dsimp only [List.zipWith, know]
            refine hp_know 1 rfl mem1 ?_
            dsimp only [List.zipWith, know]
            refine hp_pani (by (repeat (first | refine pani_then ?_ | refine pani_block ?_)); exact pani_body) (fun hPan => ?_)
            refine df_ (i := 0) r_ k_ k_ k_ b_ hPan (dl_ r_ r_ r_ b_) (df_ (i := 1) r_ k_ k_ k_ b_ hPan (hok_loadK 0 r_ r_ r_ mem1 r_) (df_ (i := 2) r_ k_ k_ k_ b_ hPan (dk_ r_) (df_ (i := 3) r_ k_ k_ k_ b_ hPan (hok_indexMapE r_ r_ g_ r_ r_ b_) (df_ (i := 5) r_ k_ k_ k_ b_ hPan (dl_ r_ r_ r_ b_) (df_ (i := 6) r_ k_ k_ k_ b_ hPan (hok_loadK 1 r_ r_ r_ mem0 r_) (df_ (i := 7) r_ k_ k_ k_ b_ hPan (dk_ r_) ?_))))))
            refine df_ (i := 8) r_ k_ k_ k_ b_ hPan (hok_indexMapE r_ r_ g_ r_ r_ b_) (hp_br4 (i := 4) (j := 9) (k := 10) (l := 11) rfl rfl rfl rfl k_ rfl ?_ ?_ ?_ ?_)
            refine hs_v (cr_ rfl rfl rfl ⟨?_, ?_⟩)
            exact keepK2 1 0 rfl rfl rfl rfl
            refine hp_br3 (i := 9) (j := 10) (k := 11) rfl rfl rfl k_ rfl ?_ ?_ ?_
            refine hs_v (cr_ rfl rfl rfl ⟨?_, ?_⟩)
            exact keepK2 1 0 rfl rfl rfl rfl
            refine hp_br2 (i := 10) (j := 11) rfl rfl k_ rfl ?_ ?_
            refine hs_v (bl_ rfl rfl (fun b9 => ⟨?_, ?_⟩))
            exact keepK2 2 1 rfl rfl rfl rfl
            refine dg_ (i := 11) rfl k_ b_ (bl_ rfl rfl (fun b9 => ⟨?_, ?_⟩))
            exact keepK2 3 2 rfl rfl rfl rfl
            refine dh_ (i := 12) r_ k_ (bk_ 1 r_ r_ r_ r_ r_ r_ ⟨?_, ?_⟩)
            exact keepK2 3 2 rfl rfl rfl rfl
            refine hp_tail (dj_ (i := 13) rfl k_ (by decide) (bk_ 1 rfl rfl rfl rfl rfl rfl (ht_done k_ ?_)))
            clear hPan
            refine jq_unk [u10, _, _, u13, _, u15, u16, u17] 3 rfl rfl ?_
            dsimp only [List.map, unk]
            refine jq_unk [u20, _, _, u23, _, u25, u26, u27] 3 rfl rfl ?_
            dsimp only [List.map, unk]
            rotate_left
            refine hs_v (bl_ rfl rfl (fun b9 => ⟨?_, ?_⟩))
            exact keepK2 2 1 rfl rfl rfl rfl
            refine dg_ (i := 10) rfl k_ b_ (bl_ rfl rfl (fun b9 => ⟨?_, ?_⟩))
            exact keepK2 3 2 rfl rfl rfl rfl
            refine dh_ (i := 12) r_ k_ (bk_ 0 r_ r_ r_ r_ r_ r_ ⟨?_, ?_⟩)
            exact keepK2 3 2 rfl rfl rfl rfl
            refine hp_tail (dj_ (i := 13) rfl k_ (by decide) (bk_ 1 rfl rfl rfl rfl rfl rfl (ht_done k_ ?_)))
            clear hPan
            refine jq_unk [u10, _, _, u13, _, u15, u16, u17] 3 rfl rfl ?_
            dsimp only [List.map, unk]
            refine jq_unk [u20, _, _, u23, _, u25, u26, u27] 3 rfl rfl ?_
            dsimp only [List.map, unk]
            rotate_left
            refine hs_v (bl_ rfl rfl (fun b9 => ⟨?_, ?_⟩))
            exact keepK2 2 1 rfl rfl rfl rfl
            refine hp_br2 (i := 9) (j := 11) rfl rfl k_ rfl ?_ ?_
            refine hs_v (cr_ rfl rfl rfl ⟨?_, ?_⟩)
            exact keepK2 2 1 rfl rfl rfl rfl
            refine dg_ (i := 11) rfl k_ b_ (bl_ rfl rfl (fun b9 => ⟨?_, ?_⟩))
            exact keepK2 3 2 rfl rfl rfl rfl
            refine dh_ (i := 12) r_ k_ (bk_ 1 r_ r_ r_ r_ r_ r_ ⟨?_, ?_⟩)
            exact keepK2 3 2 rfl rfl rfl rfl
            refine hp_tail (dj_ (i := 13) rfl k_ (by decide) (bk_ 1 rfl rfl rfl rfl rfl rfl (ht_done k_ ?_)))
            clear hPan
            refine jq_unk [u10, _, _, u13, _, u15, u16, u17] 3 rfl rfl ?_
            dsimp only [List.map, unk]
            refine jq_unk [u20, _, _, u23, _, u25, u26, u27] 3 rfl rfl ?_
            dsimp only [List.map, unk]
            rotate_left
            refine hs_v (bl_ rfl rfl (fun b9 => ⟨?_, ?_⟩))
            exact keepK2 3 2 rfl rfl rfl rfl
            refine hp_br2 (i := 9) (j := 12) rfl rfl k_ rfl ?_ ?_
            refine hs_v (cr_ rfl rfl rfl ⟨?_, ?_⟩)
            exact keepK2 3 2 rfl rfl rfl rfl
            refine dh_ (i := 12) r_ k_ (bk_ 1 r_ r_ r_ r_ r_ r_ ⟨?_, ?_⟩)
            exact keepK2 3 2 rfl rfl rfl rfl
            refine hp_tail (dj_ (i := 13) rfl k_ (by decide) (bk_ 1 rfl rfl rfl rfl rfl rfl (ht_done k_ ?_)))
            clear hPan
            refine jq_unk [u10, _, _, u13, _, u15, u16, u17] 3 rfl rfl ?_
            dsimp only [List.map, unk]
            refine jq_unk [u20, _, _, u23, _, u25, u26, u27] 3 rfl rfl ?_
            dsimp only [List.map, unk]
            rotate_left
            refine hs_0 (bk_ 1 rfl rfl rfl rfl rfl rfl ⟨?_, ?_⟩)
            exact keepK2 3 2 rfl rfl rfl rfl
            refine dg_ (i := 9) r_ k_ b_ (cr_ r_ r_ r_ ⟨?_, ?_⟩)
            exact keepK2 3 2 rfl rfl rfl rfl
            refine hp_tail (dj_ (i := 13) rfl k_ (by decide) (bk_ 1 rfl rfl rfl rfl rfl rfl (ht_done k_ ?_)))
            clear hPan
            refine jq_unk [u10, _, _, u13, _, u15, u16, u17] 3 rfl rfl ?_
            dsimp only [List.map, unk]
            refine jq_unk [u20, _, _, u23, _, u25, u26, u27] 3 rfl rfl ?_
            dsimp only [List.map, unk]
            rotate_left
            refine hs_v (bl_ rfl rfl (fun b9 => ⟨?_, ?_⟩))
            exact keepK2 2 1 rfl rfl rfl rfl
            refine hp_br2 (i := 9) (j := 10) rfl rfl k_ rfl ?_ ?_
            refine hs_v (cr_ rfl rfl rfl ⟨?_, ?_⟩)
            exact keepK2 2 1 rfl rfl rfl rfl
            refine dg_ (i := 10) rfl k_ b_ (bl_ rfl rfl (fun b9 => ⟨?_, ?_⟩))
            exact keepK2 3 2 rfl rfl rfl rfl
            refine dh_ (i := 12) r_ k_ (bk_ 0 r_ r_ r_ r_ r_ r_ ⟨?_, ?_⟩)
            exact keepK2 3 2 rfl rfl rfl rfl
            refine hp_tail (dj_ (i := 13) rfl k_ (by decide) (bk_ 1 rfl rfl rfl rfl rfl rfl (ht_done k_ ?_)))
            clear hPan
            refine jq_unk [u10, _, _, u13, _, u15, u16, u17] 3 rfl rfl ?_
            dsimp only [List.map, unk]
            refine jq_unk [u20, _, _, u23, _, u25, u26, u27] 3 rfl rfl ?_
            dsimp only [List.map, unk]
            rotate_left
            refine hs_v (bl_ rfl rfl (fun b9 => ⟨?_, ?_⟩))
            exact keepK2 3 2 rfl rfl rfl rfl
            refine hp_br2 (i := 9) (j := 12) rfl rfl k_ rfl ?_ ?_
            refine hs_v (cr_ rfl rfl rfl ⟨?_, ?_⟩)
            exact keepK2 3 2 rfl rfl rfl rfl
            refine dh_ (i := 12) r_ k_ (bk_ 0 r_ r_ r_ r_ r_ r_ ⟨?_, ?_⟩)
            exact keepK2 3 2 rfl rfl rfl rfl
            refine hp_tail (dj_ (i := 13) rfl k_ (by decide) (bk_ 1 rfl rfl rfl rfl rfl rfl (ht_done k_ ?_)))
            clear hPan
            refine jq_unk [u10, _, _, u13, _, u15, u16, u17] 3 rfl rfl ?_
            dsimp only [List.map, unk]
            refine jq_unk [u20, _, _, u23, _, u25, u26, u27] 3 rfl rfl ?_
            dsimp only [List.map, unk]
            rotate_left
            refine hs_0 (bk_ 0 rfl rfl rfl rfl rfl rfl ⟨?_, ?_⟩)
            exact keepK2 3 2 rfl rfl rfl rfl
            refine dg_ (i := 9) r_ k_ b_ (cr_ r_ r_ r_ ⟨?_, ?_⟩)
            exact keepK2 3 2 rfl rfl rfl rfl
            refine hp_tail (dj_ (i := 13) rfl k_ (by decide) (bk_ 1 rfl rfl rfl rfl rfl rfl (ht_done k_ ?_)))
            clear hPan
            refine jq_unk [u10, _, _, u13, _, u15, u16, u17] 3 rfl rfl ?_
            dsimp only [List.map, unk]
            refine jq_unk [u20, _, _, u23, _, u25, u26, u27] 3 rfl rfl ?_
            dsimp only [List.map, unk]
            rotate_left
            refine hs_v (cr_ rfl rfl rfl ⟨?_, ?_⟩)
            exact keepK2 1 0 rfl rfl rfl rfl
            refine hp_br3 (i := 4) (j := 10) (k := 11) rfl rfl rfl k_ rfl ?_ ?_ ?_
            refine hs_v (cr_ rfl rfl rfl ⟨?_, ?_⟩)
            exact keepK2 1 0 rfl rfl rfl rfl
            refine hp_br2 (i := 10) (j := 11) rfl rfl k_ rfl ?_ ?_
            refine hs_v (bl_ rfl rfl (fun b9 => ⟨?_, ?_⟩))
            exact keepK2 2 1 rfl rfl rfl rfl
            refine dg_ (i := 11) rfl k_ b_ (bl_ rfl rfl (fun b9 => ⟨?_, ?_⟩))
            exact keepK2 3 2 rfl rfl rfl rfl
            refine dh_ (i := 12) r_ k_ (bk_ 1 r_ r_ r_ r_ r_ r_ ⟨?_, ?_⟩)
            exact keepK2 3 2 rfl rfl rfl rfl
            refine hp_tail (dj_ (i := 13) rfl k_ (by decide) (bk_ 1 rfl rfl rfl rfl rfl rfl (ht_done k_ ?_)))
            clear hPan
            refine jq_unk [u10, _, _, u13, _, u15, u16, u17] 3 rfl rfl ?_
            dsimp only [List.map, unk]
            refine jq_unk [u20, _, _, u23, _, u25, u26, u27] 3 rfl rfl ?_
            dsimp only [List.map, unk]
            rotate_left
            refine hs_v (bl_ rfl rfl (fun b9 => ⟨?_, ?_⟩))
            exact keepK2 2 1 rfl rfl rfl rfl
            refine dg_ (i := 10) rfl k_ b_ (bl_ rfl rfl (fun b9 => ⟨?_, ?_⟩))
            exact keepK2 3 2 rfl rfl rfl rfl
            refine dh_ (i := 12) r_ k_ (bk_ 0 r_ r_ r_ r_ r_ r_ ⟨?_, ?_⟩)
            exact keepK2 3 2 rfl rfl rfl rfl
            refine hp_tail (dj_ (i := 13) rfl k_ (by decide) (bk_ 1 rfl rfl rfl rfl rfl rfl (ht_done k_ ?_)))
            clear hPan
            refine jq_unk [u10, _, _, u13, _, u15, u16, u17] 3 rfl rfl ?_
            dsimp only [List.map, unk]
            refine jq_unk [u20, _, _, u23, _, u25, u26, u27] 3 rfl rfl ?_
            dsimp only [List.map, unk]
            rotate_left
            refine hs_v (bl_ rfl rfl (fun b9 => ⟨?_, ?_⟩))
            exact keepK2 2 1 rfl rfl rfl rfl
            refine hp_br2 (i := 4) (j := 11) rfl rfl k_ rfl ?_ ?_
            refine hs_v (cr_ rfl rfl rfl ⟨?_, ?_⟩)
            exact keepK2 2 1 rfl rfl rfl rfl
            refine dg_ (i := 11) rfl k_ b_ (bl_ rfl rfl (fun b9 => ⟨?_, ?_⟩))
            exact keepK2 3 2 rfl rfl rfl rfl
            refine dh_ (i := 12) r_ k_ (bk_ 1 r_ r_ r_ r_ r_ r_ ⟨?_, ?_⟩)
            exact keepK2 3 2 rfl rfl rfl rfl
            refine hp_tail (dj_ (i := 13) rfl k_ (by decide) (bk_ 1 rfl rfl rfl rfl rfl rfl (ht_done k_ ?_)))
            clear hPan
            refine jq_unk [u10, _, _, u13, _, u15, u16, u17] 3 rfl rfl ?_
            dsimp only [List.map, unk]
            refine jq_unk [u20, _, _, u23, _, u25, u26, u27] 3 rfl rfl ?_
            dsimp only [List.map, unk]
            rotate_left
            refine hs_v (bl_ rfl rfl (fun b9 => ⟨?_, ?_⟩))
            exact keepK2 3 2 rfl rfl rfl rfl
            refine dg_ (i := 4) r_ k_ b_ (cr_ r_ r_ r_ ⟨?_, ?_⟩)
            exact keepK2 3 2 rfl rfl rfl rfl
            refine dh_ (i := 12) r_ k_ (bk_ 1 r_ r_ r_ r_ r_ r_ ⟨?_, ?_⟩)
            exact keepK2 3 2 rfl rfl rfl rfl
            refine hp_tail (dj_ (i := 13) rfl k_ (by decide) (bk_ 1 rfl rfl rfl rfl rfl rfl (ht_done k_ ?_)))
            clear hPan
            refine jq_unk [u10, _, _, u13, _, u15, u16, u17] 3 rfl rfl ?_
            dsimp only [List.map, unk]
            refine jq_unk [u20, _, _, u23, _, u25, u26, u27] 3 rfl rfl ?_
            dsimp only [List.map, unk]
            rotate_left
            refine hs_v (bl_ rfl rfl (fun b9 => ⟨?_, ?_⟩))
            exact keepK2 2 1 rfl rfl rfl rfl
            refine hp_br2 (i := 4) (j := 10) rfl rfl k_ rfl ?_ ?_
            refine hs_v (cr_ rfl rfl rfl ⟨?_, ?_⟩)
            exact keepK2 2 1 rfl rfl rfl rfl
            refine dg_ (i := 10) rfl k_ b_ (bl_ rfl rfl (fun b9 => ⟨?_, ?_⟩))
            exact keepK2 3 2 rfl rfl rfl rfl
            refine dh_ (i := 12) r_ k_ (bk_ 0 r_ r_ r_ r_ r_ r_ ⟨?_, ?_⟩)
            exact keepK2 3 2 rfl rfl rfl rfl
            refine hp_tail (dj_ (i := 13) rfl k_ (by decide) (bk_ 1 rfl rfl rfl rfl rfl rfl (ht_done k_ ?_)))
            clear hPan
            refine jq_unk [u10, _, _, u13, _, u15, u16, u17] 3 rfl rfl ?_
            dsimp only [List.map, unk]
            refine jq_unk [u20, _, _, u23, _, u25, u26, u27] 3 rfl rfl ?_
            dsimp only [List.map, unk]
            rotate_left
            refine hs_v (bl_ rfl rfl (fun b9 => ⟨?_, ?_⟩))
            exact keepK2 3 2 rfl rfl rfl rfl
            refine dg_ (i := 4) r_ k_ b_ (cr_ r_ r_ r_ ⟨?_, ?_⟩)
            exact keepK2 3 2 rfl rfl rfl rfl
            refine dh_ (i := 12) r_ k_ (bk_ 0 r_ r_ r_ r_ r_ r_ ⟨?_, ?_⟩)
            exact keepK2 3 2 rfl rfl rfl rfl
            refine hp_tail (dj_ (i := 13) rfl k_ (by decide) (bk_ 1 rfl rfl rfl rfl rfl rfl (ht_done k_ ?_)))
            clear hPan
            refine jq_unk [u10, _, _, u13, _, u15, u16, u17] 3 rfl rfl ?_
            dsimp only [List.map, unk]
            refine jq_unk [u20, _, _, u23, _, u25, u26, u27] 3 rfl rfl ?_
            dsimp only [List.map, unk]
            rotate_left
            refine hs_v (bl_ rfl rfl (fun b9 => ⟨?_, ?_⟩))
            exact keepK2 2 1 rfl rfl rfl rfl
            refine hp_br3 (i := 4) (j := 9) (k := 11) rfl rfl rfl k_ rfl ?_ ?_ ?_
            refine hs_v (cr_ rfl rfl rfl ⟨?_, ?_⟩)
            exact keepK2 2 1 rfl rfl rfl rfl
            refine hp_br2 (i := 9) (j := 11) rfl rfl k_ rfl ?_ ?_
            refine hs_v (cr_ rfl rfl rfl ⟨?_, ?_⟩)
            exact keepK2 2 1 rfl rfl rfl rfl
            refine dg_ (i := 11) rfl k_ b_ (bl_ rfl rfl (fun b9 => ⟨?_, ?_⟩))
            exact keepK2 3 2 rfl rfl rfl rfl
            refine dh_ (i := 12) r_ k_ (bk_ 1 r_ r_ r_ r_ r_ r_ ⟨?_, ?_⟩)
            exact keepK2 3 2 rfl rfl rfl rfl
            refine hp_tail (dj_ (i := 13) rfl k_ (by decide) (bk_ 1 rfl rfl rfl rfl rfl rfl (ht_done k_ ?_)))
            clear hPan
            refine jq_unk [u10, _, _, u13, _, u15, u16, u17] 3 rfl rfl ?_
            dsimp only [List.map, unk]
            refine jq_unk [u20, _, _, u23, _, u25, u26, u27] 3 rfl rfl ?_
            dsimp only [List.map, unk]
            rotate_left
            refine hs_v (bl_ rfl rfl (fun b9 => ⟨?_, ?_⟩))
            exact keepK2 3 2 rfl rfl rfl rfl
            refine hp_br2 (i := 9) (j := 12) rfl rfl k_ rfl ?_ ?_
            refine hs_v (cr_ rfl rfl rfl ⟨?_, ?_⟩)
            exact keepK2 3 2 rfl rfl rfl rfl
            refine dh_ (i := 12) r_ k_ (bk_ 1 r_ r_ r_ r_ r_ r_ ⟨?_, ?_⟩)
            exact keepK2 3 2 rfl rfl rfl rfl
            refine hp_tail (dj_ (i := 13) rfl k_ (by decide) (bk_ 1 rfl rfl rfl rfl rfl rfl (ht_done k_ ?_)))
            clear hPan
            refine jq_unk [u10, _, _, u13, _, u15, u16, u17] 3 rfl rfl ?_
            dsimp only [List.map, unk]
            refine jq_unk [u20, _, _, u23, _, u25, u26, u27] 3 rfl rfl ?_
            dsimp only [List.map, unk]
            rotate_left
            refine hs_0 (bk_ 1 rfl rfl rfl rfl rfl rfl ⟨?_, ?_⟩)
            exact keepK2 3 2 rfl rfl rfl rfl
            refine dg_ (i := 9) r_ k_ b_ (cr_ r_ r_ r_ ⟨?_, ?_⟩)
            exact keepK2 3 2 rfl rfl rfl rfl
            refine hp_tail (dj_ (i := 13) rfl k_ (by decide) (bk_ 1 rfl rfl rfl rfl rfl rfl (ht_done k_ ?_)))
            clear hPan
            refine jq_unk [u10, _, _, u13, _, u15, u16, u17] 3 rfl rfl ?_
            dsimp only [List.map, unk]
            refine jq_unk [u20, _, _, u23, _, u25, u26, u27] 3 rfl rfl ?_
            dsimp only [List.map, unk]
            rotate_left
            refine hs_v (cr_ rfl rfl rfl ⟨?_, ?_⟩)
            exact keepK2 2 1 rfl rfl rfl rfl
            refine hp_br2 (i := 4) (j := 11) rfl rfl k_ rfl ?_ ?_
            refine hs_v (cr_ rfl rfl rfl ⟨?_, ?_⟩)
            exact keepK2 2 1 rfl rfl rfl rfl
            refine dg_ (i := 11) rfl k_ b_ (bl_ rfl rfl (fun b9 => ⟨?_, ?_⟩))
            exact keepK2 3 2 rfl rfl rfl rfl
            refine dh_ (i := 12) r_ k_ (bk_ 1 r_ r_ r_ r_ r_ r_ ⟨?_, ?_⟩)
            exact keepK2 3 2 rfl rfl rfl rfl
            refine hp_tail (dj_ (i := 13) rfl k_ (by decide) (bk_ 1 rfl rfl rfl rfl rfl rfl (ht_done k_ ?_)))
            clear hPan
            refine jq_unk [u10, _, _, u13, _, u15, u16, u17] 3 rfl rfl ?_
            dsimp only [List.map, unk]
            refine jq_unk [u20, _, _, u23, _, u25, u26, u27] 3 rfl rfl ?_
            dsimp only [List.map, unk]
            rotate_left
            refine hs_v (bl_ rfl rfl (fun b9 => ⟨?_, ?_⟩))
            exact keepK2 3 2 rfl rfl rfl rfl
            refine dg_ (i := 4) r_ k_ b_ (cr_ r_ r_ r_ ⟨?_, ?_⟩)
            exact keepK2 3 2 rfl rfl rfl rfl
            refine dh_ (i := 12) r_ k_ (bk_ 1 r_ r_ r_ r_ r_ r_ ⟨?_, ?_⟩)
            exact keepK2 3 2 rfl rfl rfl rfl
            refine hp_tail (dj_ (i := 13) rfl k_ (by decide) (bk_ 1 rfl rfl rfl rfl rfl rfl (ht_done k_ ?_)))
            clear hPan
            refine jq_unk [u10, _, _, u13, _, u15, u16, u17] 3 rfl rfl ?_
            dsimp only [List.map, unk]
            refine jq_unk [u20, _, _, u23, _, u25, u26, u27] 3 rfl rfl ?_
            dsimp only [List.map, unk]
            rotate_left
            refine hs_v (bl_ rfl rfl (fun b9 => ⟨?_, ?_⟩))
            exact keepK2 3 2 rfl rfl rfl rfl
            refine hp_br2 (i := 4) (j := 9) rfl rfl k_ rfl ?_ ?_
            refine hs_v (cr_ rfl rfl rfl ⟨?_, ?_⟩)
            exact keepK2 3 2 rfl rfl rfl rfl
            refine hp_br2 (i := 9) (j := 12) rfl rfl k_ rfl ?_ ?_
            refine hs_v (cr_ rfl rfl rfl ⟨?_, ?_⟩)
            exact keepK2 3 2 rfl rfl rfl rfl
            refine dh_ (i := 12) r_ k_ (bk_ 1 r_ r_ r_ r_ r_ r_ ⟨?_, ?_⟩)
            exact keepK2 3 2 rfl rfl rfl rfl
            refine hp_tail (dj_ (i := 13) rfl k_ (by decide) (bk_ 1 rfl rfl rfl rfl rfl rfl (ht_done k_ ?_)))
            clear hPan
            refine jq_unk [u10, _, _, u13, _, u15, u16, u17] 3 rfl rfl ?_
            dsimp only [List.map, unk]
            refine jq_unk [u20, _, _, u23, _, u25, u26, u27] 3 rfl rfl ?_
            dsimp only [List.map, unk]
            rotate_left
            refine hs_0 (bk_ 1 rfl rfl rfl rfl rfl rfl ⟨?_, ?_⟩)
            exact keepK2 3 2 rfl rfl rfl rfl
            refine dg_ (i := 9) r_ k_ b_ (cr_ r_ r_ r_ ⟨?_, ?_⟩)
            exact keepK2 3 2 rfl rfl rfl rfl
            refine hp_tail (dj_ (i := 13) rfl k_ (by decide) (bk_ 1 rfl rfl rfl rfl rfl rfl (ht_done k_ ?_)))
            clear hPan
            refine jq_unk [u10, _, _, u13, _, u15, u16, u17] 3 rfl rfl ?_
            dsimp only [List.map, unk]
            refine jq_unk [u20, _, _, u23, _, u25, u26, u27] 3 rfl rfl ?_
            dsimp only [List.map, unk]
            rotate_left
            refine hs_v (cr_ rfl rfl rfl ⟨?_, ?_⟩)
            exact keepK2 3 2 rfl rfl rfl rfl
            refine dg_ (i := 4) r_ k_ b_ (cr_ r_ r_ r_ ⟨?_, ?_⟩)
            exact keepK2 3 2 rfl rfl rfl rfl
            refine dh_ (i := 12) r_ k_ (bk_ 1 r_ r_ r_ r_ r_ r_ ⟨?_, ?_⟩)
            exact keepK2 3 2 rfl rfl rfl rfl
            refine hp_tail (dj_ (i := 13) rfl k_ (by decide) (bk_ 1 rfl rfl rfl rfl rfl rfl (ht_done k_ ?_)))
            clear hPan
            refine jq_unk [u10, _, _, u13, _, u15, u16, u17] 3 rfl rfl ?_
            dsimp only [List.map, unk]
            refine jq_unk [u20, _, _, u23, _, u25, u26, u27] 3 rfl rfl ?_
            dsimp only [List.map, unk]
            rotate_left
            refine hs_v (bl_ rfl rfl (fun b9 => ⟨?_, ?_⟩))
            exact keepK2 2 1 rfl rfl rfl rfl
            refine hp_br3 (i := 4) (j := 9) (k := 10) rfl rfl rfl k_ rfl ?_ ?_ ?_
            refine hs_v (cr_ rfl rfl rfl ⟨?_, ?_⟩)
            exact keepK2 2 1 rfl rfl rfl rfl
            refine hp_br2 (i := 9) (j := 10) rfl rfl k_ rfl ?_ ?_
            refine hs_v (cr_ rfl rfl rfl ⟨?_, ?_⟩)
            exact keepK2 2 1 rfl rfl rfl rfl
            refine dg_ (i := 10) rfl k_ b_ (bl_ rfl rfl (fun b9 => ⟨?_, ?_⟩))
            exact keepK2 3 2 rfl rfl rfl rfl
            refine dh_ (i := 12) r_ k_ (bk_ 0 r_ r_ r_ r_ r_ r_ ⟨?_, ?_⟩)
            exact keepK2 3 2 rfl rfl rfl rfl
            refine hp_tail (dj_ (i := 13) rfl k_ (by decide) (bk_ 1 rfl rfl rfl rfl rfl rfl (ht_done k_ ?_)))
            clear hPan
            refine jq_unk [u10, _, _, u13, _, u15, u16, u17] 3 rfl rfl ?_
            dsimp only [List.map, unk]
            refine jq_unk [u20, _, _, u23, _, u25, u26, u27] 3 rfl rfl ?_
            dsimp only [List.map, unk]
            rotate_left
            refine hs_v (bl_ rfl rfl (fun b9 => ⟨?_, ?_⟩))
            exact keepK2 3 2 rfl rfl rfl rfl
            refine hp_br2 (i := 9) (j := 12) rfl rfl k_ rfl ?_ ?_
            refine hs_v (cr_ rfl rfl rfl ⟨?_, ?_⟩)
            exact keepK2 3 2 rfl rfl rfl rfl
            refine dh_ (i := 12) r_ k_ (bk_ 0 r_ r_ r_ r_ r_ r_ ⟨?_, ?_⟩)
            exact keepK2 3 2 rfl rfl rfl rfl
            refine hp_tail (dj_ (i := 13) rfl k_ (by decide) (bk_ 1 rfl rfl rfl rfl rfl rfl (ht_done k_ ?_)))
            clear hPan
            refine jq_unk [u10, _, _, u13, _, u15, u16, u17] 3 rfl rfl ?_
            dsimp only [List.map, unk]
            refine jq_unk [u20, _, _, u23, _, u25, u26, u27] 3 rfl rfl ?_
            dsimp only [List.map, unk]
            rotate_left
            refine hs_0 (bk_ 0 rfl rfl rfl rfl rfl rfl ⟨?_, ?_⟩)
            exact keepK2 3 2 rfl rfl rfl rfl
            refine dg_ (i := 9) r_ k_ b_ (cr_ r_ r_ r_ ⟨?_, ?_⟩)
            exact keepK2 3 2 rfl rfl rfl rfl
            refine hp_tail (dj_ (i := 13) rfl k_ (by decide) (bk_ 1 rfl rfl rfl rfl rfl rfl (ht_done k_ ?_)))
            clear hPan
            refine jq_unk [u10, _, _, u13, _, u15, u16, u17] 3 rfl rfl ?_
            dsimp only [List.map, unk]
            refine jq_unk [u20, _, _, u23, _, u25, u26, u27] 3 rfl rfl ?_
            dsimp only [List.map, unk]
            rotate_left
            refine hs_v (cr_ rfl rfl rfl ⟨?_, ?_⟩)
            exact keepK2 2 1 rfl rfl rfl rfl
            refine hp_br2 (i := 4) (j := 10) rfl rfl k_ rfl ?_ ?_
            refine hs_v (cr_ rfl rfl rfl ⟨?_, ?_⟩)
            exact keepK2 2 1 rfl rfl rfl rfl
            refine dg_ (i := 10) rfl k_ b_ (bl_ rfl rfl (fun b9 => ⟨?_, ?_⟩))
            exact keepK2 3 2 rfl rfl rfl rfl
            refine dh_ (i := 12) r_ k_ (bk_ 0 r_ r_ r_ r_ r_ r_ ⟨?_, ?_⟩)
            exact keepK2 3 2 rfl rfl rfl rfl
            refine hp_tail (dj_ (i := 13) rfl k_ (by decide) (bk_ 1 rfl rfl rfl rfl rfl rfl (ht_done k_ ?_)))
            clear hPan
            refine jq_unk [u10, _, _, u13, _, u15, u16, u17] 3 rfl rfl ?_
            dsimp only [List.map, unk]
            refine jq_unk [u20, _, _, u23, _, u25, u26, u27] 3 rfl rfl ?_
            dsimp only [List.map, unk]
            rotate_left
            refine hs_v (bl_ rfl rfl (fun b9 => ⟨?_, ?_⟩))
            exact keepK2 3 2 rfl rfl rfl rfl
            refine dg_ (i := 4) r_ k_ b_ (cr_ r_ r_ r_ ⟨?_, ?_⟩)
            exact keepK2 3 2 rfl rfl rfl rfl
            refine dh_ (i := 12) r_ k_ (bk_ 0 r_ r_ r_ r_ r_ r_ ⟨?_, ?_⟩)
            exact keepK2 3 2 rfl rfl rfl rfl
            refine hp_tail (dj_ (i := 13) rfl k_ (by decide) (bk_ 1 rfl rfl rfl rfl rfl rfl (ht_done k_ ?_)))
            clear hPan
            refine jq_unk [u10, _, _, u13, _, u15, u16, u17] 3 rfl rfl ?_
            dsimp only [List.map, unk]
            refine jq_unk [u20, _, _, u23, _, u25, u26, u27] 3 rfl rfl ?_
            dsimp only [List.map, unk]
            rotate_left
            refine hs_v (bl_ rfl rfl (fun b9 => ⟨?_, ?_⟩))
            exact keepK2 3 2 rfl rfl rfl rfl
            refine hp_br2 (i := 4) (j := 9) rfl rfl k_ rfl ?_ ?_
            refine hs_v (cr_ rfl rfl rfl ⟨?_, ?_⟩)
            exact keepK2 3 2 rfl rfl rfl rfl
            refine hp_br2 (i := 9) (j := 12) rfl rfl k_ rfl ?_ ?_
            refine hs_v (cr_ rfl rfl rfl ⟨?_, ?_⟩)
            exact keepK2 3 2 rfl rfl rfl rfl
            refine dh_ (i := 12) r_ k_ (bk_ 0 r_ r_ r_ r_ r_ r_ ⟨?_, ?_⟩)
            exact keepK2 3 2 rfl rfl rfl rfl
            refine hp_tail (dj_ (i := 13) rfl k_ (by decide) (bk_ 1 rfl rfl rfl rfl rfl rfl (ht_done k_ ?_)))
            clear hPan
            refine jq_unk [u10, _, _, u13, _, u15, u16, u17] 3 rfl rfl ?_
            dsimp only [List.map, unk]
            refine jq_unk [u20, _, _, u23, _, u25, u26, u27] 3 rfl rfl ?_
            dsimp only [List.map, unk]
            rotate_left
            refine hs_0 (bk_ 0 rfl rfl rfl rfl rfl rfl ⟨?_, ?_⟩)
            exact keepK2 3 2 rfl rfl rfl rfl
            refine dg_ (i := 9) r_ k_ b_ (cr_ r_ r_ r_ ⟨?_, ?_⟩)
            exact keepK2 3 2 rfl rfl rfl rfl
            refine hp_tail (dj_ (i := 13) rfl k_ (by decide) (bk_ 1 rfl rfl rfl rfl rfl rfl (ht_done k_ ?_)))
            clear hPan
            refine jq_unk [u10, _, _, u13, _, u15, u16, u17] 3 rfl rfl ?_
            dsimp only [List.map, unk]
            refine jq_unk [u20, _, _, u23, _, u25, u26, u27] 3 rfl rfl ?_
            dsimp only [List.map, unk]
            rotate_left
            refine hs_v (cr_ rfl rfl rfl ⟨?_, ?_⟩)
            exact keepK2 3 2 rfl rfl rfl rfl
            refine dg_ (i := 4) r_ k_ b_ (cr_ r_ r_ r_ ⟨?_, ?_⟩)
            exact keepK2 3 2 rfl rfl rfl rfl
            refine dh_ (i := 12) r_ k_ (bk_ 0 r_ r_ r_ r_ r_ r_ ⟨?_, ?_⟩)
            exact keepK2 3 2 rfl rfl rfl rfl
            refine hp_tail (dj_ (i := 13) rfl k_ (by decide) (bk_ 1 rfl rfl rfl rfl rfl rfl (ht_done k_ ?_)))
            clear hPan
            refine jq_unk [u10, _, _, u13, _, u15, u16, u17] 3 rfl rfl ?_
            dsimp only [List.map, unk]
            refine jq_unk [u20, _, _, u23, _, u25, u26, u27] 3 rfl rfl ?_
            dsimp only [List.map, unk]
            rotate_left
            · rename_i bA
              skip
              refine jq_cutS (bA, b9) trivial ?_ ?_
              · exact bc_ 3 r_ (bc_ 2 r_ (bc_ 1 r_ (bc_ 0 r_ sub_end)))
              · (repeat (first | exact True.intro | refine ⟨rfl, ?_⟩))
            · rename_i bA
              skip
              refine jq_cutS (b9, bA) trivial ?_ ?_
              · exact bc_ 3 r_ (bc_ 2 r_ (bc_ 1 r_ (bc_ 0 r_ sub_end)))
              · (repeat (first | exact True.intro | refine ⟨rfl, ?_⟩))
            · rename_i bA
              skip
              refine jq_cutS (bA, b9) trivial ?_ ?_
              · exact bc_ 3 r_ (bc_ 2 r_ (bc_ 1 r_ (bc_ 0 r_ sub_end)))
              · (repeat (first | exact True.intro | refine ⟨rfl, ?_⟩))
            · rename_i bA
              skip
              refine jq_cutS (bA, b9) trivial ?_ ?_
              · exact bc_ 3 r_ (bc_ 2 r_ (bc_ 1 r_ (bc_ 0 r_ sub_end)))
              · (repeat (first | exact True.intro | refine ⟨rfl, ?_⟩))
            · rename_i bA
              skip
              refine jq_cutS (bA, b9) trivial ?_ ?_
              · exact bc_ 3 r_ (bc_ 2 r_ (bc_ 1 r_ (bc_ 0 r_ sub_end)))
              · (repeat (first | exact True.intro | refine ⟨rfl, ?_⟩))
            · rename_i bA
              skip
              refine jq_cutS (b9, bA) trivial ?_ ?_
              · exact bc_ 3 r_ (bc_ 2 r_ (bc_ 1 r_ (bc_ 0 r_ sub_end)))
              · (repeat (first | exact True.intro | refine ⟨rfl, ?_⟩))
            · rename_i bA
              skip
              refine jq_cutS (b9, bA) trivial ?_ ?_
              · exact bc_ 3 r_ (bc_ 2 r_ (bc_ 1 r_ (bc_ 0 r_ sub_end)))
              · (repeat (first | exact True.intro | refine ⟨rfl, ?_⟩))
            · rename_i bA
              skip
              refine jq_cutS (b9, bA) trivial ?_ ?_
              · exact bc_ 3 r_ (bc_ 2 r_ (bc_ 1 r_ (bc_ 0 r_ sub_end)))
              · (repeat (first | exact True.intro | refine ⟨rfl, ?_⟩))
            · rename_i bA
              skip
              refine jq_cutS (bA, b9) trivial ?_ ?_
              · exact bc_ 3 r_ (bc_ 2 r_ (bc_ 1 r_ (bc_ 0 r_ sub_end)))
              · (repeat (first | exact True.intro | refine ⟨rfl, ?_⟩))
            · rename_i bA
              skip
              refine jq_cutS (b9, bA) trivial ?_ ?_
              · exact bc_ 3 r_ (bc_ 2 r_ (bc_ 1 r_ (bc_ 0 r_ sub_end)))
              · (repeat (first | exact True.intro | refine ⟨rfl, ?_⟩))
            · rename_i bA
              skip
              refine jq_cutS (bA, b9) trivial ?_ ?_
              · exact bc_ 3 r_ (bc_ 2 r_ (bc_ 1 r_ (bc_ 0 r_ sub_end)))
              · (repeat (first | exact True.intro | refine ⟨rfl, ?_⟩))
            · rename_i bA
              skip
              refine jq_cutS (bA, b9) trivial ?_ ?_
              · exact bc_ 3 r_ (bc_ 2 r_ (bc_ 1 r_ (bc_ 0 r_ sub_end)))
              · (repeat (first | exact True.intro | refine ⟨rfl, ?_⟩))
            · rename_i bA
              skip
              refine jq_cutS (b9, bA) trivial ?_ ?_
              · exact bc_ 3 r_ (bc_ 2 r_ (bc_ 1 r_ (bc_ 0 r_ sub_end)))
              · (repeat (first | exact True.intro | refine ⟨rfl, ?_⟩))
            · rename_i bA
              skip
              refine jq_cutS (b9, bA) trivial ?_ ?_
              · exact bc_ 3 r_ (bc_ 2 r_ (bc_ 1 r_ (bc_ 0 r_ sub_end)))
              · (repeat (first | exact True.intro | refine ⟨rfl, ?_⟩))
            · rename_i bA
              skip
              refine jq_cutS (bA, b9) trivial ?_ ?_
              · exact bc_ 3 r_ (bc_ 2 r_ (bc_ 1 r_ (bc_ 0 r_ sub_end)))
              · (repeat (first | exact True.intro | refine ⟨rfl, ?_⟩))
            · rename_i bA
              skip
              refine jq_cutS (bA, b9) trivial ?_ ?_
              · exact bc_ 3 r_ (bc_ 2 r_ (bc_ 1 r_ (bc_ 0 r_ sub_end)))
              · (repeat (first | exact True.intro | refine ⟨rfl, ?_⟩))
            · rename_i bA
              skip
              refine jq_cutS (bA, b9) trivial ?_ ?_
              · exact bc_ 3 r_ (bc_ 2 r_ (bc_ 1 r_ (bc_ 0 r_ sub_end)))
              · (repeat (first | exact True.intro | refine ⟨rfl, ?_⟩))
            · rename_i bA
              skip
              refine jq_cutS (bA, b9) trivial ?_ ?_
              · exact bc_ 3 r_ (bc_ 2 r_ (bc_ 1 r_ (bc_ 0 r_ sub_end)))
              · (repeat (first | exact True.intro | refine ⟨rfl, ?_⟩))
            · rename_i bA
              skip
              refine jq_cutS (bA, b9) trivial ?_ ?_
              · exact bc_ 3 r_ (bc_ 2 r_ (bc_ 1 r_ (bc_ 0 r_ sub_end)))
              · (repeat (first | exact True.intro | refine ⟨rfl, ?_⟩))
            · rename_i bA
              skip
              refine jq_cutS (bA, b9) trivial ?_ ?_
              · exact bc_ 3 r_ (bc_ 2 r_ (bc_ 1 r_ (bc_ 0 r_ sub_end)))
              · (repeat (first | exact True.intro | refine ⟨rfl, ?_⟩))
            · rename_i bA
              skip
              refine jq_cutS (bA, b9) trivial ?_ ?_
              · exact bc_ 3 r_ (bc_ 2 r_ (bc_ 1 r_ (bc_ 0 r_ sub_end)))
              · (repeat (first | exact True.intro | refine ⟨rfl, ?_⟩))
            · rename_i bA
              skip
              refine jq_cutS (bA, b9) trivial ?_ ?_
              · exact bc_ 3 r_ (bc_ 2 r_ (bc_ 1 r_ (bc_ 0 r_ sub_end)))
              · (repeat (first | exact True.intro | refine ⟨rfl, ?_⟩))
            · rename_i bA
              skip
              refine jq_cutS (b9, bA) trivial ?_ ?_
              · exact bc_ 3 r_ (bc_ 2 r_ (bc_ 1 r_ (bc_ 0 r_ sub_end)))
              · (repeat (first | exact True.intro | refine ⟨rfl, ?_⟩))
            · rename_i bA
              skip
              refine jq_cutS (b9, bA) trivial ?_ ?_
              · exact bc_ 3 r_ (bc_ 2 r_ (bc_ 1 r_ (bc_ 0 r_ sub_end)))
              · (repeat (first | exact True.intro | refine ⟨rfl, ?_⟩))
            · rename_i bA
              skip
              refine jq_cutS (b9, bA) trivial ?_ ?_
              · exact bc_ 3 r_ (bc_ 2 r_ (bc_ 1 r_ (bc_ 0 r_ sub_end)))
              · (repeat (first | exact True.intro | refine ⟨rfl, ?_⟩))
            · rename_i bA
              skip
              refine jq_cutS (b9, bA) trivial ?_ ?_
              · exact bc_ 3 r_ (bc_ 2 r_ (bc_ 1 r_ (bc_ 0 r_ sub_end)))
              · (repeat (first | exact True.intro | refine ⟨rfl, ?_⟩))
            · rename_i bA
              skip
              refine jq_cutS (b9, bA) trivial ?_ ?_
              · exact bc_ 3 r_ (bc_ 2 r_ (bc_ 1 r_ (bc_ 0 r_ sub_end)))
              · (repeat (first | exact True.intro | refine ⟨rfl, ?_⟩))
            · rename_i bA
              skip
              refine jq_cutS (b9, bA) trivial ?_ ?_
              · exact bc_ 3 r_ (bc_ 2 r_ (bc_ 1 r_ (bc_ 0 r_ sub_end)))
              · (repeat (first | exact True.intro | refine ⟨rfl, ?_⟩))
            · rename_i bA
              skip
              refine jq_cutS (b9, bA) trivial ?_ ?_
              · exact bc_ 3 r_ (bc_ 2 r_ (bc_ 1 r_ (bc_ 0 r_ sub_end)))
              · (repeat (first | exact True.intro | refine ⟨rfl, ?_⟩))
            · rename_i bA
              skip
              refine jq_cutS (b9, bA) trivial ?_ ?_
              · exact bc_ 3 r_ (bc_ 2 r_ (bc_ 1 r_ (bc_ 0 r_ sub_end)))
              · (repeat (first | exact True.intro | refine ⟨rfl, ?_⟩))
          rintro ⟨b9, b10⟩ _
          dsimp only
          have d1 : ¬ (g.blocks[k]).cond ≠ (g.blocks[k]).cond := fun h => h rfl
          have d2 : ¬ (((g.blocks[k]).ops.map Opx.row).length : Int) ≠ (((g.blocks[k]).ops.map Opx.row).length : Int) := fun h => h rfl
          have hNx := sameInts_self (g.blocks[k]).next
          refine am_ (R_ (F_ r_ (L_ 0 r_ (F_ r_ (L_ 1 r_ (o_ r_ (bx_ r_ r_ (M_ r_ (ah_ r_ w_ b_ (bf_ r_ r_ r_ b_ (ah_ r_ w_ b_ (bg_ 0 r_ r_ r_ r_ (ah_ r_ w_ b_ (br_ r_ (fun hlen => ah_ r_ w_ b_ (bf_ r_ r_ r_ b_ (ah_ r_ w_ b_ (bg_ 1 r_ r_ r_ r_ (ah_ r_ w_ b_ (br_ r_ (fun hlen => ah_ r_ w_ b_ (bx_ r_ r_ (o_ r_ (bv_ r_ w_ r_ ?_))))))))))))))))))))))))
          refine M_ r_ (ah_ r_ w_ b_ (bf_ r_ r_ r_ b_ (ah_ r_ w_ b_ (bg_ 0 r_ r_ r_ r_ (ah_ r_ w_ b_ (bf_ r_ r_ r_ b_ (ah_ r_ w_ b_ (bg_ 1 r_ r_ r_ r_ (ah_ r_ w_ b_ (bm_ r_ (hNx) (ah_ r_ w_ b_ (cd_ r_ (o_ r_ (bv_ r_ w_ r_ (T_ (ap_ r_ r_ (as_ (al_ (R_ (E_ r_ (T_ (au_ ?_))))))))))))))))))))))
          refine jc_loopS (ι := Nat) [] (fun j => j ≤ ((g.blocks[k]).ops).length) (fun j => (11, In .i64 (j : Int)) :: [(9, Ptr b9), (10, Ptr b10), (8, In .i64 (k : Int)), (2, Ptr b2), (3, Ptr bx)]) (fun j => [.blk b9 35 (g.blocks[k]).row, .blk b10 35 (g.blocks[k]).row, .blk bx 28 g.row, .blk b2 28 g.row]) (fun j => ((g.blocks[k]).ops).length - j) 0 (Nat.zero_le _) ?_ ?_ ?_
          · exact bc_ 0 r_ (bc_ 0 r_ (bc_ 0 r_ (bc_ 0 r_ sub_end)))
          · (repeat (first | exact True.intro | refine ⟨rfl, ?_⟩))
          rintro j hj
          have eLj : (((g.blocks[k]).ops).map Opx.row).length = ((g.blocks[k]).ops).length := List.length_map _
          by_cases hltj : j < ((g.blocks[k]).ops).length
          · have hltj2 : (j : Int) < ((((g.blocks[k]).ops).map Opx.row).length : Int) := by omega
            refine am_ (R_ (M_ r_ (F_ r_ (L_ 0 r_ (o_ r_ (br_ r_ (fun hlen => o_ r_ (bw_ r_ r_ (T_ (aq_ r_ u_ (as_ (al_ (B_ (am_ (ao_ r_ r_ k_ k_ (yF_ r_ (yL_ 0 r_ ?_)))))))))))))))))
            refine yM_ r_ (aa_ (fun c => cc_ r_ r_ g_ r_ r_ b_ p_) (aa_ (fun c => cr_ r_ r_ r_ p_) (yF_ r_ (yL_ 1 r_ (yM_ r_ (aa_ (fun c => cc_ r_ r_ g_ r_ r_ b_ p_) (aa_ (fun c => cr_ r_ r_ r_ p_) (aa_ (fun c => ow_neqSame (opU (g.blocks[k]).ops[j]) opF r_ r_ (opE _) p_) (ae_ (al_ (ap_ r_ r_ (as_ (ay_ (al_ (an_ ?_)))))))))))))))
            refine M_ r_ (o_ r_ (bj_ r_ r_ g_ (E_ r_ (ak_ (jq_againS (i := j) (j + 1) hltj g_ ?_ ?_)))))
            · exact bc_ 0 r_ (bc_ 0 r_ (bc_ 0 r_ (bc_ 0 r_ sub_end)))
            · (repeat (first | exact True.intro | refine ⟨rfl, ?_⟩))
          · have hltj2 : ¬ (j : Int) < ((((g.blocks[k]).ops).map Opx.row).length : Int) := by omega
            refine am_ (R_ (M_ r_ (F_ r_ (L_ 0 r_ (o_ r_ (br_ r_ (fun hlen => o_ r_ (bw_ r_ r_ (T_ (ap_ r_ w_ (av_ (ax_ (ax_ (ba_ (ay_ (al_ (an_ ?_)))))))))))))))))
            refine M_ r_ (o_ r_ (bj_ r_ r_ g_ (E_ r_ (ak_ (jq_againS (i := k) (k + 1) hltk g_ ?_ ?_)))))
            · exact bc_ 2 r_ (bc_ 2 r_ sub_end)
            · (repeat (first | exact True.intro | refine ⟨rfl, ?_⟩))
        · have hltk2 : ¬ (k : Int) < (((g.blocks).map Bk.row).length : Int) := by omega
          refine am_ (R_ (M_ r_ (F_ r_ (L_ 1 r_ (o_ r_ (br_ r_ (fun hlen => o_ r_ (bw_ r_ r_ (T_ (ap_ r_ w_ (av_ (ax_ (ax_ (ba_ (al_ (R_ (E_ r_ ?_)))))))))))))))))
          exact T_ (ar_ (jq_ret1S rfl rfl (fun K h => h) sub_end))
end Go.Proofs.Ytpolnonbgaolkaa
end

section
namespace Go.Proofs.Ytpolnonbgaolkaa
open Go.Vc
attribute [local irreducible] JL JC JQ OpWp Con ConN HOk
set_option maxHeartbeats 4000000

/-- A graph that is too big whatever its operations are. -/
structure GhB (g : Gh) : Prop where
  vars : -9223372036854775808 ≤ g.vars ∧ g.vars ≤ 9223372036854775807
  more : ¬ 64 < g.blocks.length → nOps g.blocks ≤ 1000000000000000000 ∧ 39 < g.points.length
theorem GhB.bad {g : Gh} (h : GhB g) : chG g ≠ 0 := by
  have hl : limG g = false := by
    rw [Bool.eq_false_iff]
    intro q
    unfold limG at q
    simp only [Bool.and_eq_true, decide_eq_true_eq] at q
    have := h.more (by omega)
    omega
  rw [lim_no hl]
  decide
theorem gopsB_c (g : Gh) (hz : nOps g.blocks ≤ 1000000000000000000) : Con Try.prog 52 [.row g.row] [] (fun K => K (In .i64 (nOps g.blocks : Nat)) []) := by
  refine con_intro Try.func52 rfl rfl (Nat.le_of_ble_eq_true rfl) (fun c hc => R_ (o_ r_ (ci_ r_ (fun bx => E_ r_ (T_ (R_ (E_ r_ (T_ (am_ (R_ (F_ r_ (L_ 0 r_ (o_ r_ (br_ r_ (fun hlen => M_ r_ (T_ (au_ ?_)))))))))))))))))
  refine jc_loopS (ι := Nat) [] (fun k => k ≤ (g.blocks).length) (fun k => (9, In .i64 (k : Int)) :: [(3, In .i64 (nOps (g.blocks.take k) : Nat)), (7, .cell (.list (g.blocks.map Bk.row))), (8, In .i64 ((g.blocks.map Bk.row).length : Int))]) (fun k => [.blk bx 28 g.row]) (fun k => (g.blocks).length - k) 0 (Nat.zero_le _) ?_ ?_ ?_
  · exact bc_ 0 r_ sub_end
  · (repeat (first | exact True.intro | refine ⟨rfl, ?_⟩))
  rintro k hk
  have eLk : ((g.blocks).map Bk.row).length = (g.blocks).length := List.length_map _
  by_cases hltk : k < (g.blocks).length
  · have hltk2 : (k : Int) < (((g.blocks).map Bk.row).length : Int) := by omega
    have hs := nOps_take hltk
    have hle := nOps_le g.blocks (k + 1)
    have eO : ((g.blocks[k]).ops.map Opx.row).length = (g.blocks[k]).ops.length := List.length_map _
    refine R_ (o_ r_ (bw_ r_ r_ (T_ (am_ (aq_ r_ u_ (as_ (al_ (B_ (R_ (o_ r_ (cc_ r_ r_ g_ r_ r_ b_ (o_ r_ (cr_ r_ r_ r_ (o_ r_ (bl_ r_ r_ (fun bl => S_ 0 r_ (T_ (an_ (M_ r_ ?_)))))))))))))))))))
    refine F_ r_ (L_ 0 r_ (o_ r_ (br_ r_ (fun hlen => o_ r_ (bj_ r_ r_ g_ (E_ r_ (ak_ (ay_ (al_ (an_ (o_ r_ (bj_ r_ r_ g_ (M_ r_ (ak_ (jq_againS (i := k) (k + 1) hltk g_ ?_ ?_)))))))))))))))
    · exact bc_ 1 r_ sub_end
    · rw [hs]
      rw [show ((nOps (g.blocks.take k) + (g.blocks[k]).ops.length : Nat) : Int) = (nOps (g.blocks.take k) : Int) + (((g.blocks[k]).ops.map Opx.row).length : Int) by omega]
      (repeat (first | exact True.intro | refine ⟨rfl, ?_⟩))
  · have hltk2 : ¬ (k : Int) < (((g.blocks).map Bk.row).length : Int) := by omega
    rw [List.take_of_length_le (by omega)]
    exact R_ (o_ r_ (bw_ r_ r_ (T_ (am_ (ap_ r_ w_ (av_ (ax_ (ax_ (ba_ (al_ (R_ (M_ r_ (E_ r_ (T_ (ar_ (jq_ret1S rfl rfl (fun K h => h) sub_end))))))))))))))))
/-- .. is over the limits. -/
theorem gCheckB_c (g : Gh) (hb' : GhB g) : Con Try.prog 26 [.row g.row] [] (fun K => K (In .i64 (chG g)) []) := by
  have eB : (g.blocks.map Bk.row).length = g.blocks.length := List.length_map _
  have eA : (g.arrays.map ArRow).length = g.arrays.length := List.length_map _
  have eP : (g.points.map NRow).length = g.points.length := List.length_map _
  have hvr := hb'.vars
  refine con_intro Try.func26 rfl rfl (Nat.le_of_ble_eq_true rfl) (fun c hc => ?_)
  by_cases c0 : ((g.blocks.map Bk.row).length : Int) > 64
  · have hl : limG g = false := by
      rw [Bool.eq_false_iff]
      intro h
      unfold limG at h
      simp only [Bool.and_eq_true, decide_eq_true_eq] at h
      omega
    have hres := lim_no hl
    refine R_ (o_ r_ (ci_ r_ (fun bx => E_ r_ (T_ (am_ (R_ (F_ r_ (L_ 0 r_ (o_ r_ (br_ r_ (fun hlen => o_ r_ (bz_ r_ r_ (M_ r_ (ai_ r_ u_ b_ (ai_ r_ u_ b_ (ai_ r_ u_ b_ (o_ r_ (bp_ r_ u_ r_ (M_ r_ ?_)))))))))))))))))))
    refine ai_ r_ r_ b_ (ai_ r_ r_ b_ (ai_ r_ r_ b_ (o_ r_ (bp_ r_ r_ r_ (M_ r_ (ai_ r_ r_ b_ (ai_ r_ r_ b_ (ai_ r_ r_ b_ (ai_ r_ r_ b_ (o_ r_ (bp_ r_ r_ r_ (M_ r_ (ai_ r_ r_ b_ (ai_ r_ r_ b_ (ai_ r_ r_ b_ (ai_ r_ r_ b_ (o_ r_ (bp_ r_ r_ r_ ?_))))))))))))))))))
    exact T_ (aq_ r_ r_ (R_ (E_ r_ (T_ (ar_ (aw_ (jq_ret1S rfl rfl (fun K h => by rw [hres] at h; exact h) sub_end)))))))
  obtain ⟨hz, hpt⟩ := hb'.more (by omega)
  have hO := gopsB_c g hz
  by_cases c1 : ((nOps g.blocks : Nat) : Int) > 600
  · have hl : limG g = false := by
      rw [Bool.eq_false_iff]
      intro h
      unfold limG at h
      simp only [Bool.and_eq_true, decide_eq_true_eq] at h
      omega
    have hres := lim_no hl
    refine R_ (o_ r_ (ci_ r_ (fun bx => E_ r_ (T_ (am_ (R_ (F_ r_ (L_ 0 r_ (o_ r_ (br_ r_ (fun hlen => o_ r_ (bz_ r_ r_ (M_ r_ (ah_ r_ w_ b_ (bs_ 0 r_ r_ r_ r_ (ah_ r_ w_ b_ (bm_ r_ (hO) (ah_ r_ w_ b_ (bz_ r_ r_ (o_ r_ (bv_ r_ w_ r_ (M_ r_ ?_))))))))))))))))))))))
    refine ai_ r_ u_ b_ (ai_ r_ u_ b_ (ai_ r_ u_ b_ (o_ r_ (bp_ r_ u_ r_ (M_ r_ (ai_ r_ r_ b_ (ai_ r_ r_ b_ (ai_ r_ r_ b_ (ai_ r_ r_ b_ (o_ r_ (bp_ r_ r_ r_ (M_ r_ (ai_ r_ r_ b_ (ai_ r_ r_ b_ (ai_ r_ r_ b_ (ai_ r_ r_ b_ (o_ r_ (bp_ r_ r_ r_ ?_))))))))))))))))))
    exact T_ (aq_ r_ r_ (R_ (E_ r_ (T_ (ar_ (aw_ (jq_ret1S rfl rfl (fun K h => by rw [hres] at h; exact h) sub_end)))))))
  by_cases c2 : g.vars > 64
  · have hl : limG g = false := by
      rw [Bool.eq_false_iff]
      intro h
      unfold limG at h
      simp only [Bool.and_eq_true, decide_eq_true_eq] at h
      omega
    have hres := lim_no hl
    refine R_ (o_ r_ (ci_ r_ (fun bx => E_ r_ (T_ (am_ (R_ (F_ r_ (L_ 0 r_ (o_ r_ (br_ r_ (fun hlen => o_ r_ (bz_ r_ r_ (M_ r_ (ah_ r_ w_ b_ (bs_ 0 r_ r_ r_ r_ (ah_ r_ w_ b_ (bm_ r_ (hO) (ah_ r_ w_ b_ (bz_ r_ r_ (o_ r_ (bv_ r_ w_ r_ (M_ r_ ?_))))))))))))))))))))))
    refine ah_ r_ w_ b_ (bf_ r_ r_ r_ b_ (ah_ r_ w_ b_ (bg_ 0 r_ r_ r_ r_ (ah_ r_ w_ b_ (bz_ r_ r_ (o_ r_ (bv_ r_ w_ r_ (M_ r_ (ai_ r_ u_ b_ (ai_ r_ u_ b_ (ai_ r_ u_ b_ (ai_ r_ u_ b_ (o_ r_ (bp_ r_ u_ r_ (M_ r_ (ai_ r_ r_ b_ (ai_ r_ r_ b_ (ai_ r_ r_ b_ (ai_ r_ r_ b_ (o_ r_ (bp_ r_ r_ r_ ?_)))))))))))))))))))))
    exact T_ (aq_ r_ r_ (R_ (E_ r_ (T_ (ar_ (aw_ (jq_ret1S rfl rfl (fun K h => by rw [hres] at h; exact h) sub_end)))))))
  by_cases c3 : ((g.arrays.map ArRow).length : Int) > 8
  · have hl : limG g = false := by
      rw [Bool.eq_false_iff]
      intro h
      unfold limG at h
      simp only [Bool.and_eq_true, decide_eq_true_eq] at h
      omega
    have hres := lim_no hl
    refine R_ (o_ r_ (ci_ r_ (fun bx => E_ r_ (T_ (am_ (R_ (F_ r_ (L_ 0 r_ (o_ r_ (br_ r_ (fun hlen => o_ r_ (bz_ r_ r_ (M_ r_ (ah_ r_ w_ b_ (bs_ 0 r_ r_ r_ r_ (ah_ r_ w_ b_ (bm_ r_ (hO) (ah_ r_ w_ b_ (bz_ r_ r_ (o_ r_ (bv_ r_ w_ r_ (M_ r_ ?_))))))))))))))))))))))
    refine ah_ r_ w_ b_ (bf_ r_ r_ r_ b_ (ah_ r_ w_ b_ (bg_ 0 r_ r_ r_ r_ (ah_ r_ w_ b_ (bz_ r_ r_ (o_ r_ (bv_ r_ w_ r_ (M_ r_ (ah_ r_ w_ b_ (bf_ r_ r_ r_ b_ (ah_ r_ w_ b_ (bg_ 0 r_ r_ r_ r_ (ah_ r_ w_ b_ (br_ r_ (fun hlen => ah_ r_ w_ b_ (bz_ r_ r_ (o_ r_ (bv_ r_ w_ r_ (M_ r_ (ai_ r_ u_ b_ (ai_ r_ u_ b_ (ai_ r_ u_ b_ (ai_ r_ u_ b_ (o_ r_ (bp_ r_ u_ r_ ?_)))))))))))))))))))))))))
    exact T_ (aq_ r_ r_ (R_ (E_ r_ (T_ (ar_ (aw_ (jq_ret1S rfl rfl (fun K h => by rw [hres] at h; exact h) sub_end)))))))
  have c4 : ((g.points.map NRow).length : Int) > 39 := by omega
  have hl : limG g = false := by
    rw [Bool.eq_false_iff]
    intro h
    unfold limG at h
    simp only [Bool.and_eq_true, decide_eq_true_eq] at h
    omega
  have hres := lim_no hl
  refine R_ (o_ r_ (ci_ r_ (fun bx => E_ r_ (T_ (am_ (R_ (F_ r_ (L_ 0 r_ (o_ r_ (br_ r_ (fun hlen => o_ r_ (bz_ r_ r_ (M_ r_ (ah_ r_ w_ b_ (bs_ 0 r_ r_ r_ r_ (ah_ r_ w_ b_ (bm_ r_ (hO) (ah_ r_ w_ b_ (bz_ r_ r_ (o_ r_ (bv_ r_ w_ r_ (M_ r_ ?_))))))))))))))))))))))
  refine ah_ r_ w_ b_ (bf_ r_ r_ r_ b_ (ah_ r_ w_ b_ (bg_ 0 r_ r_ r_ r_ (ah_ r_ w_ b_ (bz_ r_ r_ (o_ r_ (bv_ r_ w_ r_ (M_ r_ (ah_ r_ w_ b_ (bf_ r_ r_ r_ b_ (ah_ r_ w_ b_ (bg_ 0 r_ r_ r_ r_ (ah_ r_ w_ b_ (br_ r_ (fun hlen => ah_ r_ w_ b_ (bz_ r_ r_ (o_ r_ (bv_ r_ w_ r_ (M_ r_ (ah_ r_ w_ b_ (bf_ r_ r_ r_ b_ (ah_ r_ w_ b_ (bg_ 0 r_ r_ r_ r_ (ah_ r_ w_ b_ (br_ r_ (fun hlen => ?_))))))))))))))))))))))))))
  exact ah_ r_ w_ b_ (bz_ r_ r_ (o_ r_ (bv_ r_ w_ r_ (T_ (aq_ r_ u_ (R_ (E_ r_ (T_ (ar_ (aw_ (jq_ret1S rfl rfl (fun K h => by rw [hres] at h; exact h) sub_end)))))))))))
/-- .. is over the limits. -/
theorem rCheckB_c (g : Gh) (hb' : GhB g) : Con Try.prog 45 [.row g.row] [] (fun K => K (In .i64 (chG g)) []) := by
  have eB : (g.blocks.map Bk.row).length = g.blocks.length := List.length_map _
  have eA : (g.arrays.map ArRow).length = g.arrays.length := List.length_map _
  have eP : (g.points.map NRow).length = g.points.length := List.length_map _
  have hvr := hb'.vars
  refine con_intro Try.func45 rfl rfl (Nat.le_of_ble_eq_true rfl) (fun c hc => ?_)
  by_cases c0 : ((g.blocks.map Bk.row).length : Int) > 64
  · have hl : limG g = false := by
      rw [Bool.eq_false_iff]
      intro h
      unfold limG at h
      simp only [Bool.and_eq_true, decide_eq_true_eq] at h
      omega
    have hres := lim_no hl
    refine R_ (o_ r_ (ci_ r_ (fun bx => E_ r_ (T_ (am_ (R_ (F_ r_ (L_ 0 r_ (o_ r_ (br_ r_ (fun hlen => o_ r_ (bz_ r_ r_ (M_ r_ (ai_ r_ u_ b_ (ai_ r_ u_ b_ (ai_ r_ u_ b_ (o_ r_ (bp_ r_ u_ r_ (M_ r_ ?_)))))))))))))))))))
    refine ai_ r_ r_ b_ (ai_ r_ r_ b_ (ai_ r_ r_ b_ (o_ r_ (bp_ r_ r_ r_ (M_ r_ (ai_ r_ r_ b_ (ai_ r_ r_ b_ (ai_ r_ r_ b_ (ai_ r_ r_ b_ (o_ r_ (bp_ r_ r_ r_ (M_ r_ (ai_ r_ r_ b_ (ai_ r_ r_ b_ (ai_ r_ r_ b_ (ai_ r_ r_ b_ (o_ r_ (bp_ r_ r_ r_ ?_))))))))))))))))))
    exact T_ (aq_ r_ r_ (R_ (E_ r_ (T_ (ar_ (aw_ (jq_ret1S rfl rfl (fun K h => by rw [hres] at h; exact h) sub_end)))))))
  obtain ⟨hz, hpt⟩ := hb'.more (by omega)
  have hO := rOps_c g hz
  by_cases c1 : ((nOps g.blocks : Nat) : Int) > 600
  · have hl : limG g = false := by
      rw [Bool.eq_false_iff]
      intro h
      unfold limG at h
      simp only [Bool.and_eq_true, decide_eq_true_eq] at h
      omega
    have hres := lim_no hl
    refine R_ (o_ r_ (ci_ r_ (fun bx => E_ r_ (T_ (am_ (R_ (F_ r_ (L_ 0 r_ (o_ r_ (br_ r_ (fun hlen => o_ r_ (bz_ r_ r_ (M_ r_ (ah_ r_ w_ b_ (bs_ 0 r_ r_ r_ r_ (ah_ r_ w_ b_ (bm_ r_ (hO) (ah_ r_ w_ b_ (bz_ r_ r_ (o_ r_ (bv_ r_ w_ r_ (M_ r_ ?_))))))))))))))))))))))
    refine ai_ r_ u_ b_ (ai_ r_ u_ b_ (ai_ r_ u_ b_ (o_ r_ (bp_ r_ u_ r_ (M_ r_ (ai_ r_ r_ b_ (ai_ r_ r_ b_ (ai_ r_ r_ b_ (ai_ r_ r_ b_ (o_ r_ (bp_ r_ r_ r_ (M_ r_ (ai_ r_ r_ b_ (ai_ r_ r_ b_ (ai_ r_ r_ b_ (ai_ r_ r_ b_ (o_ r_ (bp_ r_ r_ r_ ?_))))))))))))))))))
    exact T_ (aq_ r_ r_ (R_ (E_ r_ (T_ (ar_ (aw_ (jq_ret1S rfl rfl (fun K h => by rw [hres] at h; exact h) sub_end)))))))
  by_cases c2 : g.vars > 64
  · have hl : limG g = false := by
      rw [Bool.eq_false_iff]
      intro h
      unfold limG at h
      simp only [Bool.and_eq_true, decide_eq_true_eq] at h
      omega
    have hres := lim_no hl
    refine R_ (o_ r_ (ci_ r_ (fun bx => E_ r_ (T_ (am_ (R_ (F_ r_ (L_ 0 r_ (o_ r_ (br_ r_ (fun hlen => o_ r_ (bz_ r_ r_ (M_ r_ (ah_ r_ w_ b_ (bs_ 0 r_ r_ r_ r_ (ah_ r_ w_ b_ (bm_ r_ (hO) (ah_ r_ w_ b_ (bz_ r_ r_ (o_ r_ (bv_ r_ w_ r_ (M_ r_ ?_))))))))))))))))))))))
    refine ah_ r_ w_ b_ (bf_ r_ r_ r_ b_ (ah_ r_ w_ b_ (bg_ 0 r_ r_ r_ r_ (ah_ r_ w_ b_ (bz_ r_ r_ (o_ r_ (bv_ r_ w_ r_ (M_ r_ (ai_ r_ u_ b_ (ai_ r_ u_ b_ (ai_ r_ u_ b_ (ai_ r_ u_ b_ (o_ r_ (bp_ r_ u_ r_ (M_ r_ (ai_ r_ r_ b_ (ai_ r_ r_ b_ (ai_ r_ r_ b_ (ai_ r_ r_ b_ (o_ r_ (bp_ r_ r_ r_ ?_)))))))))))))))))))))
    exact T_ (aq_ r_ r_ (R_ (E_ r_ (T_ (ar_ (aw_ (jq_ret1S rfl rfl (fun K h => by rw [hres] at h; exact h) sub_end)))))))
  by_cases c3 : ((g.arrays.map ArRow).length : Int) > 8
  · have hl : limG g = false := by
      rw [Bool.eq_false_iff]
      intro h
      unfold limG at h
      simp only [Bool.and_eq_true, decide_eq_true_eq] at h
      omega
    have hres := lim_no hl
    refine R_ (o_ r_ (ci_ r_ (fun bx => E_ r_ (T_ (am_ (R_ (F_ r_ (L_ 0 r_ (o_ r_ (br_ r_ (fun hlen => o_ r_ (bz_ r_ r_ (M_ r_ (ah_ r_ w_ b_ (bs_ 0 r_ r_ r_ r_ (ah_ r_ w_ b_ (bm_ r_ (hO) (ah_ r_ w_ b_ (bz_ r_ r_ (o_ r_ (bv_ r_ w_ r_ (M_ r_ ?_))))))))))))))))))))))
    refine ah_ r_ w_ b_ (bf_ r_ r_ r_ b_ (ah_ r_ w_ b_ (bg_ 0 r_ r_ r_ r_ (ah_ r_ w_ b_ (bz_ r_ r_ (o_ r_ (bv_ r_ w_ r_ (M_ r_ (ah_ r_ w_ b_ (bf_ r_ r_ r_ b_ (ah_ r_ w_ b_ (bg_ 0 r_ r_ r_ r_ (ah_ r_ w_ b_ (br_ r_ (fun hlen => ah_ r_ w_ b_ (bz_ r_ r_ (o_ r_ (bv_ r_ w_ r_ (M_ r_ (ai_ r_ u_ b_ (ai_ r_ u_ b_ (ai_ r_ u_ b_ (ai_ r_ u_ b_ (o_ r_ (bp_ r_ u_ r_ ?_)))))))))))))))))))))))))
    exact T_ (aq_ r_ r_ (R_ (E_ r_ (T_ (ar_ (aw_ (jq_ret1S rfl rfl (fun K h => by rw [hres] at h; exact h) sub_end)))))))
  have c4 : ((g.points.map NRow).length : Int) > 39 := by omega
  have hl : limG g = false := by
    rw [Bool.eq_false_iff]
    intro h
    unfold limG at h
    simp only [Bool.and_eq_true, decide_eq_true_eq] at h
    omega
  have hres := lim_no hl
  refine R_ (o_ r_ (ci_ r_ (fun bx => E_ r_ (T_ (am_ (R_ (F_ r_ (L_ 0 r_ (o_ r_ (br_ r_ (fun hlen => o_ r_ (bz_ r_ r_ (M_ r_ (ah_ r_ w_ b_ (bs_ 0 r_ r_ r_ r_ (ah_ r_ w_ b_ (bm_ r_ (hO) (ah_ r_ w_ b_ (bz_ r_ r_ (o_ r_ (bv_ r_ w_ r_ (M_ r_ ?_))))))))))))))))))))))
  refine ah_ r_ w_ b_ (bf_ r_ r_ r_ b_ (ah_ r_ w_ b_ (bg_ 0 r_ r_ r_ r_ (ah_ r_ w_ b_ (bz_ r_ r_ (o_ r_ (bv_ r_ w_ r_ (M_ r_ (ah_ r_ w_ b_ (bf_ r_ r_ r_ b_ (ah_ r_ w_ b_ (bg_ 0 r_ r_ r_ r_ (ah_ r_ w_ b_ (br_ r_ (fun hlen => ah_ r_ w_ b_ (bz_ r_ r_ (o_ r_ (bv_ r_ w_ r_ (M_ r_ (ah_ r_ w_ b_ (bf_ r_ r_ r_ b_ (ah_ r_ w_ b_ (bg_ 0 r_ r_ r_ r_ (ah_ r_ w_ b_ (br_ r_ (fun hlen => ?_))))))))))))))))))))))))))
  exact ah_ r_ w_ b_ (bz_ r_ r_ (o_ r_ (bv_ r_ w_ r_ (T_ (aq_ r_ u_ (R_ (E_ r_ (T_ (ar_ (aw_ (jq_ret1S rfl rfl (fun K h => by rw [hres] at h; exact h) sub_end)))))))))))
theorem gLoopsB_c (g : Gh) (hb' : GhB g) : Con Try.prog 12 [.row g.row] [] (fun K => K (.tup [.cell (.list ((loopsF g).1.map AlRow)), In .i64 (loopsF g).2]) []) := by
  have hCh := gCheckB_c g hb'
  have hck := hb'.bad
  refine con_intro Try.func12 rfl rfl (Nat.le_of_ble_eq_true rfl) (fun c hc => ?_)
  have hres := loops_no hck
  refine R_ (o_ r_ (ci_ r_ (fun bx => E_ r_ (E_ r_ (T_ (am_ (R_ (A_ 0 r_ (o_ r_ (bm_ r_ (hCh) (E_ r_ (T_ (R_ (M_ r_ (o_ r_ (bx_ r_ r_ (T_ (aq_ r_ u_ ?_))))))))))))))))))
  exact R_ (M_ r_ (E_ r_ (E_ r_ (T_ (ar_ (aw_ (jq_ownNil 49 5 g_ (jq_freeze 2 0 rfl rfl (by rw [hc]; simp [hb]) (jq_ret2S rfl rfl rfl (fun K h => by rw [hres] at h; exact h) sub_end)))))))))
theorem rLoopsB_c (g : Gh) (hb' : GhB g) : Con Try.prog 23 [.row g.row] [] (fun K => K (.tup [.cell (.list ((loopsF g).1.map AlRow)), In .i64 (loopsF g).2]) []) := by
  have hCh := rCheckB_c g hb'
  have hck := hb'.bad
  refine con_intro Try.func23 rfl rfl (Nat.le_of_ble_eq_true rfl) (fun c hc => ?_)
  have hres := loops_no hck
  refine R_ (o_ r_ (ci_ r_ (fun bx => E_ r_ (E_ r_ (T_ (am_ (R_ (A_ 0 r_ (o_ r_ (bm_ r_ (hCh) (E_ r_ (T_ (R_ (M_ r_ (o_ r_ (bx_ r_ r_ (T_ (aq_ r_ u_ ?_))))))))))))))))))
  exact R_ (M_ r_ (E_ r_ (E_ r_ (T_ (ar_ (aw_ (jq_ownNil 49 5 g_ (jq_freeze 2 0 rfl rfl (by rw [hc]; simp [hb]) (jq_ret2S rfl rfl rfl (fun K h => by rw [hres] at h; exact h) sub_end)))))))))
theorem gUnrollB_c (g : Gh) (hb' : GhB g) (h : Int) : Con Try.prog 7 [.row g.row, In .i64 h] [] (UnK g h) := by
  have hL := gLoopsB_c g hb'
  have he : (loopsF g).2 ≠ 0 := by rw [loops_no hb'.bad]; exact hb'.bad
  refine con_intro Try.func7 rfl rfl (Nat.le_of_ble_eq_true rfl) (fun c hc => R_ (o_ r_ (ci_ rfl (fun bg => o_ r_ (cj_ rfl (fun bh => o_ r_ (bl_ rfl rfl (fun br => E_ r_ (E_ r_ (T_ (am_ ?_)))))))))))
  have hres := unr_err (h := h) he
  refine an_ (A_ 2 r_ (o_ r_ (bm_ r_ (hL) (M_ r_ (X_ r_ (X_ r_ (E_ r_ (E_ r_ (T_ (am_ (R_ (M_ r_ (o_ r_ (bx_ r_ r_ (T_ (aq_ r_ u_ (R_ ?_)))))))))))))))))
  exact o_ r_ (bu_ r_ r_ r_ r_ r_ (M_ r_ (S_ 0 r_ (E_ r_ (E_ r_ (T_ (ar_ (aw_ (jq_row 0 ghZ.row rfl zero_row (jq_ownNil 33 1 g_ (jq_freeze 5 0 rfl rfl (by rw [hc]; simp [hb]) (jq_retRow2 rfl rfl rfl rfl rfl rfl 0 rfl (fun K h => by rw [UnK, hres] at h; exact h) sub_end))))))))))))
theorem rUnrollB_c (g : Gh) (hb' : GhB g) (h : Int) : Con Try.prog 8 [.row g.row, In .i64 h] [] (UnK g h) := by
  have hL := rLoopsB_c g hb'
  have he : (loopsF g).2 ≠ 0 := by rw [loops_no hb'.bad]; exact hb'.bad
  refine con_intro Try.func8 rfl rfl (Nat.le_of_ble_eq_true rfl) (fun c hc => R_ (o_ r_ (ci_ rfl (fun bg => o_ r_ (bl_ rfl rfl (fun br => E_ r_ (E_ r_ (T_ (am_ ?_)))))))))
  have hres := unr_err (h := h) he
  refine an_ (A_ 1 r_ (o_ r_ (bm_ r_ (hL) (M_ r_ (X_ r_ (X_ r_ (E_ r_ (E_ r_ (T_ (am_ (R_ (M_ r_ (o_ r_ (bx_ r_ r_ (T_ (aq_ r_ u_ (R_ ?_)))))))))))))))))
  exact o_ r_ (bu_ r_ r_ r_ r_ r_ (M_ r_ (S_ 0 r_ (E_ r_ (E_ r_ (T_ (ar_ (aw_ (jq_row 0 ghZ.row rfl zero_row (jq_ownNil 33 1 g_ (jq_freeze 5 0 rfl rfl (by rw [hc]; simp [hb]) (jq_retRow2 rfl rfl rfl rfl rfl rfl 0 rfl (fun K h => by rw [UnK, hres] at h; exact h) sub_end))))))))))))
/-- Both do the same. -/
theorem agree_c (g : Gh) (h : Int) (cA : Con Try.prog 7 [.row g.row, In .i64 h] [] (UnK g h)) (cB : Con Try.prog 8 [.row g.row, In .i64 h] [] (UnK g h)) : Con Try.prog 5 [.row g.row, In .i64 h] [] (fun K => K (Bl true) []) := by
  have cS := rSame_c (unrF g h).1.1
  have cL := sameLists_self (unrF g h).1.2
  refine con_intro Try.func5 rfl rfl (Nat.le_of_ble_eq_true rfl) (fun c hc => ?_)
  unfold UnK at cA cB
  generalize unrF g h = u at *
  have d0 : u.2 = u.2 := rfl
  refine R_ (o_ r_ (ci_ rfl (fun bg => E_ r_ (T_ (R_ (A_ 0 r_ (M_ r_ (o_ r_ (bm_ r_ (cA) (M_ r_ (X_ r_ (X_ r_ (X_ r_ (o_ r_ (bl_ r_ r_ (fun bl => S_ 0 r_ (E_ r_ (E_ r_ ?_))))))))))))))))))
  refine T_ (R_ (A_ 1 r_ (M_ r_ (o_ r_ (bm_ r_ (cB) (M_ r_ (X_ r_ (X_ r_ (X_ r_ (o_ r_ (bl_ r_ r_ (fun bl => S_ 0 r_ (E_ r_ (E_ r_ (T_ (R_ (M_ r_ ?_)))))))))))))))))
  exact M_ r_ (o_ r_ (bn_ r_ r_ (M_ r_ (ah_ r_ x_ b_ (bs_ 1 r_ r_ r_ r_ (ah_ r_ x_ b_ (bs_ 0 r_ r_ r_ r_ (ah_ r_ x_ b_ (bm_ r_ (cS) (o_ r_ (bp_ r_ x_ r_ (M_ r_ (ah_ r_ r_ b_ (bd_ r_ (ah_ r_ r_ b_ (bd_ r_ (ah_ r_ r_ b_ (bm_ r_ (cL) (o_ r_ (bp_ r_ r_ r_ (E_ r_ (T_ (ar_ (jq_ret1S rfl rfl (fun K h => h) sub_end))))))))))))))))))))))))
structure GhS (g : Gh) : Prop where
  vars : -9223372036854775808 ≤ g.vars ∧ g.vars ≤ 9223372036854775807
  ins : g.inputs.length ≤ 140737488355328
  ars : g.arrays.length ≤ 140737488355328
  hds : g.heads.length ≤ 140737488355328
  pts : g.points.length ≤ 140737488355328
  blks : g.blocks.length ≤ 140737488355328
  ops : ∀ b ∈ g.blocks, b.ops.length ≤ 140737488355328
  nxt : ∀ b ∈ g.blocks, b.next.length ≤ 140737488355328
  pt : ∀ l ∈ g.points, l.length ≤ 140737488355328
def Small (g : Gh) : Prop := g.blocks.length ≤ 64 ∧ g.points.length ≤ 39
theorem szB_take {B : List Bk} {k : Nat} (h : k < B.length) : szB (B.take (k + 1)) = szB (B.take k) + (2 + (B[k]).ops.length + (B[k]).next.length) := by
  unfold szB
  rw [List.take_succ_eq_append_getElem h, List.map_append, List.sum_append]
  simp
theorem szP_take {P : List (List Int)} {k : Nat} (h : k < P.length) : szP (P.take (k + 1)) = szP (P.take k) + (1 + (P[k]).length) := by
  unfold szP
  rw [List.take_succ_eq_append_getElem h, List.map_append, List.sum_append]
  simp
theorem sum_le' {α : Type} {f : α → Nat} {M : Nat} : ∀ {l : List α}, (∀ x ∈ l, f x ≤ M) → (l.map f).sum ≤ l.length * M
  | [], _ => by simp
  | x :: l, h => by
    have h1 := h x (List.mem_cons_self ..)
    have h2 := sum_le' (f := f) (fun y hy => h y (List.mem_cons_of_mem x hy))
    rw [List.map_cons, List.sum_cons, List.length_cons, Nat.add_mul]
    omega
theorem szB_bd {g : Gh} (h : GhS g) (hs : Small g) (k : Nat) : szB (g.blocks.take k) ≤ 64 * 281474976710658 := by
  have h1 : szB (g.blocks.take k) ≤ (g.blocks.take k).length * 281474976710658 := sum_le' (fun b hb => by
    have h1 := h.ops b (List.mem_of_mem_take hb)
    have h2 := h.nxt b (List.mem_of_mem_take hb)
    omega)
  have h2 : (g.blocks.take k).length ≤ 64 := by rw [List.length_take]; have := hs.1; omega
  have h3 := Nat.mul_le_mul_right 281474976710658 h2
  exact Nat.le_trans h1 h3
theorem szP_bd {g : Gh} (h : GhS g) (hs : Small g) (k : Nat) : szP (g.points.take k) ≤ 39 * 140737488355329 := by
  have h1 : szP (g.points.take k) ≤ (g.points.take k).length * 140737488355329 := sum_le' (fun b hb => by
    have h1 := h.pt b (List.mem_of_mem_take hb)
    omega)
  have h2 : (g.points.take k).length ≤ 39 := by rw [List.length_take]; have := hs.2; omega
  have h3 := Nat.mul_le_mul_right 140737488355329 h2
  exact Nat.le_trans h1 h3
abbrev wr (n : Int) : Int := IntKind.i64.wrap n
theorem wr_in {n : Int} (h : -9223372036854775808 ≤ n ∧ n ≤ 9223372036854775807) : wr n = n := IntWalk.i64_in n h
/-- What is added up, with what overflows. -/
def wB (g : Gh) (k : Nat) : Int := (g.blocks.take k).foldl (fun n b => wr (wr (wr (n + 2) + (b.ops.length : Int)) + (b.next.length : Int))) ((g.inputs.length : Int) + (g.arrays.length : Int) + (g.heads.length : Int))
def wP (g : Gh) (k : Nat) : Int := (g.points.take k).foldl (fun n l => wr (wr (n + 1) + (l.length : Int))) (wB g g.blocks.length)
def lightF (g : Gh) : Bool := decide (wP g g.points.length ≤ 1500)
theorem wB_step {g : Gh} {k : Nat} (h : k < g.blocks.length) : wB g (k + 1) = wr (wr (wr (wB g k + 2) + ((g.blocks[k]).ops.length : Int)) + ((g.blocks[k]).next.length : Int)) := by
  unfold wB
  rw [List.take_succ_eq_append_getElem h, List.foldl_append]
  rfl
theorem wP_step {g : Gh} {k : Nat} (h : k < g.points.length) : wP g (k + 1) = wr (wr (wP g k + 1) + ((g.points[k]).length : Int)) := by
  unfold wP
  rw [List.take_succ_eq_append_getElem h, List.foldl_append]
  rfl
theorem wB_small {g : Gh} (hs : GhS g) (hS : Small g) : ∀ k, k ≤ g.blocks.length → wB g k = ((g.inputs.length + g.arrays.length + g.heads.length + szB (g.blocks.take k) : Nat) : Int)
  | 0, _ => by simp [wB, szB]
  | k + 1, h => by
    have ih := wB_small hs hS k (by omega)
    have h1 := hs.ops _ (List.getElem_mem (show k < g.blocks.length by omega))
    have h2 := hs.nxt _ (List.getElem_mem (show k < g.blocks.length by omega))
    have h3 := szB_bd hs hS k
    have h4 := hs.ins
    have h5 := hs.ars
    have h6 := hs.hds
    rw [wB_step h, szB_take h, ih]
    rw [wr_in (n := _ + 2) (by omega), wr_in (n := _ + 2 + _) (by omega), wr_in (by omega)]
    omega
theorem wP_small {g : Gh} (hs : GhS g) (hS : Small g) : ∀ k, k ≤ g.points.length → wP g k = ((g.inputs.length + g.arrays.length + g.heads.length + szB g.blocks + szP (g.points.take k) : Nat) : Int)
  | 0, _ => by
    have := wB_small hs hS g.blocks.length (Nat.le_refl _)
    rw [List.take_length] at this
    simp [wP, szP, this]
  | k + 1, h => by
    have ih := wP_small hs hS k (by omega)
    have h1 := hs.pt _ (List.getElem_mem (show k < g.points.length by omega))
    have h2 := szP_bd hs hS k
    have h3 := szB_bd hs hS g.blocks.length
    have h4 := hs.ins
    have h5 := hs.ars
    have h6 := hs.hds
    rw [List.take_length] at h3
    rw [wP_step h, szP_take h, ih]
    rw [wr_in (n := _ + 1) (by omega), wr_in (by omega)]
    omega
theorem lightF_small {g : Gh} (hs : GhS g) (hS : Small g) : lightF g = decide (szG g ≤ 1500) := by
  unfold lightF szG
  rw [wP_small hs hS _ (Nat.le_refl _), List.take_length, decide_eq_decide]
  omega
/-- Whether a graph is light. -/
theorem light_c (g : Gh) (hs : GhS g) : Con Try.prog 4 [.row g.row] [] (fun K => K (Bl (lightF g)) []) := by
  have eI : (g.inputs.map InRow).length = g.inputs.length := List.length_map _
  have eA : (g.arrays.map ArRow).length = g.arrays.length := List.length_map _
  have eH : (g.heads.map HdRow).length = g.heads.length := List.length_map _
  have eB : (g.blocks.map Bk.row).length = g.blocks.length := List.length_map _
  have eP : (g.points.map NRow).length = g.points.length := List.length_map _
  obtain ⟨_, b1, b2, b3, b4, b5, b6, b7, b8⟩ := hs
  refine con_intro Try.func4 rfl rfl (Nat.le_of_ble_eq_true rfl) (fun c hc => R_ (o_ r_ (ci_ r_ (fun bx => E_ r_ (T_ (R_ (F_ r_ (L_ 0 r_ (o_ r_ (br_ r_ (fun hlen => F_ r_ (L_ 0 r_ (o_ r_ (br_ r_ (fun hlen => o_ r_ (bj_ r_ r_ g_ (F_ r_ (L_ 0 r_ (o_ r_ (br_ r_ (fun hlen => ?_)))))))))))))))))))))
  refine o_ r_ (bj_ r_ r_ g_ (E_ r_ (T_ (am_ (R_ (E_ r_ (T_ (au_ (jc_loopS (ι := Nat) [] (fun k => k ≤ (g.blocks).length) (fun k => (4, In .i64 (k : Int)) :: [(3, In .i64 (wB g k)), (1, Ptr bx)]) (fun k => [.blk bx 28 g.row]) (fun k => (g.blocks).length - k) 0 (Nat.zero_le _) ?_ ?_ ?_)))))))))
  · exact bc_ 0 r_ sub_end
  · rw [show wB g 0 = ((g.inputs.map InRow).length : Int) + ((g.arrays.map ArRow).length : Int) + ((g.heads.map HdRow).length : Int) by rw [eI, eA, eH]; rfl]
    (repeat (first | exact True.intro | refine ⟨rfl, ?_⟩))
  rintro k hk
  have eLk : ((g.blocks).map Bk.row).length = (g.blocks).length := List.length_map _
  by_cases hltk : k < (g.blocks).length
  · have hltk2 : (k : Int) < (((g.blocks).map Bk.row).length : Int) := by omega
    have hop := b6 _ (List.getElem_mem hltk)
    have hnx := b7 _ (List.getElem_mem hltk)
    have eO : ((g.blocks[k]).ops.map Opx.row).length = (g.blocks[k]).ops.length := List.length_map _
    have eN : ((g.blocks[k]).next.map Irow).length = (g.blocks[k]).next.length := List.length_map _
    have hst : wB g (k + 1) = wr (wr (wr (wB g k + 2) + (((g.blocks[k]).ops.map Opx.row).length : Int)) + (((g.blocks[k]).next.map Irow).length : Int)) := by rw [wB_step hltk, eO, eN]
    refine am_ (R_ (M_ r_ (F_ r_ (L_ 0 r_ (o_ r_ (br_ r_ (fun hlen => o_ r_ (bw_ r_ r_ (T_ (aq_ r_ u_ (as_ (al_ (B_ (ao_ r_ r_ k_ k_ (yM_ r_ (aa_ (fun c => ow_add r_ r_ p_) (yF_ r_ ?_)))))))))))))))))
    refine yL_ 0 r_ (yM_ r_ (aa_ (fun c => cc_ r_ r_ g_ r_ r_ b_ p_) (aa_ (fun c => cf_ r_ r_ r_ b_ r_ b_ p_) (aa_ (fun c => cb_ r_ r_ p_) (aa_ (fun c => br_ r_ (fun hlen => p_)) (aa_ (fun c => ow_add r_ r_ p_) (yF_ r_ (yL_ 0 r_ (yM_ r_ (aa_ (fun c => cc_ r_ r_ g_ r_ r_ b_ p_) (aa_ (fun c => cf_ r_ r_ r_ b_ r_ b_ p_) (aa_ (fun c => cb_ r_ r_ p_) (aa_ (fun c => br_ r_ (fun hlen => p_)) ?_)))))))))))))
    refine aa_ (fun c => ow_add r_ r_ p_) (yE_ r_ (ae_ (ay_ (al_ (an_ (M_ r_ (o_ r_ (bj_ r_ r_ g_ (E_ r_ (ak_ (jq_againS (i := k) (k + 1) hltk g_ ?_ ?_)))))))))))
    · exact bc_ 0 r_ sub_end
    · rw [hst]
      (repeat (first | exact True.intro | refine ⟨rfl, ?_⟩))
  · have hltk2 : ¬ (k : Int) < (((g.blocks).map Bk.row).length : Int) := by omega
    have ekb : k = g.blocks.length := by omega
    subst ekb
    refine am_ (R_ (M_ r_ (F_ r_ (L_ 0 r_ (o_ r_ (br_ r_ (fun hlen => o_ r_ (bw_ r_ r_ (T_ (ap_ r_ w_ (av_ (ax_ (ax_ (ba_ (al_ (am_ (R_ ?_)))))))))))))))))
    refine E_ r_ (T_ (au_ (jc_loopS (ι := Nat) [] (fun p => p ≤ (g.points).length) (fun p => (5, In .i64 (p : Int)) :: [(3, In .i64 (wP g p)), (1, Ptr bx)]) (fun p => [.blk bx 28 g.row]) (fun p => (g.points).length - p) 0 (Nat.zero_le _) ?_ ?_ ?_)))
    · exact bc_ 0 r_ sub_end
    · rw [show wP g 0 = wB g g.blocks.length from rfl]
      (repeat (first | exact True.intro | refine ⟨rfl, ?_⟩))
    rintro p hp
    have eLp : ((g.points).map NRow).length = (g.points).length := List.length_map _
    by_cases hltp : p < (g.points).length
    · have hltp2 : (p : Int) < (((g.points).map NRow).length : Int) := by omega
      have hpl := b8 _ (List.getElem_mem hltp)
      have eN : ((g.points[p]).map Irow).length = (g.points[p]).length := List.length_map _
      have hst : wP g (p + 1) = wr (wr (wP g p + 1) + (((g.points[p]).map Irow).length : Int)) := by rw [wP_step hltp, eN]
      refine am_ (R_ (M_ r_ (F_ r_ (L_ 0 r_ (o_ r_ (br_ r_ (fun hlen => o_ r_ (bw_ r_ r_ (T_ (aq_ r_ u_ (as_ (al_ (B_ (an_ (M_ r_ (o_ r_ (ow_add r_ r_ (F_ r_ ?_))))))))))))))))))
      refine L_ 0 r_ (M_ r_ (o_ r_ (cc_ r_ r_ g_ r_ r_ b_ (o_ r_ (cb_ r_ r_ (o_ r_ (br_ r_ (fun hlen => o_ r_ (ow_add r_ r_ (E_ r_ (ak_ (ay_ (al_ (an_ (M_ r_ (o_ r_ (bj_ r_ r_ g_ (E_ r_ (ak_ (jq_againS (i := p) (p + 1) hltp g_ ?_ ?_))))))))))))))))))))
      · exact bc_ 0 r_ sub_end
      · rw [hst]
        (repeat (first | exact True.intro | refine ⟨rfl, ?_⟩))
    · have hltp2 : ¬ (p : Int) < (((g.points).map NRow).length : Int) := by omega
      have ekp : p = g.points.length := by omega
      refine am_ (R_ (M_ r_ (F_ r_ (L_ 0 r_ (o_ r_ (br_ r_ (fun hlen => o_ r_ (bw_ r_ r_ (T_ (ap_ r_ w_ (av_ (ax_ (ax_ (ba_ (al_ (R_ (M_ r_ ?_)))))))))))))))))
      exact o_ r_ (cu_ r_ r_ (E_ r_ (T_ (ar_ (jq_ret1S rfl rfl (fun K h => by rw [lightF, ← ekp] at h; exact h) sub_end)))))
end Go.Proofs.Ytpolnonbgaolkaa
end

section
namespace Go.Proofs.Ytpolnonbgaolkaa
open Go.Vc
set_option maxHeartbeats 1000000

def aB : List Bk := [⟨[], 0, [1]⟩, ⟨[], 0, [2, 3]⟩, ⟨[], 0, [1]⟩, ⟨[], 0, []⟩]
def aG : Gh := ⟨[], 1, 0, [], 0, aB, [], [(1, 5)]⟩
theorem nx_0 : nxOf aB 0 = [1] := rfl
theorem nx_1 : nxOf aB 1 = [2, 3] := rfl
theorem nx_2 : nxOf aB 2 = [1] := rfl
theorem nx_3 : nxOf aB 3 = [] := rfl
theorem be_0 : befL aB 0 = [] := by decide
theorem be_1 : befL aB 1 = [0, 2] := by decide
theorem be_2 : befL aB 2 = [1] := by decide
theorem be_3 : befL aB 3 = [1] := by decide
theorem to_a {but : Int} (h : but ≠ 0) : Rch aB but 0 := .zero (by decide) h
theorem to_b {but : Int} (h : but ≠ 0) (h1 : but ≠ 1) : Rch aB but 1 := .step (x := 1) (to_a h) (by rw [nx_0]; simp) (by decide) (by decide) (fun e => h1 e.symm)
theorem to_c {but : Int} (h : but ≠ 0) (h1 : but ≠ 1) (h2 : but ≠ 2) : Rch aB but 2 := .step (x := 2) (to_b h h1) (by rw [nx_1]; simp) (by decide) (by decide) (fun e => h2 e.symm)
theorem to_d {but : Int} (h : but ≠ 0) (h1 : but ≠ 1) (h2 : but ≠ 3) : Rch aB but 3 := .step (x := 3) (to_b h h1) (by rw [nx_1]; simp) (by decide) (by decide) (fun e => h2 e.symm)
theorem cl_a {but : Int} {p : Nat → Bool} (h0 : but ≠ 0 → p 0 = true) (hc : ∀ b, b < 4 → p b = true → ∀ x ∈ nxOf aB b, x ≠ but → p x.toNat = true) : ∀ b, Rch aB but b → p b = true := by
  intro b h
  induction h with
  | zero _ hb => exact h0 hb
  | step hr hx _ _ hb ih => exact hc _ hr.lt ih _ hx hb
theorem on_1 (b : Nat) (h : Rch aB 1 b) : b = 0 := by
  have := cl_a (but := 1) (p := fun b => decide (b = 0)) (fun _ => rfl) (by decide) b h
  simpa using this
open Classical in
theorem al_a {b : Nat} (h : b < 4) : alB aB b = true := by
  unfold alB
  rw [decide_eq_true_eq]
  match b, h with
  | 0, _ => exact to_a (by decide)
  | 1, _ => exact to_b (by decide) (by decide)
  | 2, _ => exact to_c (by decide) (by decide) (by decide)
  | 3, _ => exact to_d (by decide) (by decide) (by decide)
open Classical in
theorem dm_yes {d b : Nat} (hb : b < 4) (h : ¬ Rch aB (d : Int) b) : dmB aB d b = true := by
  have := al_a hb
  unfold alB at this
  rw [decide_eq_true_eq] at this
  unfold dmB
  rw [decide_eq_true_eq]
  exact ⟨this, h⟩
open Classical in
theorem dm_no {d b : Nat} (h : Rch aB (d : Int) b) : dmB aB d b = false := by
  unfold dmB
  rw [decide_eq_false_iff_not]
  exact fun q => q.2 h
theorem al_0 : alB aB 0 = true := al_a (by decide)
theorem al_1 : alB aB 1 = true := al_a (by decide)
theorem al_2 : alB aB 2 = true := al_a (by decide)
theorem al_3 : alB aB 3 = true := al_a (by decide)
theorem dm_10 : dmB aB 1 0 = false := dm_no (to_a (by decide))
theorem dm_12 : dmB aB 1 2 = true := dm_yes (by decide) (fun h => absurd (on_1 _ h) (by decide))
theorem dm_21 : dmB aB 2 1 = false := dm_no (to_b (by decide) (by decide))
theorem dm_31 : dmB aB 3 1 = false := dm_no (to_b (by decide) (by decide))
theorem la_0 : latch aB 0 = [] := by unfold latch; rw [be_0]; rfl
theorem la_1 : latch aB 1 = [2] := by unfold latch; rw [be_1]; simp [dm_10, dm_12]
theorem la_2 : latch aB 2 = [] := by unfold latch; rw [be_2]; simp [dm_21]
theorem la_3 : latch aB 3 = [] := by unfold latch; rw [be_3]; simp [dm_31]
theorem lp_a (b : Nat) : Lpn aB 1 b ↔ b = 1 ∨ b = 2 := by
  constructor
  · intro h
    induction h with
    | head => exact .inl rfl
    | latch hb => rw [la_1, List.mem_singleton] at hb; subst hb; exact .inr rfl
    | step _ hh ha _ ih =>
      rcases ih with rfl | rfl
      · exact absurd rfl hh
      · rw [be_2, List.mem_singleton] at ha; subst ha; exact .inl rfl
  · rintro (rfl | rfl)
    · exact .head
    · exact .latch (b := 2) (by rw [la_1]; simp)
theorem lp_b (b : Nat) : lpB aB 1 b = decide (b = 1 ∨ b = 2) := by
  unfold lpB
  rw [decide_eq_decide]
  exact lp_a b
theorem nd_a : nodesF aB 1 = [1, 2] := by
  unfold nodesF
  rw [show lpB aB 1 = fun b => decide (b = 1 ∨ b = 2) from funext lp_b]
  decide
theorem ou_a : outsF aB 1 = [0] := by
  unfold outsF
  rw [be_1, nd_a]
  simp [al_0, al_2]
theorem lpOf_a : lpOf aG 1 = some ⟨1, 0, [1, 2], 5⟩ := by
  unfold lpOf
  rw [show aG.blocks = aB from rfl, ou_a, nd_a]
  rfl
theorem lps_a : lpsO aG 4 = some [⟨1, 0, [1, 2], 5⟩] := by
  have h1 : lpsO aG 1 = some [] := by rw [lpsO, lpsO, show aG.blocks = aB from rfl, la_0]; rfl
  have h2 : lpsO aG 2 = some [⟨1, 0, [1, 2], 5⟩] := by rw [lpsO, h1, show aG.blocks = aB from rfl, la_1, lpOf_a]; rfl
  have h3 : lpsO aG 3 = some [⟨1, 0, [1, 2], 5⟩] := by rw [lpsO, h2, show aG.blocks = aB from rfl, la_2]; rfl
  rw [lpsO, h3, show aG.blocks = aB from rfl, la_3]
  rfl
theorem lf_a : lf0 aB = [0, 1, 1, 1] := by
  unfold lf0
  rw [show List.range aB.length = [0, 1, 2, 3] from rfl]
  simp [al_0, al_1, al_2, al_3, be_0, be_1, be_2, be_3, edB, dm_10, dm_12, dm_21, dm_31]
theorem rd_a : rdy aB = [0] := by
  unfold rdy
  rw [lf_a, show List.range aB.length = [0, 1, 2, 3] from rfl]
  simp [al_0, al_1, al_2, al_3]
theorem nAl_a : nAl aB = 4 := by
  unfold nAl
  rw [show List.range aB.length = [0, 1, 2, 3] from rfl]
  simp [al_0, al_1, al_2, al_3]
theorem acy_a : acyB aB = true := by
  unfold acyB kAll
  rw [lf_a, rd_a, nAl_a, show mK ([0, 1, 1, 1], [0]) = 4 from rfl]
  simp [kRun, kStep, nx_0, nx_1, nx_2, nx_3, dm_10, dm_12, dm_21, dm_31]
theorem ch_a : chG aG = 0 := by decide
theorem loops_a : loopsF aG = ([(⟨1, 0, [1, 2], 5⟩, -1)], 0) := by
  unfold loopsF
  rw [if_neg (by rw [ch_a]; decide), show aG.blocks = aB from rfl, acy_a, if_neg (by decide), show aB.length = 4 from rfl, lps_a]
  simp [srtF, zipZ, arS, arK]
def aX : Gh := ⟨[], 1, 0, [], 0, [⟨[], 0, [1]⟩, ⟨[], 0, [2, 3]⟩, ⟨[], 0, [4]⟩, ⟨[], 0, []⟩, ⟨[], 0, [5, 3]⟩, ⟨[], 0, [1]⟩], [], [(1, 2)]⟩
theorem unr_a : unrF aG 1 = ((aX, [[0], [1, 4], [2, 5], [3]]), 0) := by
  rw [unr_ok (x := (⟨1, 0, [1, 2], 5⟩, -1)) (by rw [loops_a]) (by rw [loops_a]; rfl) (by decide)]
  rfl
end Go.Proofs.Ytpolnonbgaolkaa
end

section
namespace Go.Proofs.Ytpolnonbgaolkaa
open Go.Vc
attribute [local irreducible] JL JC JQ OpWp Con ConN HOk
set_option maxHeartbeats 4000000

theorem aG_w : GhW aG := ⟨by decide, by decide⟩
/-- The graph as it is made: what is not there is nil. -/
abbrev nilC : C := .val (.slice none 0 0)
abbrev aR : List C := [nilC, .val (.int .i64 1), .val (.int .i64 0), nilC, .val (.int .i64 0), .list [[nilC, .val (.int .i64 0), .list [Irow 1]], [nilC, .val (.int .i64 0), .list [Irow 2, Irow 3]], [nilC, .val (.int .i64 0), .list [Irow 1]], [nilC, .val (.int .i64 0), nilC]], nilC, .list [[.val (.int .i64 1), .val (.int .i64 5)]]]
theorem bR_le (c d d' : C) (h : CLe d d') : RowLe [nilC, c, d] [.list [], c, d'] := RowLe.cons CLe.nil (RowLe.cons (CLe.refl _) (RowLe.cons h RowLe.nil))
theorem aR_le : RowLe aR aG.row := RowLe.cons CLe.nil (RowLe.cons (CLe.refl _) (RowLe.cons (CLe.refl _) (RowLe.cons CLe.nil (RowLe.cons (CLe.refl _) (RowLe.cons (CLe.list (RowsLe.cons (bR_le _ _ _ (CLe.refl _)) (RowsLe.cons (bR_le _ _ _ (CLe.refl _)) (RowsLe.cons (bR_le _ _ _ (CLe.refl _)) (RowsLe.cons (bR_le _ _ _ CLe.nil) RowsLe.nil))))) (RowLe.cons CLe.nil (RowLe.cons (CLe.refl _) RowLe.nil)))))))
theorem awake_c : Con Try.prog 6 [] [] (fun K => K (Bl true) []) := by
  have cU := gUnroll_c aG aG_w 1
  unfold UnK at cU
  rw [unr_a] at cU
  have c1 := sameInts_self [4]
  have c2 := sameInts_self [1]
  have e1 : (aX.blocks.map Bk.row).length = 6 := rfl
  have e2 : (([[0], [1, 4], [2, 5], [3]] : List (List Int)).map NRow).length = 4 := rfl
  have e3 : (aX.heads.map HdRow).length = 1 := rfl
  have e4 : (([1, 4] : List Int).map Irow).length = 2 := rfl
  have r1 : (([[0], [1, 4], [2, 5], [3]] : List (List Int)).map NRow)[1]? = some [.list (([1, 4] : List Int).map Irow)] := rfl
  have r2 : (aX.heads.map HdRow)[0]? = some [.val (.int .i64 1), .val (.int .i64 2)] := rfl
  have r3 : (aX.blocks.map Bk.row)[2]? = some [.list [], .val (.int .i64 0), .list (([4] : List Int).map Irow)] := rfl
  have r4 : (aX.blocks.map Bk.row)[5]? = some [.list [], .val (.int .i64 0), .list (([1] : List Int).map Irow)] := rfl
  dsimp only at cU
  have cU := con_args (ss' := [.row aR, In .i64 1]) cU ⟨SLe.row aR_le, SLe.cell (CLe.refl _), trivial⟩
  refine con_intro Try.func6 rfl rfl (Nat.le_of_ble_eq_true rfl) (fun c hc => R_ (E_ r_ (T_ (R_ (o_ r_ (bq_ r_ r_ b_ r_ r_ b_ (o_ r_ (bu_ r_ r_ r_ r_ r_ (o_ r_ (bq_ r_ r_ b_ r_ r_ b_ (o_ r_ (bu_ r_ r_ r_ r_ r_ (o_ r_ (bq_ r_ r_ b_ r_ r_ b_ (o_ r_ (bu_ r_ r_ r_ r_ r_ (o_ r_ (bu_ r_ r_ r_ r_ r_ (o_ r_ (bq_ r_ r_ b_ r_ r_ b_ (o_ r_ (bu_ r_ r_ r_ r_ r_ (o_ r_ (bq_ r_ r_ b_ r_ r_ b_ ?_))))))))))))))))))))))))
  refine o_ r_ (bu_ r_ r_ r_ r_ r_ (o_ r_ (bl_ r_ r_ (fun bl => S_ 0 r_ (T_ (R_ (A_ 0 r_ (o_ r_ (bm_ r_ (cU) (M_ r_ (X_ r_ (X_ r_ (X_ r_ (o_ r_ (bl_ r_ r_ (fun bl => S_ 0 r_ (E_ r_ (E_ r_ (T_ ?_)))))))))))))))))))
  refine R_ (M_ r_ (o_ r_ (bn_ r_ r_ (M_ r_ (ah_ r_ r_ b_ (bf_ r_ r_ r_ b_ (ah_ r_ r_ b_ (bg_ 0 r_ r_ r_ r_ (ah_ r_ r_ b_ (br_ r_ (fun hlen => ah_ r_ r_ b_ (bn_ r_ r_ (o_ r_ (bp_ r_ x_ r_ (M_ r_ (ah_ r_ r_ b_ (bd_ r_ (ah_ r_ r_ b_ (br_ r_ (fun hlen => ah_ r_ r_ b_ (bn_ r_ r_ (o_ r_ (bp_ r_ x_ r_ (M_ r_ (ah_ r_ r_ b_ (bd_ r_ ?_))))))))))))))))))))))))))
  refine ah_ r_ r_ b_ (ow_indexAddrN 1 r_ r_ r_ r1 r_ b_ (ah_ r_ r_ b_ (cb_ r_ r_ (ah_ r_ r_ b_ (br_ r_ (fun hlen => ah_ r_ r_ b_ (bn_ r_ r_ (o_ r_ (bp_ r_ x_ r_ (M_ r_ (ah_ r_ r_ b_ (bf_ r_ r_ r_ b_ (ah_ r_ r_ b_ (bg_ 0 r_ r_ r_ r_ (ah_ r_ r_ b_ (br_ r_ (fun hlen => ah_ r_ r_ b_ (bn_ r_ r_ (o_ r_ (bp_ r_ x_ r_ (M_ r_ (ah_ r_ r_ b_ (bf_ r_ r_ r_ b_ (ah_ r_ r_ b_ (bg_ 0 r_ r_ r_ r_ ?_)))))))))))))))))))))))))
  refine ah_ r_ r_ b_ (ow_indexAddrN 0 r_ r_ r_ r2 r_ b_ (ah_ r_ r_ b_ (cf_ r_ r_ r_ b_ r_ b_ (ah_ r_ r_ b_ (cb_ r_ r_ (ah_ r_ r_ b_ (bn_ r_ r_ (o_ r_ (bp_ r_ x_ r_ (M_ r_ (ah_ r_ r_ b_ (bf_ r_ r_ r_ b_ (ah_ r_ r_ b_ (bg_ 0 r_ r_ r_ r_ (ah_ r_ r_ b_ (ow_indexAddrN 2 r_ r_ r_ r3 r_ b_ (ah_ r_ r_ b_ (cf_ r_ r_ r_ b_ r_ b_ (ah_ r_ r_ b_ (cb_ r_ r_ (ah_ r_ r_ b_ (bq_ r_ r_ b_ r_ r_ b_ ?_))))))))))))))))))))))
  exact ah_ r_ r_ b_ (bm_ r_ (c1) (o_ r_ (bp_ r_ x_ r_ (M_ r_ (ah_ r_ r_ b_ (bf_ r_ r_ r_ b_ (ah_ r_ r_ b_ (bg_ 0 r_ r_ r_ r_ (ah_ r_ r_ b_ (ow_indexAddrN 5 r_ r_ r_ r4 r_ b_ (ah_ r_ r_ b_ (cf_ r_ r_ r_ b_ r_ b_ (ah_ r_ r_ b_ (cb_ r_ r_ (ah_ r_ r_ b_ (bq_ r_ r_ b_ r_ r_ b_ (ah_ r_ r_ b_ (bm_ r_ (c2) (o_ r_ (bp_ r_ r_ r_ (E_ r_ (T_ (ar_ (jq_ret1S rfl rfl (fun K h => h) sub_end))))))))))))))))))))))))
/-- Both do the same, if a graph is light. -/
theorem agreeL_c (g : Gh) (hs : GhS g) (h : Int) (hl : lightF g = true) : Con Try.prog 5 [.row g.row, In .i64 h] [] (fun K => K (Bl true) []) := by
  by_cases hS : Small g
  · rw [lightF_small hs hS, decide_eq_true_eq] at hl
    exact agree_c g h (gUnroll_c g ⟨hs.vars, hl⟩ h) (rUnroll_c g ⟨hs.vars, hl⟩ h)
  · have hB : GhB g := ⟨hs.vars, fun hb => ⟨by
      have h1 : nOps g.blocks ≤ g.blocks.length * 140737488355328 := sum_le' hs.ops
      have h2 := Nat.mul_le_mul_right 140737488355328 (show g.blocks.length ≤ 64 by omega)
      exact Nat.le_trans h1 (Nat.le_trans h2 (by decide)), by
      unfold Small at hS
      omega⟩⟩
    exact agree_c g h (gUnrollB_c g hB h) (rUnrollB_c g hB h)
theorem unrollRaw_c (g : Gh) (hs : GhS g) (h : Int) : Con Try.prog 3 [.row g.row, In .i64 h] [] (fun K => K (Bl true) []) := by
  have eB : (g.blocks.map Bk.row).length = g.blocks.length := List.length_map _
  have hLi := light_c g hs
  refine con_intro Try.func3 rfl rfl (Nat.le_of_ble_eq_true rfl) (fun c hc => ?_)
  cases hl : lightF g with
  | false =>
    rw [hl] at hLi
    refine R_ (o_ r_ (ci_ r_ (fun bx => E_ r_ (T_ (R_ (A_ 0 r_ (o_ r_ (bm_ r_ (hLi) (o_ r_ (cd_ r_ (M_ r_ (ai_ r_ r_ b_ (ai_ r_ r_ b_ (ai_ r_ r_ b_ (ai_ r_ r_ b_ (o_ r_ (bp_ r_ r_ r_ (M_ r_ (ai_ r_ r_ b_ ?_)))))))))))))))))))
    exact ai_ r_ r_ b_ (ai_ r_ r_ b_ (o_ r_ (bp_ r_ r_ r_ (M_ r_ (ah_ r_ r_ b_ (bm_ r_ (awake_c) (o_ r_ (bp_ r_ r_ r_ (E_ r_ (T_ (ar_ (jq_ret1S rfl rfl (fun K h => h) sub_end))))))))))))
  | true =>
    rw [hl] at hLi
    have hAg := agreeL_c g hs h hl
    by_cases h0 : ((g.blocks.map Bk.row).length : Int) = 0
    · refine R_ (o_ r_ (ci_ r_ (fun bx => E_ r_ (T_ (R_ (A_ 0 r_ (o_ r_ (bm_ r_ (hLi) (o_ r_ (cd_ r_ (M_ r_ (ah_ r_ r_ b_ (bf_ r_ r_ r_ b_ (ah_ r_ r_ b_ (bg_ 0 r_ r_ r_ r_ (ah_ r_ r_ b_ (br_ r_ (fun hlen => ah_ r_ r_ b_ (bn_ r_ r_ (o_ r_ (bv_ r_ r_ r_ (M_ r_ (ai_ r_ u_ b_ ?_)))))))))))))))))))))))
      exact ai_ r_ u_ b_ (ai_ r_ u_ b_ (o_ r_ (bp_ r_ u_ r_ (M_ r_ (ah_ r_ r_ b_ (bm_ r_ (awake_c) (o_ r_ (bp_ r_ r_ r_ (E_ r_ (T_ (ar_ (jq_ret1S rfl rfl (fun K h => h) sub_end))))))))))))
    · refine R_ (o_ r_ (ci_ r_ (fun bx => E_ r_ (T_ (R_ (A_ 0 r_ (o_ r_ (bm_ r_ (hLi) (o_ r_ (cd_ r_ (M_ r_ (ah_ r_ r_ b_ (bf_ r_ r_ r_ b_ (ah_ r_ r_ b_ (bg_ 0 r_ r_ r_ r_ (ah_ r_ r_ b_ (br_ r_ (fun hlen => ah_ r_ r_ b_ (bn_ r_ r_ (o_ r_ (bv_ r_ r_ r_ (M_ r_ (ah_ r_ w_ b_ (bs_ 0 r_ r_ r_ r_ ?_))))))))))))))))))))))))
      exact ah_ r_ w_ b_ (bd_ r_ (ah_ r_ w_ b_ (bm_ r_ (hAg) (o_ r_ (bv_ r_ w_ r_ (M_ r_ (ah_ r_ r_ b_ (bm_ r_ (awake_c) (o_ r_ (bp_ r_ r_ r_ (E_ r_ (T_ (ar_ (jq_ret1S rfl rfl (fun K h => h) sub_end))))))))))))))
end Go.Proofs.Ytpolnonbgaolkaa
end

section
namespace Go.Vc
open Go.RowKit Go.ChangeShapes Go.WideShapes

section
variable {H : Type} {enc : TypeId × Value → H} {P : Program}

/-- Arguments read as they did. -/
theorem args_stay (hl : laidOutB P = true) {W W' : World} (hb : Below W.heap.size W W') : ∀ {ts : List TypeId} {vs : List Value} {ds : List (DataW H)} {ps : List MemPlace}, ts.all (fun t => P.readableRec t && decide (t < P.types.size)) = true →
    DataW.TrodAll enc P W 0 (fun _ => true) true ts vs ds ps → (∀ p ∈ ps, p.block < W.heap.size) → DataW.TrodAll enc P W' 0 (fun b => decide (b < W.heap.size)) true ts vs ds ps
  | [], vs, ds, ps, _, h, _ => by
    obtain ⟨rfl, rfl, rfl⟩ := trodAll_nil h
    rfl
  | t :: ts, vs, ds, ps, hr, h, hlt => by
    simp only [List.all_cons, Bool.and_eq_true, decide_eq_true_eq] at hr
    obtain ⟨⟨h1, h2⟩, h3⟩ := hr
    obtain ⟨v, vr, d, dr, p, q, rfl, rfl, rfl, g1, g2⟩ := trodAll_cons h
    exact ⟨p, q, Below.trod hl h1 h2 g1 hb (fun x hx => hlt x (List.mem_append.2 (.inl hx))), args_stay hl hb h3 g2 (fun x hx => hlt x (List.mem_append.2 (.inr hx))), rfl⟩

/-- What a law's row asks behind the call: true, and each argument reads as it did. -/
theorem law_post {f : Func} {s : ChangeSpec} {W W' : World} {args : Array Value} {ds : List (DataW H)} {before : List MemPlace} {bt : TypeId} (hv : s.vars = []) (hW : DataW.Whole enc P f.params.toList s.vars false W args.toList ds [] before)
    (hr : (s.fn H (ds ++ [])).results = [.lit (.bool true)]) (ha : (s.fn H (ds ++ [])).args = ds) (hg : (s.fn H (ds ++ [])).vars = []) (hrt : f.resultTypes = #[bt]) (hbt : P.underlying bt = some .bool)
    (hl : laidOutB P = true) (hrd : f.params.toList.all (fun t => P.readableRec t && decide (t < P.types.size)) = true) (hb : Below W.heap.size W W') : s.post enc P f false true false false W args (.bool true) W' := by
  have hlt := hW.lt
  have hW' := hW
  obtain ⟨p, q, hA, hV, rfl, _, _⟩ := hW'
  rw [hv] at hV
  obtain ⟨_, rfl⟩ := trodVars_none hV
  refine ⟨ds, [], p ++ [], [], p, [], hW, ?_, ?_, ?_, World.keptBut_mono (fun x hx => ⟨hx, .inr (.inl (by simpa using hx))⟩) (hb.frame (· ∈ p ++ [])), fun h => by cases h⟩
  · rw [hr, hrt]
    exact trodAll_mk1 (shut_bool hbt _)
  · rw [ha]
    exact args_stay hl hb hrd hA (fun x hx => hlt x (by simpa using hx))
  · rw [hg, hv]
    rfl

/-- From a contract to a run. -/
theorem con_run [Gl P] {f : FuncId} {ss : List S} {vs : List Value} {W : World} (con : Con P f ss [] (fun K => K (Bl true) [])) (hs : SOks W (fun _ => False) ss vs) (hgl : Gl.ok P W (fun _ => False) := by exact trivial) : Calls P f vs.toArray W (fun e W' => e = .returned (.bool true) ∧ Below W.heap.size W W') := by
  refine (con vs W (fun _ => False) (fun _ h => h.elim) (by simp [hb]) (by simp [hb]) hs (by simp) hgl).mono ?_
  rintro e W' ⟨v, s, Ho, rfl, hK, hv, _, _, _, hg⟩
  obtain ⟨rfl, rfl⟩ := hK (fun s' H' => s' = Bl true ∧ H' = []) ⟨rfl, rfl⟩
  obtain ⟨rfl, _⟩ := hv
  exact ⟨rfl, hg.os, hg.tape, hg.output, hg.size, fun k hk => hg.block k hk (by simp [hb])⟩
end
end Go.Vc
end

section
namespace Go.Vc
open Go.RowKit Go.ChangeShapes Go.WideShapes
variable {H : Type} {enc : TypeId × Value → H} {P : Program}

end Go.Vc
end

section
namespace Go.Vc
open Go.RowKit Go.ChangeShapes Go.WideShapes Go.Deep
variable {H : Type} {enc : TypeId × Value → H} {P : Program}

/-- Nothing in it is greater than may be reached. -/
def WtOk (P : Program) (t : TypeId) (d : DataW H) : Prop := ∀ n ∈ d.weights P t, n ≤ reachBytes
theorem WtOk.each {ts : List TypeId} {ds : List (DataW H)} (h : ∀ n ∈ DataW.weightsEach P ts ds, n ≤ reachBytes) {j : Nat} {t : TypeId} {d : DataW H} (ht : ts[j]? = some t) (hd : ds[j]? = some d) : WtOk P t d := fun n hn => h n (DataW.weights_mem_each ht hd n hn)
theorem weights_mem_all {e : TypeId} : ∀ {ds : List (DataW H)} {d : DataW H}, d ∈ ds → ∀ n ∈ d.weights P e, n ∈ DataW.weightsAll P e ds
  | d0 :: ds, d, hd, n, hn => by
    simp only [DataW.weightsAll, List.mem_append]
    rcases List.mem_cons.1 hd with rfl | hd
    · exact .inl hn
    · exact .inr (weights_mem_all hd n hn)
/-- One cell of a struct of such. -/
theorem rd_field {W : World} {t : TypeId} {fs : Array Field} (ht : P.underlying t = some (.struct fs)) (hone : oneCellFields P fs = true) (hc : P.cellsOf t = fs.size) {fuel : Nat} {cs : List Value} {y : DataW H × List MemPlace} (h : DataW.trod enc P W 0 (fun _ => true) true fuel t cs = some y) (hw : WtOk P t y.1) :
    cs.length = fs.size ∧ ∃ n, ∀ (i : Nat) (f : Field) (v : Value), fs[i]? = some f → cs[i]? = some v → ∃ z, DataW.trod enc P W 0 (fun _ => true) true n f.type [v] = some z ∧ WtOk P f.type z.1 := by
  obtain ⟨xs, n, _, rfl, hl, hlen, hf⟩ := DataW.trod_struct ht h
  refine ⟨hl.trans hc, n, fun i f v hi hv => ?_⟩
  obtain ⟨o, k⟩ := hone_of hone i f hi
  have h1 := hf i f hi
  have hil : i < fs.size := (Array.getElem?_eq_some_iff.1 hi).1
  rw [o, k, List.getElem?_eq_getElem (by omega)] at h1
  have hv2 := List.getElem?_eq_some_iff.1 hv
  have e : (cs.drop i).take 1 = [v] := by
    obtain ⟨hv3, rfl⟩ := hv2
    rw [List.drop_eq_getElem_cons hv3]
    rfl
  rw [e] at h1
  refine ⟨_, h1, ?_⟩
  have hw' : ∀ n ∈ DataW.weightsEach P (fs.toList.map (·.type)) (xs.map (·.1)), n ≤ reachBytes := by
    unfold WtOk at hw
    simp only [DataW.weights, ht] at hw
    exact hw
  refine WtOk.each hw' (j := i) ?_ ?_
  · rw [List.getElem?_map]
    have : fs.toList[i]? = some f := by simpa using hi
    rw [this]
    rfl
  · rw [List.getElem?_map, List.getElem?_eq_getElem (by omega)]
    rfl
/-- A slice of what is read element for element. -/
theorem rd_slc {W : World} {t e : TypeId} (ht : P.underlying t = some (.slice e)) {k : Nat} (hc : P.cellsOf e = k) (hk : 0 < k) {α : Type} {row : α → List C} {ok : α → Prop}
    (hrd : ∀ (n : Nat) (cs : List Value) (y : DataW H × List MemPlace), DataW.trod enc P W 0 (fun _ => true) true n e cs = some y → WtOk P e y.1 → ∃ x : α, ok x ∧ cs.length = k ∧ RdRow W (fun _ => False) (row x) cs)
    {fuel : Nat} {cs : List Value} {y : DataW H × List MemPlace} (h : DataW.trod enc P W 0 (fun _ => true) true fuel t cs = some y) (hw : WtOk P t y.1) :
    ∃ (L : List α) (v : Value), cs = [v] ∧ Rd1 W (fun _ => False) (.list (L.map row)) v ∧ (∀ x ∈ L, ok x) ∧ L.length * P.bytesOf e ≤ reachBytes := by
  rcases DataW.trod_slice ht h with ⟨rfl, _⟩ | ⟨a, len, cap, elems, rest, n, _, rfl, rfl, hb, hle, hcap, hlen, hel, _, _⟩
  · exact ⟨[], _, rfl, ⟨none, 0, rfl, Nat.le_refl _, Nat.zero_le _, .inl rfl⟩, by simp, by simp⟩
  · have hwt : (elems.length + rest.length) * P.bytesOf e ≤ reachBytes ∧ ∀ x ∈ elems, WtOk P e x.1 := by
      unfold WtOk at hw
      simp only [DataW.weights, ht, List.mem_cons, List.mem_append, List.length_map] at hw
      refine ⟨hw _ (.inl rfl), fun x hx n hn => hw n (.inr (.inl ?_))⟩
      exact weights_mem_all (List.mem_map.2 ⟨x, hx, rfl⟩) n hn
    have hbig : len * P.bytesOf e ≤ reachBytes := Nat.le_trans (Nat.mul_le_mul_right _ (by omega)) hwt.1
    have hcell : ∀ i, i < len → ∃ (x : α) (cs : List Value), ok x ∧ W.cells? 0 (a.add (i * k)) k = some cs ∧ cs.length = k ∧ RdRow W (fun _ => False) (row x) cs := by
      intro i hi
      have hb' := hel i hi
      rw [List.getElem?_eq_getElem (by omega), hc, Option.bind_eq_some_iff] at hb'
      obtain ⟨cs, h1, h2⟩ := hb'
      obtain ⟨x, hx, hl, hr⟩ := hrd _ _ _ h2 (hwt.2 _ (List.getElem_mem _))
      exact ⟨x, cs, hx, h1, hl, hr⟩
    by_cases h0 : len = 0
    · subst h0
      exact ⟨[], _, rfl, ⟨some a, cap, rfl, Nat.zero_le _, hcap, .inl rfl⟩, by simp, by simp⟩
    · have key : ∀ m, m ≤ len → ∃ (L : List α) (vs : List Value), L.length = m ∧ vs.length = m * k ∧ RdRows W (fun _ => False) k (L.map row) vs ∧ (∀ x ∈ L, ok x) ∧ ∀ j, j < m * k → W.cell? (a.add j) = vs[j]? := by
        intro m
        induction m with
        | zero => exact fun _ => ⟨[], [], rfl, by simp, rfl, by simp, fun j hj => by omega⟩
        | succ m ih =>
          intro hm
          obtain ⟨L, vs, e1, e2, e3, e5, e4⟩ := ih (by omega)
          obtain ⟨x, cs, hx, h1, h2, h3⟩ := hcell m (by omega)
          obtain ⟨_, _, hcc⟩ := World.cells?_some h1
          refine ⟨L ++ [x], vs ++ cs, by simp [e1], by rw [List.length_append, e2, h2, Nat.add_mul, Nat.one_mul], ?_, ?_, ?_⟩
          · rw [List.map_append]
            exact rdRows_append e3 ⟨cs, [], by simp, h2, h3, rfl⟩
          · intro z hz
            rcases List.mem_append.1 hz with hz | hz
            · exact e5 z hz
            · rw [List.mem_singleton.1 hz]; exact hx
          · intro j hj
            rw [Nat.add_mul, Nat.one_mul] at hj
            by_cases hlt : j < m * k
            · rw [List.getElem?_append_left (by omega)]
              exact e4 j hlt
            · rw [List.getElem?_append_right (by omega), e2]
              have h5 := hcc (j - m * k) (by omega)
              rw [← h5]
              have e : (a.add (m * k)).add (j - m * k) = a.add j := by
                generalize m * k = mk at *
                unfold Addr.add
                by_cases h1 : mk = 0
                · rw [if_pos h1, show j - mk = j by omega]
                · rw [if_neg h1, if_neg (show ¬ j = 0 by omega)]
                  by_cases h2 : j - mk = 0
                  · rw [if_pos h2, show mk = j by omega]
                  · rw [if_neg h2]
                    simp only [Addr.mk.injEq, and_true, true_and]
                    omega
              rw [e]
      obtain ⟨L, vs, e1, e2, e3, e5, e4⟩ := key len (Nat.le_refl _)
      have hpos : 0 < len * k := Nat.mul_pos (by omega) hk
      have hsp : a.spot = none := by
        have h5 := e4 0 hpos
        rw [List.getElem?_eq_getElem (by omega)] at h5
        simpa [Addr.add] using World.cell?_spot h5
      obtain ⟨b, off, sp⟩ := a
      simp only at hsp
      subst hsp
      refine ⟨L, _, rfl, ⟨some ⟨b, off, none⟩, cap, by rw [List.length_map, e1], by rw [List.length_map, e1]; exact hle, hcap, .inr ⟨b, off, vs, k, rfl, id, ?_, hk, e3⟩⟩, e5, by rw [e1]; exact hbig⟩
      intro j u hj
      have hjl := (List.getElem?_eq_some_iff.1 hj).1
      have := e4 j (by omega)
      rw [add_at] at this
      rw [this]
      exact hj
theorem rd_i64 {W : World} {t : TypeId} (ht : P.underlying t = some (.int .i64)) {fuel : Nat} {cs : List Value} {y : DataW H × List MemPlace} (h : DataW.trod enc P W 0 (fun _ => true) true fuel t cs = some y) : ∃ n : Int, cs = [.int .i64 n] ∧ (-9223372036854775808 ≤ n ∧ n ≤ 9223372036854775807) := by
  obtain ⟨n, rfl, _, hw⟩ := DataW.trod_int ht h
  exact ⟨n, rfl, by simpa [Lit.wf, IntKind.min, IntKind.max, IntKind.signed, IntKind.bits] using hw⟩
theorem rd_str {W : World} {t : TypeId} (ht : P.underlying t = some .string) {fuel : Nat} {cs : List Value} {y : DataW H × List MemPlace} (h : DataW.trod enc P W 0 (fun _ => true) true fuel t cs = some y) : ∃ s : ByteArray, cs = [.string s] := by
  obtain ⟨s, rfl, _⟩ := DataW.trod_string ht h
  exact ⟨s, rfl⟩
end Go.Vc
end

section
namespace Go.Proofs.Ytpolnonbgaolkaa
open Go.ChangeShapes Go.WideShapes Go.ChangeAt Go.RowKit Go.Vc Go.Deep

theorem own : ownKnob Try.prog.godebug = none := by kernel_rfl
theorem laidOut : laidOutB Try.prog = true := by kernel_rfl
theorem l2_of {α : Type} {l : List α} (h : l.length = 2) : ∃ a b, l = [a, b] := by
  match l, h with
  | [a, b], _ => exact ⟨a, b, rfl⟩
theorem l3_of {α : Type} {l : List α} (h : l.length = 3) : ∃ a b c, l = [a, b, c] := by
  match l, h with
  | [a, b, c], _ => exact ⟨a, b, c, rfl⟩
theorem l5_of {α : Type} {l : List α} (h : l.length = 5) : ∃ a b c d e, l = [a, b, c, d, e] := by
  match l, h with
  | [a, b, c, d, e], _ => exact ⟨a, b, c, d, e, rfl⟩
theorem l8_of {α : Type} {l : List α} (h : l.length = 8) : ∃ a b c d e f g i, l = [a, b, c, d, e, f, g, i] := by
  match l, h with
  | [a, b, c, d, e, f, g, i], _ => exact ⟨a, b, c, d, e, f, g, i, rfl⟩
theorem fit_of {n b : Nat} (h : n * b ≤ reachBytes) (hb : 0 < b) : n ≤ 140737488355328 := Nat.le_trans (Nat.le_mul_of_pos_right n hb) (Nat.le_trans h (by decide))
section
variable {H : Type} {enc : TypeId × Value → H} {W : World} {fuel : Nat} {cs : List Value} {y : DataW H × List MemPlace}
theorem rd_list (h : DataW.trod enc Try.prog W 0 (fun _ => true) true fuel 33 cs = some y) (hw : WtOk Try.prog 33 y.1) : ∃ (L : List Int) (v : Value), cs = [v] ∧ Rd1 W (fun _ => False) (.list (L.map Irow)) v ∧ L.length ≤ 140737488355328 := by
  obtain ⟨L, v, e, hr, _, hb⟩ := rd_slc (row := Irow) (ok := fun _ => True) Try.underlying33 (k := 1) (by kernel_rfl) (by decide) (fun n cs y h _ => by
    obtain ⟨m, rfl, _⟩ := rd_i64 Try.underlying3 h
    exact ⟨m, trivial, rfl, _, _, rfl, ⟨rfl, rfl⟩, rfl⟩) h hw
  exact ⟨L, v, e, hr, fit_of hb (of_decide_eq_true (by kernel_rfl))⟩
theorem rd_op (h : DataW.trod enc Try.prog W 0 (fun _ => true) true fuel 59 cs = some y) (hw : WtOk Try.prog 59 y.1) : ∃ x : Opx, True ∧ cs.length = 5 ∧ RdRow W (fun _ => False) (Opx.row x) cs := by
  obtain ⟨hl, m, hf⟩ := rd_field Try.underlying59 (by kernel_rfl) (by kernel_rfl) h hw
  obtain ⟨c0, c1, c2, c3, c4, rfl⟩ := l5_of hl
  obtain ⟨z0, g0, _⟩ := hf 0 _ c0 rfl rfl
  obtain ⟨z1, g1, _⟩ := hf 1 _ c1 rfl rfl
  obtain ⟨z2, g2, _⟩ := hf 2 _ c2 rfl rfl
  obtain ⟨z3, g3, _⟩ := hf 3 _ c3 rfl rfl
  obtain ⟨z4, g4, _⟩ := hf 4 _ c4 rfl rfl
  obtain ⟨n0, e0, _⟩ := rd_i64 (by kernel_rfl) g0
  obtain ⟨n1, e1, _⟩ := rd_i64 (by kernel_rfl) g1
  obtain ⟨n2, e2, _⟩ := rd_i64 (by kernel_rfl) g2
  obtain ⟨n3, e3, _⟩ := rd_i64 (by kernel_rfl) g3
  obtain ⟨n4, e4, _⟩ := rd_i64 (by kernel_rfl) g4
  simp only [List.cons.injEq, and_true] at e0 e1 e2 e3 e4
  subst e0 e1 e2 e3 e4
  exact ⟨⟨n0, n1, n2, n3, n4⟩, trivial, rfl, _, _, rfl, ⟨rfl, rfl⟩, _, _, rfl, ⟨rfl, rfl⟩, _, _, rfl, ⟨rfl, rfl⟩, _, _, rfl, ⟨rfl, rfl⟩, _, _, rfl, ⟨rfl, rfl⟩, rfl⟩
theorem rd_block (h : DataW.trod enc Try.prog W 0 (fun _ => true) true fuel 35 cs = some y) (hw : WtOk Try.prog 35 y.1) : ∃ x : Bk, (x.ops.length ≤ 140737488355328 ∧ x.next.length ≤ 140737488355328) ∧ cs.length = 3 ∧ RdRow W (fun _ => False) (Bk.row x) cs := by
  obtain ⟨hl, m, hf⟩ := rd_field Try.underlying35 (by kernel_rfl) (by kernel_rfl) h hw
  obtain ⟨c0, c1, c2, rfl⟩ := l3_of hl
  obtain ⟨z0, g0, w0⟩ := hf 0 _ c0 rfl rfl
  obtain ⟨z1, g1, _⟩ := hf 1 _ c1 rfl rfl
  obtain ⟨z2, g2, w2⟩ := hf 2 _ c2 rfl rfl
  obtain ⟨L, v, e0, r0, _, b0⟩ := rd_slc (row := Opx.row) (ok := fun _ => True) (e := 59) (by kernel_rfl) (k := 5) (by kernel_rfl) (by decide) (fun n cs y h hw => rd_op h hw) g0 w0
  obtain ⟨n1, e1, _⟩ := rd_i64 (by kernel_rfl) g1
  obtain ⟨N, u, e2, r2, b2⟩ := rd_list g2 w2
  simp only [List.cons.injEq, and_true] at e0 e1 e2
  subst e0 e1 e2
  exact ⟨⟨L, n1, N⟩, ⟨fit_of b0 (of_decide_eq_true (by kernel_rfl)), b2⟩, rfl, _, _, rfl, r0, _, _, rfl, ⟨rfl, rfl⟩, _, _, rfl, r2, rfl⟩
theorem rd_input (h : DataW.trod enc Try.prog W 0 (fun _ => true) true fuel 64 cs = some y) (hw : WtOk Try.prog 64 y.1) : ∃ x : Inp, True ∧ cs.length = 3 ∧ RdRow W (fun _ => False) (InRow x) cs := by
  obtain ⟨hl, m, hf⟩ := rd_field Try.underlying64 (by kernel_rfl) (by kernel_rfl) h hw
  obtain ⟨c0, c1, c2, rfl⟩ := l3_of hl
  obtain ⟨z0, g0, _⟩ := hf 0 _ c0 rfl rfl
  obtain ⟨z1, g1, _⟩ := hf 1 _ c1 rfl rfl
  obtain ⟨z2, g2, _⟩ := hf 2 _ c2 rfl rfl
  obtain ⟨s, e0⟩ := rd_str (by kernel_rfl) g0
  obtain ⟨n1, e1, _⟩ := rd_i64 (by kernel_rfl) g1
  obtain ⟨n2, e2, _⟩ := rd_i64 (by kernel_rfl) g2
  simp only [List.cons.injEq, and_true] at e0 e1 e2
  subst e0 e1 e2
  exact ⟨(s, n1, n2), trivial, rfl, _, _, rfl, ⟨rfl, rfl⟩, _, _, rfl, ⟨rfl, rfl⟩, _, _, rfl, ⟨rfl, rfl⟩, rfl⟩
theorem rd_array (h : DataW.trod enc Try.prog W 0 (fun _ => true) true fuel 66 cs = some y) (hw : WtOk Try.prog 66 y.1) : ∃ x : Arr, True ∧ cs.length = 2 ∧ RdRow W (fun _ => False) (ArRow x) cs := by
  obtain ⟨hl, m, hf⟩ := rd_field Try.underlying66 (by kernel_rfl) (by kernel_rfl) h hw
  obtain ⟨c0, c1, rfl⟩ := l2_of hl
  obtain ⟨z0, g0, _⟩ := hf 0 _ c0 rfl rfl
  obtain ⟨z1, g1, _⟩ := hf 1 _ c1 rfl rfl
  obtain ⟨s, e0⟩ := rd_str (by kernel_rfl) g0
  obtain ⟨n1, e1, _⟩ := rd_i64 (by kernel_rfl) g1
  simp only [List.cons.injEq, and_true] at e0 e1
  subst e0 e1
  exact ⟨(s, n1), trivial, rfl, _, _, rfl, ⟨rfl, rfl⟩, _, _, rfl, ⟨rfl, rfl⟩, rfl⟩
theorem rd_head (h : DataW.trod enc Try.prog W 0 (fun _ => true) true fuel 42 cs = some y) (hw : WtOk Try.prog 42 y.1) : ∃ x : Hd, True ∧ cs.length = 2 ∧ RdRow W (fun _ => False) (HdRow x) cs := by
  obtain ⟨hl, m, hf⟩ := rd_field Try.underlying42 (by kernel_rfl) (by kernel_rfl) h hw
  obtain ⟨c0, c1, rfl⟩ := l2_of hl
  obtain ⟨z0, g0, _⟩ := hf 0 _ c0 rfl rfl
  obtain ⟨z1, g1, _⟩ := hf 1 _ c1 rfl rfl
  obtain ⟨n0, e0, _⟩ := rd_i64 (by kernel_rfl) g0
  obtain ⟨n1, e1, _⟩ := rd_i64 (by kernel_rfl) g1
  simp only [List.cons.injEq, and_true] at e0 e1
  subst e0 e1
  exact ⟨(n0, n1), trivial, rfl, _, _, rfl, ⟨rfl, rfl⟩, _, _, rfl, ⟨rfl, rfl⟩, rfl⟩
set_option maxRecDepth 100000 in
theorem rd_graph {base : Nat} {r : Reach} {v : Value} {d : DataW H} {ps : List MemPlace} (hv : Value.okWide Try.prog W r base 28 v) (h : DataW.Trod enc Try.prog W 0 (fun _ => true) true 28 v d ps) (hw : WtOk Try.prog 28 d) : ∃ g : Gh, GhS g ∧ SOk W (fun _ => False) (.row g.row) v := by
  obtain ⟨cs, rfl, _⟩ := okWide_struct Try.underlying28 hv
  obtain ⟨fuel, hf0⟩ := h
  obtain ⟨hl, m, hf⟩ := rd_field Try.underlying28 (by kernel_rfl) (by kernel_rfl) hf0 hw
  obtain ⟨l⟩ := cs
  have ecs : (Value.agg ⟨l⟩).cells.toList = l := by simp [Value.cells]
  rw [ecs] at hl hf
  obtain ⟨c0, c1, c2, c3, c4, c5, c6, c7, rfl⟩ := l8_of hl
  obtain ⟨z0, g0, w0⟩ := hf 0 _ c0 rfl rfl
  obtain ⟨z1, g1, _⟩ := hf 1 _ c1 rfl rfl
  obtain ⟨z2, g2, _⟩ := hf 2 _ c2 rfl rfl
  obtain ⟨z3, g3, w3⟩ := hf 3 _ c3 rfl rfl
  obtain ⟨z4, g4, _⟩ := hf 4 _ c4 rfl rfl
  obtain ⟨z5, g5, w5⟩ := hf 5 _ c5 rfl rfl
  obtain ⟨z6, g6, w6⟩ := hf 6 _ c6 rfl rfl
  obtain ⟨z7, g7, w7⟩ := hf 7 _ c7 rfl rfl
  obtain ⟨I, v0, e0, r0, _, b0⟩ := rd_slc (row := InRow) (ok := fun _ => True) (e := 64) (by kernel_rfl) (k := 3) (by kernel_rfl) (by decide) (fun n cs y h hw => rd_input h hw) g0 w0
  obtain ⟨n1, e1, hn1⟩ := rd_i64 (by kernel_rfl) g1
  obtain ⟨n2, e2, _⟩ := rd_i64 (by kernel_rfl) g2
  obtain ⟨A, v3, e3, r3, _, b3⟩ := rd_slc (row := ArRow) (ok := fun _ => True) (e := 66) (by kernel_rfl) (k := 2) (by kernel_rfl) (by decide) (fun n cs y h hw => rd_array h hw) g3 w3
  obtain ⟨n4, e4, _⟩ := rd_i64 (by kernel_rfl) g4
  obtain ⟨B, v5, e5, r5, o5, b5⟩ := rd_slc (row := Bk.row) (e := 35) (by kernel_rfl) (k := 3) (by kernel_rfl) (by decide) (fun n cs y h hw => rd_block h hw) g5 w5
  obtain ⟨Q, v6, e6, r6, o6, b6⟩ := rd_slc (row := NRow) (ok := fun l => l.length ≤ 140737488355328) (e := 33) (by kernel_rfl) (k := 1) (by kernel_rfl) (by decide) (fun n cs y h hw => by
    obtain ⟨L, v, rfl, hr, hb⟩ := rd_list h hw
    exact ⟨L, hb, rfl, _, _, rfl, hr, rfl⟩) g6 w6
  obtain ⟨Hs, v7, e7, r7, _, b7⟩ := rd_slc (row := HdRow) (ok := fun _ => True) (e := 42) (by kernel_rfl) (k := 2) (by kernel_rfl) (by decide) (fun n cs y h hw => rd_head h hw) g7 w7
  simp only [List.cons.injEq, and_true] at e0 e1 e2 e3 e4 e5 e6 e7
  subst e0 e1 e2 e3 e4 e5 e6 e7
  refine ⟨⟨I, n1, n2, A, n4, B, Q, Hs⟩, ⟨hn1, fit_of b0 (of_decide_eq_true (by kernel_rfl)), fit_of b3 (of_decide_eq_true (by kernel_rfl)), fit_of b7 (of_decide_eq_true (by kernel_rfl)), fit_of b6 (of_decide_eq_true (by kernel_rfl)), fit_of b5 (of_decide_eq_true (by kernel_rfl)), fun b hb => (o5 b hb).1, fun b hb => (o5 b hb).2, o6⟩, _, rfl, ?_⟩
  exact ⟨_, _, rfl, r0, _, _, rfl, ⟨rfl, rfl⟩, _, _, rfl, ⟨rfl, rfl⟩, _, _, rfl, r3, _, _, rfl, ⟨rfl, rfl⟩, _, _, rfl, r5, _, _, rfl, r6, _, _, rfl, r7, rfl⟩
end
end Go.Proofs.Ytpolnonbgaolkaa
end

section
namespace Go.Proofs.Ytpolnonbgaolkaa.unrollRaw
open Go.ChangeShapes Go.WideShapes Go.ChangeAt Go.RowKit Go.Vc Go.Joins

set_option maxRecDepth 100000 in
theorem contract (H : Type) (enc : TypeId × Value → H) (W : World) (base : Nat) (args : Array Value) (ds gs : List (DataW H)) (before : List MemPlace)
    (hval : ∀ (j : Nat) t v, Try.f3.params[j]? = some t → args[j]? = some v → Value.okWide Try.prog W .any base t v)
    (hsz : (DataW.weightsEach Try.prog (Try.f3.params.toList ++ (OpenSpec.ofChange Rows.unrollRawSpec).bare.plain.varTypes Try.prog) (ds ++ gs)).all (· ≤ reachBytes) = true)
    (hW : DataW.Whole enc Try.prog Try.f3.params.toList Rows.unrollRawSpec.vars false W args.toList ds gs before) :
    Calls Try.prog 3 args W fun e W' => ∃ v, e = .returned v ∧ Rows.unrollRawSpec.post enc Try.prog Try.f3 false true false false W args v W' := by
  have hW' := hW
  obtain ⟨p, q, hA0, hV, rfl, hfz, hnd⟩ := hW
  have hA : DataW.TrodAll enc Try.prog W 0 (fun _ => true) true Try.f3.params.toList args.toList ds p := hA0
  rw [Try.params3] at hA hval
  obtain ⟨v0, vs0, d0, ds0, p0, q0, hargs, rfl, rfl, h0, r0⟩ := trodAll_cons hA
  obtain ⟨v1, vs1, d1, ds1, p1, q1, rfl, rfl, rfl, h1, r1⟩ := trodAll_cons r0
  obtain ⟨rfl, rfl, rfl⟩ := trodAll_nil r1
  obtain rfl : args = #[v0, v1] := by cases args; simp_all
  obtain ⟨rfl, rfl⟩ := trodVars_none hV
  obtain ⟨g0, hs0, hr0⟩ := rd_graph (hval 0 28 v0 rfl rfl) h0 (WtOk.each (fun n hn => by simpa using List.all_eq_true.1 hsz n hn) (j := 0) rfl rfl)
  obtain ⟨n1, rfl, rfl, rfl, w1⟩ := open_int Try.underlying3 (hval 1 3 v1 rfl rfl) h1
  have hn1 : -9223372036854775808 ≤ n1 ∧ n1 ≤ 9223372036854775807 := by simpa [Lit.wf, IntKind.min, IntKind.max, IntKind.signed, IntKind.bits] using w1
  refine (con_run (vs := [v0, .int .i64 n1]) (unrollRaw_c g0 hs0 n1) ⟨_, _, rfl, hr0, _, _, rfl, ⟨rfl, rfl⟩, rfl⟩).mono ?_
  rintro e W' ⟨rfl, hb⟩
  exact ⟨_, rfl, law_post rfl hW' rfl rfl rfl rfl Try.underlying4 laidOut (by kernel_rfl) hb⟩

/-- A world for the witness: as the program's start lays it. -/
noncomputable def laidWorld (os : Os) : World := World.doorLaid Try.prog 400 os
theorem laid_met (os : Os) (args : Array Value) : laidMet Try.prog Rows.unrollRawRow.laid ((laidWorld os).forCall (fun _ _ => 0) ⟨#[], args, []⟩).memory :=
  laidMet_of_run' 8 (by kernel_rfl) (by kernel_rfl)
theorem reads (os : Os) {H : Type} (enc : TypeId × Value → H) : ∃ places, DataW.whole enc Try.prog ((laidWorld os).forCall (fun _ _ => 0) ⟨#[], #[.agg #[.slice none 0 0, .int .i64 0, .int .i64 0, .slice none 0 0, .int .i64 0, .slice none 0 0, .slice none 0 0, .slice none 0 0], .int .i64 0], []⟩).memory Try.f3.params.toList Rows.unrollRawSpec.vars false #[Value.agg #[.slice none 0 0, .int .i64 0, .int .i64 0, .slice none 0 0, .int .i64 0, .slice none 0 0, .slice none 0 0, .slice none 0 0], .int .i64 0].toList 8 = some ([.agg [.nil, .lit (.int .i64 0), .lit (.int .i64 0), .nil, .lit (.int .i64 0), .nil, .nil, .nil], .lit (.int .i64 0)], [], places) :=
  ⟨[], by kernel_rfl⟩

set_option maxRecDepth 100000 in
theorem lifted (os : Os) (started : os.Started) (H : Type) (enc : TypeId × Value → H) (F : Stop.Interp) :
    ReturnsInHanded {} Try.checked os 3 .any ((OpenSpec.ofChange Rows.unrollRawSpec).preRow enc Try.prog Try.f3 Rows.unrollRawRow.domain false Rows.unrollRawRow.laid) (((OpenSpec.ofChange Rows.unrollRawSpec).at F).post enc Try.prog Try.f3 false true false false) := by
  obtain ⟨places, hx⟩ := reads os enc
  refine returnsInHanded_of_row (C := Try.checked) (s := OpenSpec.ofChange Rows.unrollRawSpec) own started (by kernel_rfl) Try.func3
    (witness_row_at (enc := enc) (C := Try.checked) false (laidWorld os) _ rfl (by kernel_rfl) (by kernel_rfl) (by kernel_rfl)
      (OpenSpec.preRow_of_cond 8 hx (by kernel_rfl) (fun k hk => by cases hk) (by kernel_rfl) (laid_met os _))) ?_
  intro W base args ds gs before hval hW _ _ hsz hL _ _
  exact contract H enc W base args ds gs before hval hsz hW

theorem proved : Rows.UnrollRawSaid :=
  OpenClaim.holds_of_cond 3 Try.f3 rfl rfl rfl rfl rfl rfl rfl ⟨rfl, rfl, rfl, rfl, rfl⟩ rfl rfl rfl rfl rfl (by kernel_rfl) Try.func3 (by kernel_rfl)
    (of_decide_eq_true (by kernel_rfl)) (by unfold Func.isWrapper; first | (rw [if_pos (by decide +kernel)]; kernel_rfl) | (rw [if_neg (by decide +kernel)]; exact ⟨rfl, rfl⟩))
    (fun os started H enc _ F => by rw [OpenClaim.pre_eq_preRow]; exact lifted os started H enc F)

end Go.Proofs.Ytpolnonbgaolkaa.unrollRaw
end
