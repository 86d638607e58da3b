import Derived.Test.YtjnfamgjffnfiaaDoorVc4
import Derived.Laws.AppendOwnNone
namespace Go.Vc
open Go.RowKit

section
variable {P : Program} [Gl P] {nt : Nat} {c : Cx P nt} {env : Env} {H : List Ch} {K : S → List Ch → Prop}
variable {d : Option Tmp} {ty t t' : TypeId} {pos : String} {af : Array Edge} {g : Option (Nat × Bool)} {x y : Operand}

/-! Append, to a slice of one's own -/
theorem ow_append0F {v : Value} {k : Nat} {rows rows2 : List (List C)} {Hr : List Ch} [SL P t] {z : Value} (j : Nat) (hz : (TI.i P (SL.e P t)).zero = some z)
    (hzs : z.cells.size = k) (hsz : (TI.i P (SL.e P t)).size = k) (hx : env.ev x = some (.cell (.val v))) (hy : env.ev y = some (.cell (.list rows2))) (hp : pick [j] H = some ([.own v (SL.e P t) k rows], Hr))
    (hrow : ∀ row ∈ rows2, row.length = k) (hlim : (rows.length + rows2.length) * (TI.i P (SL.e P t)).bytes ≤ 140737488355328) (hlim2 : rows.length + rows2.length ≤ 9223372036854775807)
    (hK : ∀ v', v'.oneCell' = true → (c.Fresh v → c.Fresh v') → K (.cell (.val v')) (.own v' (SL.e P t) k (rows ++ rows2) :: Hr)) :
    OpWp c ⟨d, .call { callee := .builtin .append, args := #[x, y], argTypes := #[t, t] }, ty, pos, af, g⟩ env H K := by
  intro a w h next Q hn
  have hperm := pick_perm hp
  have h' : StW c (.own v (SL.e P t) k rows :: Hr) w := h.heap.perm hperm
  have hav : c.av (.own v (SL.e P t) k rows :: Hr) = c.av H := av_perm c hperm
  obtain ⟨vs, ho, hr, hk⟩ := h'.ok (.own v (SL.e P t) k rows) (by simp)
  have h1x := ev_val h hx
  obtain ⟨ad, cap, hye, _, _, hcase⟩ := ev_ok h hy
  -- what a good outcome is
  have fin : ∀ v' w' vs2, (Builtin.append_ #[t, t] ty #[v, a.eval y]).run P w = .ok v' w' → w'.ownsRow 0 (SL.e P t) k v' (rows.length + rows2.length) (vs ++ vs2) → w.grownBy w' v.ownBlock → (∀ b, v'.ownBlock = some b → v.ownBlock = some b ∨ w.heap.size ≤ b) → RdRows w (c.av H) k rows2 vs2 →
      Oper.wp P ⟨d, .call { callee := .builtin .append, args := #[x, y], argTypes := #[t, t] }, ty, pos, af, g⟩ a w next Q := by
    intro v' w' vs2 hrun ho' hg hnew hr2
    have hgr : Grow (hb [.own v (SL.e P t) k rows]) w w' := by
      have := Grow.of_grownBy hg
      simpa [hb, Ch.bs] using this
    have hAold : ∀ b, c.av (.own v' (SL.e P t) k (rows ++ rows2) :: Hr) b → c.av H b ∨ w.heap.size ≤ b := by
      intro b hbm
      rcases hbm with hbm | hbm
      · exact .inl (.inl hbm)
      · simp only [hb_cons, Ch.bs, List.mem_append, Option.mem_toList] at hbm
        rw [← hav]
        rcases hbm with hbm | hbm
        · rcases hnew b hbm with h1 | h1
          · exact .inl (.inr (by simp [hb_cons, Ch.bs, h1]))
          · exact .inr h1
        · exact .inl (.inr (by simp only [hb_cons, List.mem_append]; exact .inr hbm))
    have hupA : Up (c.av H) w w' := by
      refine hgr.up (fun b hbm => ?_)
      rw [← hav]
      exact .inr (by simp only [hb, List.flatMap_cons, List.flatMap_nil, List.append_nil] at hbm; simp only [hb_cons, List.mem_append]; exact .inl hbm)
    obtain ⟨s1, s2⟩ := StW.step (H1 := [.own v (SL.e P t) k rows]) (H1' := [.own v' (SL.e P t) k (rows ++ rows2)]) h' hgr
      (by
        intro b hbm
        simp only [hb, Ch.bs, List.flatMap_cons, List.flatMap_nil, List.append_nil, Option.mem_toList] at hbm ⊢
        exact hnew b hbm)
      (by cases hv : v'.ownBlock <;> simp [hb, Ch.bs, hv])
      (by
        intro ch hch
        simp only [List.mem_singleton] at hch
        subst hch
        refine ⟨vs ++ vs2, ?_, ?_, hk⟩
        · rw [List.length_append]; exact ho'
        · refine rdRows_append (rdRows_up hupA hAold k rows vs (hav ▸ hr)) (rdRows_up hupA hAold k rows2 vs2 hr2))
    unfold Oper.wp
    have hex : (execOp a.eval ⟨d, .call { callee := .builtin .append, args := #[x, y], argTypes := #[t, t] }, ty, pos, af, g⟩).run P w = .ok (.value v') w' := by
      simp only [execOp, resolve, invoke, builtin, Sem.run_bind, Sem.run_pure, Result.andThen_ok, List.map_toArray, List.map_cons, List.map_nil, h1x, hrun]
    rw [hex]
    obtain ⟨al, ac, hv'⟩ := own_len ho'
    have h1' : v'.oneCell' = true := by rw [hv']; rfl
    exact hn _ _ _ _ (hK v' h1' (fun hf b hb => (hnew b hb).elim (hf b) (fun h => Nat.le_trans h'.size h))) s1 ⟨rfl, h1'⟩ (fun s v hs => s2 s v (by rw [List.singleton_append, hav]; exact hs))
  by_cases hzero : rows2.length = 0
  · have h0 : rows2 = [] := List.eq_nil_of_length_eq_zero hzero
    subst h0
    cases ad with
    | none =>
      have hrun : (Builtin.append_ #[t, t] ty #[v, a.eval y]).run P w = .ok v w := by
        obtain ⟨al, ac, hv⟩ := own_len ho
        have hacc : rows.length ≤ ac := by
          rcases ho.2 with ⟨rfl, h0⟩ | ⟨g', cap', cur, rfl, _, _, hle, _⟩
          · simp only [Value.slice.injEq] at hv; omega
          · simp only [Value.slice.injEq] at hv; omega
        rw [hye, hv]
        simp [Builtin.append_, run_elem t, run_sizeOf, Builtin.lenOf, Builtin.firstCells, hacc, storeCells]
        cases al <;> simp
      exact fin v w [] hrun (by simpa using ho) ⟨rfl, rfl, rfl, Nat.le_refl _, fun _ _ _ => rfl⟩ (fun b hb => .inl hb) rfl
    | some ad =>
      obtain ⟨v', w', hrun, ho', hg, _⟩ := run_append_own (P := P) w 0 t ty (SL.e P t) (TI.i P (SL.e P t)) z k _ SL.hs (TI.hi) hz hsz rfl hzs hk v rows.length vs ho ad 0 cap [] (by simp) (by simp) (by simp) (by unfold maxLen; simp at hlim2 ⊢; omega) (by simpa using hlim) (Nat.zero_le _)
      have hye' : a.eval y = .slice (some ad) 0 cap := hye
      rw [← hye'] at hrun
      refine fin v' w' [] hrun (by simpa using ho') hg ?_ rfl
      intro b hb
      by_cases hlt : b < w.heap.size
      · obtain ⟨al, ac, hv⟩ := own_len ho
        have hacc : rows.length ≤ ac := by
          rcases ho.2 with ⟨rfl, h0⟩ | ⟨g', cap', cur, rfl, _, _, hle, _⟩
          · simp only [Value.slice.injEq] at hv; omega
          · simp only [Value.slice.injEq] at hv; omega
        left
        rw [hye', hv] at hrun
        simp [Builtin.append_, run_elem t, run_sizeOf, Builtin.lenOf, Builtin.firstCells, hacc, loadCells, loadCellsFrom] at hrun
        cases al with
        | none =>
          simp at hrun
          rw [← hrun.1] at hb
          simp [Value.ownBlock] at hb
        | some al =>
          simp [storeCells] at hrun
          rw [← hrun.1] at hb
          rw [hv]
          exact hb
      · exact .inr (by omega)
  · rcases hcase with hcase | ⟨b, off, vs2, k2, rfl, hnA, hc2, hk2, hr2⟩
    · exact absurd hcase hzero
    · have hk2' : k2 = k := by
        match rows2, hr2, hrow, hzero with
        | r0 :: _, hr2, hrow, _ =>
          obtain ⟨c1, _, _, h1, h2, _⟩ := hr2
          rw [← h1, rdRow_length h2]
          exact hrow r0 (by simp)
      subst hk2'
      obtain ⟨v', w', hrun, ho', hg, _⟩ := run_append_own (P := P) w 0 t ty (SL.e P t) (TI.i P (SL.e P t)) z k2 _ SL.hs (TI.hi) hz hsz rfl hzs hk v rows.length vs ho ⟨b, off, none⟩ rows2.length cap vs2 (rdRows_length hr2) (by intro j u hj; rw [add_at]; exact hc2 j u hj) (rdRows_one hr2) (by unfold maxLen; omega) hlim (Nat.zero_le _)
      rw [← hye] at hrun
      refine fin v' w' vs2 hrun ho' hg ?_ hr2
      intro b' hb'
      by_cases hlt : b' < w.heap.size
      · left
        -- the row of v' is v's own, or new
        rcases ho.2 with ⟨rfl, h0⟩ | ⟨g', cap', cur, rfl, _, hh, hle, hcm, hcs, _⟩
        · exfalso
          have hr' := run_append_nil (P := P) w t ty (SL.e P t) (TI.i P (SL.e P t)) z SL.hs TI.hi hz ⟨b, off, none⟩ rows2.length cap vs2 (by rw [hsz]; exact rdRows_length hr2) (by intro j u hj; rw [add_at]; exact hc2 j u hj) (by omega) (by omega) (by have hbb := hlim; rw [h0] at hbb; simp only [Nat.zero_add] at hbb; omega)
          rw [hye, hr'] at hrun
          simp only [Result.ok.injEq] at hrun
          rw [← hrun.1] at hb'
          simp [Value.ownBlock] at hb'
          omega
        · by_cases hroom : rows.length + rows2.length ≤ cap'
          · have hfit : rows.length * k2 + vs2.length ≤ cur.size := by rw [rdRows_length hr2, hcs, ← Nat.add_mul]; exact Nat.mul_le_mul_right _ hroom
            have hr' := run_append_room (P := P) w t ty (SL.e P t) (TI.i P (SL.e P t)) SL.hs TI.hi g' rows.length cap' cur hh ⟨b, off, none⟩ rows2.length cap vs2 (by rw [hsz]; exact rdRows_length hr2) (by intro j u hj; rw [add_at]; exact hc2 j u hj) (rdRows_one hr2) hroom (by rw [hsz]; exact hfit)
            rw [hye, hr'] at hrun
            simp only [Result.ok.injEq] at hrun
            rw [← hrun.1] at hb'
            exact hb'
          · exfalso
            have holds : ∀ j u, vs[j]? = some u → w.cell? ((⟨g', 0, none⟩ : Addr).add j) = some u := ho.cells (g := g') rfl
            have hr' := run_append_grow (P := P) w t ty (SL.e P t) (TI.i P (SL.e P t)) z SL.hs TI.hi hz ⟨g', 0, none⟩ rows.length cap' vs (by rw [hsz]; exact ho.1) holds ⟨b, off, none⟩ rows2.length cap vs2 (by rw [hsz]; exact rdRows_length hr2) (by intro j u hj; rw [add_at]; exact hc2 j u hj) (by omega) (by omega) (growslice_fits (by omega) hlim)
            rw [hye, hr'] at hrun
            simp only [Result.ok.injEq] at hrun
            rw [← hrun.1] at hb'
            simp [Value.ownBlock] at hb'
            omega
      · exact .inr (by omega)

/-- Append, as it is met: the owned slice first. -/
theorem ow_appendF {v : Value} {e : TypeId} {k : Nat} {rows rows2 : List (List C)} {Hr : List Ch} [SL P t] {z : Value} (j : Nat) (hx : env.ev x = some (.cell (.val v))) (hp : pick [j] H = some ([.own v e k rows], Hr)) (hy : env.ev y = some (.cell (.list rows2)))
    (he : SL.e P t = e) (hz : (TI.i P (SL.e P t)).zero = some z) (hzs : z.cells.size = k) (hsz : (TI.i P (SL.e P t)).size = k)
    (hrow : ∀ row ∈ rows2, row.length = k) (hlim : (rows.length + rows2.length) * (TI.i P (SL.e P t)).bytes ≤ 140737488355328) (hlim2 : rows.length + rows2.length ≤ 9223372036854775807)
    (hK : ∀ v', v'.oneCell' = true → (c.Fresh v → c.Fresh v') → K (.cell (.val v')) (.own v' e k (rows ++ rows2) :: Hr)) :
    OpWp c ⟨d, .call { callee := .builtin .append, args := #[x, y], argTypes := #[t, t] }, ty, pos, af, g⟩ env H K := by
  subst he
  exact ow_append0F j hz hzs hsz hx hy hp hrow hlim hlim2 hK
/-- .. where rows are what a function makes of other things. -/
theorem ow_appendMF {α : Type} {f : α → List C} {v : Value} {e : TypeId} {k : Nat} {l1 l2 : List α} {Hr : List Ch} [SL P t] {z : Value} (j : Nat) (hx : env.ev x = some (.cell (.val v))) (hp : pick [j] H = some ([.own v e k (l1.map f)], Hr)) (hy : env.ev y = some (.cell (.list (l2.map f))))
    (he : SL.e P t = e) (hz : (TI.i P (SL.e P t)).zero = some z) (hzs : z.cells.size = k) (hsz : (TI.i P (SL.e P t)).size = k)
    (hrow : ∀ a, (f a).length = k) (hlim : (l1.length + l2.length) * (TI.i P (SL.e P t)).bytes ≤ 140737488355328) (hlim2 : l1.length + l2.length ≤ 9223372036854775807)
    (hK : ∀ v', v'.oneCell' = true → (c.Fresh v → c.Fresh v') → K (.cell (.val v')) (.own v' e k ((l1 ++ l2).map f) :: Hr)) :
    OpWp c ⟨d, .call { callee := .builtin .append, args := #[x, y], argTypes := #[t, t] }, ty, pos, af, g⟩ env H K :=
  ow_appendF j hx hp hy he hz hzs hsz (by intro r hr; obtain ⟨a, _, rfl⟩ := List.mem_map.1 hr; exact hrow a) (by simpa using hlim) (by simpa using hlim2) (by simpa using hK)
theorem ow_append1F {α : Type} {f : α → List C} {v : Value} {e : TypeId} {k : Nat} {l1 : List α} {Hr : List Ch} [SL P t] {z : Value} (j : Nat) (a : α) (hx : env.ev x = some (.cell (.val v))) (hp : pick [j] H = some ([.own v e k (l1.map f)], Hr)) (hy : env.ev y = some (.cell (.list [f a])))
    (he : SL.e P t = e) (hz : (TI.i P (SL.e P t)).zero = some z) (hzs : z.cells.size = k) (hsz : (TI.i P (SL.e P t)).size = k)
    (hrow : ∀ a, (f a).length = k) (hlim : (l1.length + 1) * (TI.i P (SL.e P t)).bytes ≤ 140737488355328) (hlim2 : l1.length + 1 ≤ 9223372036854775807)
    (hK : ∀ v', v'.oneCell' = true → (c.Fresh v → c.Fresh v') → K (.cell (.val v')) (.own v' e k ((l1 ++ [a]).map f) :: Hr)) :
    OpWp c ⟨d, .call { callee := .builtin .append, args := #[x, y], argTypes := #[t, t] }, ty, pos, af, g⟩ env H K :=
  ow_appendMF (l2 := [a]) j hx hp hy he hz hzs hsz hrow (by simpa using hlim) (by simpa using hlim2) hK

/-- Append, as it is met: the owned slice first. -/
theorem ow_append {v : Value} {e : TypeId} {k : Nat} {rows rows2 : List (List C)} {Hr : List Ch} [SL P t] {z : Value} (j : Nat) (hx : env.ev x = some (.cell (.val v))) (hp : pick [j] H = some ([.own v e k rows], Hr)) (hy : env.ev y = some (.cell (.list rows2)))
    (he : SL.e P t = e) (hz : (TI.i P (SL.e P t)).zero = some z) (hzs : z.cells.size = k) (hsz : (TI.i P (SL.e P t)).size = k)
    (hrow : ∀ row ∈ rows2, row.length = k) (hlim : (rows.length + rows2.length) * (TI.i P (SL.e P t)).bytes ≤ 140737488355328) (hlim2 : rows.length + rows2.length ≤ 9223372036854775807)
    (hK : ∀ v', v'.oneCell' = true → K (.cell (.val v')) (.own v' e k (rows ++ rows2) :: Hr)) :
    OpWp c ⟨d, .call { callee := .builtin .append, args := #[x, y], argTypes := #[t, t] }, ty, pos, af, g⟩ env H K := by
  subst he
  exact ow_append0F j hz hzs hsz hx hy hp hrow hlim hlim2 (fun v' h _ => hK v' h)
/-- .. where rows are what a function makes of other things. -/
theorem ow_appendM {α : Type} {f : α → List C} {v : Value} {e : TypeId} {k : Nat} {l1 l2 : List α} {Hr : List Ch} [SL P t] {z : Value} (j : Nat) (hx : env.ev x = some (.cell (.val v))) (hp : pick [j] H = some ([.own v e k (l1.map f)], Hr)) (hy : env.ev y = some (.cell (.list (l2.map f))))
    (he : SL.e P t = e) (hz : (TI.i P (SL.e P t)).zero = some z) (hzs : z.cells.size = k) (hsz : (TI.i P (SL.e P t)).size = k)
    (hrow : ∀ a, (f a).length = k) (hlim : (l1.length + l2.length) * (TI.i P (SL.e P t)).bytes ≤ 140737488355328) (hlim2 : l1.length + l2.length ≤ 9223372036854775807)
    (hK : ∀ v', v'.oneCell' = true → K (.cell (.val v')) (.own v' e k ((l1 ++ l2).map f) :: Hr)) :
    OpWp c ⟨d, .call { callee := .builtin .append, args := #[x, y], argTypes := #[t, t] }, ty, pos, af, g⟩ env H K :=
  ow_append j hx hp hy he hz hzs hsz (by intro r hr; obtain ⟨a, _, rfl⟩ := List.mem_map.1 hr; exact hrow a) (by simpa using hlim) (by simpa using hlim2) (by simpa using hK)
theorem ow_append1 {α : Type} {f : α → List C} {v : Value} {e : TypeId} {k : Nat} {l1 : List α} {Hr : List Ch} [SL P t] {z : Value} (j : Nat) (a : α) (hx : env.ev x = some (.cell (.val v))) (hp : pick [j] H = some ([.own v e k (l1.map f)], Hr)) (hy : env.ev y = some (.cell (.list [f a])))
    (he : SL.e P t = e) (hz : (TI.i P (SL.e P t)).zero = some z) (hzs : z.cells.size = k) (hsz : (TI.i P (SL.e P t)).size = k)
    (hrow : ∀ a, (f a).length = k) (hlim : (l1.length + 1) * (TI.i P (SL.e P t)).bytes ≤ 140737488355328) (hlim2 : l1.length + 1 ≤ 9223372036854775807)
    (hK : ∀ v', v'.oneCell' = true → K (.cell (.val v')) (.own v' e k ((l1 ++ [a]).map f) :: Hr)) :
    OpWp c ⟨d, .call { callee := .builtin .append, args := #[x, y], argTypes := #[t, t] }, ty, pos, af, g⟩ env H K :=
  ow_appendM (l2 := [a]) j hx hp hy he hz hzs hsz hrow (by simpa using hlim) (by simpa using hlim2) hK

theorem own_eq {v : Value} {e : TypeId} {k : Nat} {r r' : List (List C)} {Hs Hr : List Ch} (h : r = r') : (some (Ch.own v e k r :: Hs, Hr) : Option (List Ch × List Ch)) = some (Ch.own v e k r' :: Hs, Hr) := by rw [h]

/-- A nil slice of one's own: at any time. -/
theorem own_nil_ok (w : World) (A : Nat → Prop) (e : TypeId) (k : Nat) (hk : 0 < k) : (Ch.own (.slice none 0 0) e k []).ok w A := ⟨[], World.ownsRow_nil w 0 e k, rfl, hk⟩
theorem stw_ownNil {w : World} (h : StW c H w) (e : TypeId) (k : Nat) (hk : 0 < k) : StW c (.own (.slice none 0 0) e k [] :: H) w ∧ c.av (.own (.slice none 0 0) e k [] :: H) = c.av H := by
  have hbe : hb (.own (.slice none 0 0) e k [] :: H) = hb H := by simp [hb_cons, Ch.bs, Value.ownBlock]
  have hav : c.av (.own (.slice none 0 0) e k [] :: H) = c.av H := by funext b; simp only [Cx.av, hbe]
  refine ⟨⟨h.os, h.tape, h.output, h.size, h.block, ?_, by rw [hbe]; exact h.nodup, by rw [hbe]; exact h.mine, by rw [hav]; exact h.gl⟩, hav⟩
  intro ch hch
  rw [hav]
  rcases List.mem_cons.1 hch with rfl | hch
  · exact own_nil_ok w _ e k hk
  · exact h.ok ch hch
theorem st_ownNil {a : Act} {w : World} (h : St c env H a w) (e : TypeId) (k : Nat) (hk : 0 < k) : St c env (.own (.slice none 0 0) e k [] :: H) a w := by
  obtain ⟨h1, h2⟩ := stw_ownNil h.heap e k hk
  exact ⟨h.size, h.defers, fun i s hi => by rw [h2]; exact h.slots i s hi, h1⟩

/-- What is owned no longer: it is only read from here on. -/
theorem stw_freezeG {w : World} {v : Value} {e : TypeId} {k : Nat} {rows : List (List C)} {Hr : List Ch} (h : StW c (.own v e k rows :: Hr) w) (hX : ∀ b, v.ownBlock = some b → b ∉ hb Hr → b ∈ hb (.own v e k rows :: Hr) → ¬ c.A b) :
    StW c Hr w ∧ Rd1 w (c.av Hr) (.list rows) v ∧ (∀ s u, SOk w (c.av (.own v e k rows :: Hr)) s u → SOk w (c.av Hr) s u) := by
  have h' : StW c ([.own v e k rows] ++ Hr) w := h
  obtain ⟨d1, d2⟩ := h'.drop
  refine ⟨d1, ?_, d2⟩
  obtain ⟨vs, ho, hr, hk⟩ := h.ok (.own v e k rows) (by simp)
  have hnd := h.nodup
  rw [hb_cons, List.nodup_append] at hnd
  rcases ho.2 with ⟨rfl, h0⟩ | ⟨g', cap, cur, rfl, _, hh, hle, hcm, hcs, htk⟩
  · have : rows = [] := List.eq_nil_of_length_eq_zero h0
    subst this
    exact ⟨none, 0, rfl, Nat.le_refl _, Nat.zero_le _, .inl rfl⟩
  · have hgb : g' ∈ hb (.own (.slice (some ⟨g', 0, none⟩) rows.length cap) e k rows :: Hr) := by simp [hb_cons, Ch.bs, Value.ownBlock]
    have hgn : g' ∉ hb Hr := fun hx => hnd.2.2 g' (by simp [Ch.bs, Value.ownBlock]) g' hx rfl
    have hgA : ¬ c.av Hr g' := by
      intro hx
      rcases hx with hx | hx
      · exact hX g' rfl hgn hgb hx
      · exact hgn hx
    have hu : Up (c.av (.own (.slice (some ⟨g', 0, none⟩) rows.length cap) e k rows :: Hr)) w w := Up.refl _ _
    have hr' := rdRows_up hu (A' := c.av Hr) (fun b hb => .inl (by rcases hb with hb | hb; exact .inl hb; exact .inr (by rw [hb_cons]; exact List.mem_append.2 (.inr hb)))) k rows vs hr
    refine ⟨some ⟨g', 0, none⟩, cap, rfl, hle, hcm, .inr ⟨g', 0, vs, k, rfl, hgA, ?_, hk, hr'⟩⟩
    have hc : Cells w g' 0 cur.toList := by simpa using cells_of_blk (cs := cur.toList) (by simpa using hh) 0
    rw [← htk]
    exact cells_take hc _
theorem stw_freeze {w : World} {v : Value} {e : TypeId} {k : Nat} {rows : List (List C)} {Hr : List Ch} (h : StW c (.own v e k rows :: Hr) w) (hX : ∀ b ∈ c.X, b ∈ hb Hr) :
    StW c Hr w ∧ Rd1 w (c.av Hr) (.list rows) v ∧ (∀ s u, SOk w (c.av (.own v e k rows :: Hr)) s u → SOk w (c.av Hr) s u) :=
  stw_freezeG h (fun b _ hn hb hx => by
    rcases h.mine b hb with h1 | h1
    · exact hn (hX b h1)
    · have := c.bnd b hx; omega)
theorem stw_freezeF {w : World} {v : Value} {e : TypeId} {k : Nat} {rows : List (List C)} {Hr : List Ch} (h : StW c (.own v e k rows :: Hr) w) (hX : c.Fresh v) :
    StW c Hr w ∧ Rd1 w (c.av Hr) (.list rows) v ∧ (∀ s u, SOk w (c.av (.own v e k rows :: Hr)) s u → SOk w (c.av Hr) s u) :=
  stw_freezeG h (fun b hb _ _ hx => by have := hX b hb; have := c.bnd b hx; omega)
end
end Go.Vc
