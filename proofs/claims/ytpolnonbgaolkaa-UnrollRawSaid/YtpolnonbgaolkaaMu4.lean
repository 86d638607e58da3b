import Derived.Test.YtpolnonbgaolkaaMu3
import Derived.Laws.StructEq
section
namespace Go.Vc
open Go.RowKit
set_option maxHeartbeats 1000000

section
variable {P : Program}
/-- Two parts, and whether they are alike. -/
structure PtEq (P : Program) (u : TypeId) (a b : Value) (r : Bool) : Prop where
  agg : ∀ w, (isAgg u).run P w = .ok false w
  run : ∀ w d, (Op.equalIn (d + 1) u a b).run P w = .ok r w
theorem eq_int {u : TypeId} [TI P u] {k k' : IntKind} (m n : Int) (hu : P.underlying u = some (.int k')) (ha : aggB (TI.u P u) = false) : PtEq P u (.int k m) (.int k n) (decide (m = n)) :=
  ⟨fun w => by rw [run_isAgg, ha], fun w d => by rw [run_equalIn_int w d u k k' m n hu]; congr 1⟩
theorem eq_str {u : TypeId} [TI P u] (a b : ByteArray) (hu : P.underlying u = some .string) (ha : aggB (TI.u P u) = false) : PtEq P u (.string a) (.string b) (decide (a = b)) :=
  ⟨fun w => by rw [run_isAgg, ha], fun w d => by
    rw [run_equalIn_string w d u a b hu, ← beq_toListBytes]
    congr 1
    by_cases h : a = b
    · subst h
      rw [decide_eq_true rfl, beq_toListBytes]
      simp
    · rw [decide_eq_false h, beq_toListBytes]
      rw [beq_eq_false_iff_ne]
      intro e
      apply h
      rw [ByteArray.toList_eq, ByteArray.toList_eq] at e
      cases a; cases b
      congr 1
      exact Array.ext' e⟩
def fldsB : List Field → List TypeId → Nat → Bool
  | [], [], _ => true
  | f :: fs, u :: us, j => decide (f.name ≠ "_") && decide (f.offset = j) && decide (f.type = u) && fldsB fs us (j + 1)
  | _, _, _ => false
theorem run_eqF {w : World} {d : Nat} {xs ys : Array Value} : ∀ (L : List (TypeId × Value × Value × Bool)) (fs : List Field) (j : Nat), fldsB fs (L.map (·.1)) j = true → (∀ i x, L[i]? = some x → xs[j + i]? = some x.2.1 ∧ ys[j + i]? = some x.2.2.1 ∧ PtEq P x.1 x.2.1 x.2.2.1 x.2.2.2) →
    (Op.eqFields (d + 1) xs ys fs).run P w = .ok (L.all (·.2.2.2)) w
  | [], [], _, _, _ => by simp [Op.eqFields]
  | [], _ :: _, _, h, _ => by simp [fldsB] at h
  | _ :: _, [], _, h, _ => by simp [fldsB] at h
  | (u, a, b, r) :: L, f :: fs, j, h, hh => by
    simp only [List.map_cons, fldsB, Bool.and_eq_true, decide_eq_true_eq] at h
    obtain ⟨⟨⟨hn, ho⟩, ht⟩, hr⟩ := h
    obtain ⟨h1, h2, h3⟩ := hh 0 (u, a, b, r) rfl
    rw [Nat.add_zero] at h1 h2
    have hp : ∀ (cs : Array Value) (v : Value) (w : World), cs[j]? = some v → (part u cs j).run P w = .ok v w := by
      intro cs v w hv
      simp only [part, Sem.run_bind, h3.agg, Result.andThen_ok, Bool.false_eq_true, if_false, hv, Sem.run_pure]
    simp only [Op.eqFields, if_pos hn, ht, ho, Sem.run_bind]
    rw [hp xs a w h1, Result.andThen_ok, hp ys b w h2, Result.andThen_ok, h3.run, Result.andThen_ok]
    have ih := run_eqF (w := w) (d := d) (xs := xs) (ys := ys) L fs (j + 1) hr (fun i x hx => by
      have := hh (i + 1) x hx
      rwa [show j + (i + 1) = j + 1 + i by omega] at this)
    cases r with
    | true => simp only [Bool.not_true, Bool.false_eq_true, if_false, List.all_cons, Bool.true_and]; exact ih
    | false => simp
/-- What is asked of a struct's type, to compare its values. -/
structure Flds (P : Program) (t : TypeId) (us : List TypeId) : Prop where
  ht : P.underlying t = some (.struct (P.fieldsOf t))
  hp : P.stoodInHeld t = false
  hm : P.eqGuardType P.depth t = false
  hf : fldsB (P.fieldsOf t).toList us 0 = true
end
section
variable {P : Program} [Gl P] {nt : Nat} {c : Cx P nt} {env : Env} {H : List Ch} {K : S → List Ch → Prop}
variable {d : Option Tmp} {ty t t' : TypeId} {pos : String} {af : Array Edge} {g : Option (Nat × Bool)} {x y : Operand}
theorem row_vals {a : Act} {w : World} {z : Operand} {vs : List Value} (h : St c env H a w) (hz : env.ev z = some (.row (vs.map C.val))) : a.eval z = .agg vs.toArray := by
  obtain ⟨cs, he, hr⟩ := ev_ok h hz
  rw [he]
  congr 1
  apply Array.ext'
  rw [List.toList_toArray]
  clear he hz
  generalize cs.toList = l at hr
  clear cs
  induction vs generalizing l with
  | nil => exact hr
  | cons v vs ih =>
    obtain ⟨u, r, rfl, ⟨rfl, _⟩, h2⟩ := hr
    rw [ih r h2]
theorem ow_eqS (L : List (TypeId × Value × Value × Bool)) (h2 : Flds P t (L.map (·.1))) (hx : env.ev x = some (.row ((L.map (·.2.1)).map C.val))) (hy : env.ev y = some (.row ((L.map (·.2.2.1)).map C.val))) (hL : ∀ q ∈ L, PtEq P q.1 q.2.1 q.2.2.1 q.2.2.2)
    (hK : K (Bl (L.all (·.2.2.2))) H) : OpWp c ⟨d, .binOp .eql t x y t', ty, pos, af, g⟩ env H K :=
  ow_valx rfl (fun ac w h => by
    have e := run_eqF (P := P) (w := w) (d := 9998) (xs := (L.map (·.2.1)).toArray) (ys := (L.map (·.2.2.1)).toArray) L _ 0 h2.hf (fun i q hq => ⟨by simp [hq], by simp [hq], hL q (List.mem_of_getElem? hq)⟩)
    simp only [execOp, row_vals h hx, row_vals h hy, Sem.run_bind, run_eqGuard_agg w _ _ _ _ _ _ h2.hm, Result.andThen_ok, run_eql_struct, run_equalIn_agg w 9999 t _ _ h2.ht h2.hp, e, Sem.run_pure]) hK
theorem ow_neqS (L : List (TypeId × Value × Value × Bool)) (h2 : Flds P t (L.map (·.1))) (hx : env.ev x = some (.row ((L.map (·.2.1)).map C.val))) (hy : env.ev y = some (.row ((L.map (·.2.2.1)).map C.val))) (hL : ∀ q ∈ L, PtEq P q.1 q.2.1 q.2.2.1 q.2.2.2)
    (hK : K (Bl (!(L.all (·.2.2.2)))) H) : OpWp c ⟨d, .binOp .neq t x y t', ty, pos, af, g⟩ env H K :=
  ow_valx rfl (fun ac w h => by
    have e := run_eqF (P := P) (w := w) (d := 9998) (xs := (L.map (·.2.1)).toArray) (ys := (L.map (·.2.2.1)).toArray) L _ 0 h2.hf (fun i q hq => ⟨by simp [hq], by simp [hq], hL q (List.mem_of_getElem? hq)⟩)
    simp only [execOp, row_vals h hx, row_vals h hy, Sem.run_bind, run_eqGuard_agg w _ _ _ _ _ _ h2.hm, Result.andThen_ok, run_neq_struct, run_equalIn_agg w 9999 t _ _ h2.ht h2.hp, e, Sem.run_pure]) hK
/-- Five integers. -/
theorem ow_eq5 {u : TypeId} [TI P u] {k : IntKind} {a0 a1 a2 a3 a4 b0 b1 b2 b3 b4 : Int} (h2 : Flds P t [u, u, u, u, u]) (hu : P.underlying u = some (.int k)) (ha : aggB (TI.u P u) = false)
    (hx : env.ev x = some (.row [.val (.int k a0), .val (.int k a1), .val (.int k a2), .val (.int k a3), .val (.int k a4)])) (hy : env.ev y = some (.row [.val (.int k b0), .val (.int k b1), .val (.int k b2), .val (.int k b3), .val (.int k b4)]))
    (hK : K (Bl (decide (a0 = b0) && (decide (a1 = b1) && (decide (a2 = b2) && (decide (a3 = b3) && decide (a4 = b4)))))) H) : OpWp c ⟨d, .binOp .eql t x y t', ty, pos, af, g⟩ env H K := by
  refine ow_eqS [(u, .int k a0, .int k b0, decide (a0 = b0)), (u, .int k a1, .int k b1, decide (a1 = b1)), (u, .int k a2, .int k b2, decide (a2 = b2)), (u, .int k a3, .int k b3, decide (a3 = b3)), (u, .int k a4, .int k b4, decide (a4 = b4))] h2 hx hy ?_ (by simpa only [List.all_cons, List.all_nil, Bool.and_true] using hK)
  intro q hq
  simp only [List.mem_cons, List.not_mem_nil, or_false] at hq
  rcases hq with rfl | rfl | rfl | rfl | rfl <;> exact eq_int _ _ hu ha
/-- An element of a slice of one's own, by its number. -/
theorem ow_indexOwnE [SL P t] {v : Value} {e : TypeId} {k : Nat} {rows : List (List C)} {Hr : List Ch} {m : Int} (j i : Nat) (hx : env.ev x = some (.cell (.val v))) (hp : pick [j] H = some ([.own v e k rows], Hr)) (hy : env.ev y = some (In .i64 m)) (hm : m = (i : Int)) (hlt : i < rows.length)
    (hz : (TI.i P (SL.e P t)).size = k) (hK : K (.cell (.inn v (i * k))) H) : OpWp c ⟨d, .indexAddr t x y, ty, pos, af, g⟩ env H K := by
  subst hm
  exact ow_indexOwn j hx hp hy (by omega) (by rw [Int.toNat_natCast]; exact hlt) hz (by rw [Int.toNat_natCast]; exact hK)
/-- A struct beside itself. -/
theorem ow_neqSame (us : List (TypeId × Value)) (h2 : Flds P t (us.map (·.1))) (hx : env.ev x = some (.row ((us.map (·.2)).map C.val))) (hy : env.ev y = some (.row ((us.map (·.2)).map C.val))) (hL : ∀ q ∈ us, PtEq P q.1 q.2 q.2 true)
    (hK : K (Bl false) H) : OpWp c ⟨d, .binOp .neq t x y t', ty, pos, af, g⟩ env H K := by
  have h1 : (us.map fun q => (q.1, q.2, q.2, true)).map (·.1) = us.map (·.1) := by rw [List.map_map]; rfl
  have h3 : (us.map fun q => (q.1, q.2, q.2, true)).map (·.2.1) = us.map (·.2) := by rw [List.map_map]; rfl
  have h4 : (us.map fun q => (q.1, q.2, q.2, true)).map (·.2.2.1) = us.map (·.2) := by rw [List.map_map]; rfl
  refine ow_neqS (us.map fun q => (q.1, q.2, q.2, true)) (by rw [h1]; exact h2) (by rw [h3]; exact hx) (by rw [h4]; exact hy) (fun q hq => ?_) ?_
  · obtain ⟨r, hr, rfl⟩ := List.mem_map.1 hq
    exact hL r hr
  · have : (us.map fun q => (q.1, q.2, q.2, true)).all (·.2.2.2) = true := by
      rw [List.all_eq_true]
      intro q hq
      obtain ⟨r, hr, rfl⟩ := List.mem_map.1 hq
      rfl
    rw [this]
    exact hK
omit [Gl P] in
theorem eq_intS {u : TypeId} [TI P u] {k k' : IntKind} (m : Int) (hu : P.underlying u = some (.int k')) (ha : aggB (TI.u P u) = false) : PtEq P u (.int k m) (.int k m) true := by
  have := eq_int (P := P) (u := u) (k := k) m m hu ha
  rwa [decide_eq_true rfl] at this
omit [Gl P] in
theorem eq_strS {u : TypeId} [TI P u] (a : ByteArray) (hu : P.underlying u = some .string) (ha : aggB (TI.u P u) = false) : PtEq P u (.string a) (.string a) true := by
  have := eq_str (P := P) (u := u) a a hu ha
  rwa [decide_eq_true rfl] at this
end
end Go.Vc
end

section
namespace Go.Vc
open Go.RowKit
def SLes : List S → List S → Prop
  | [], [] => True
  | s :: ss, t :: tt => SLe s t ∧ SLes ss tt
  | _, _ => False
theorem sles_ok {w : World} {A : Nat → Prop} : ∀ {ss tt : List S}, SLes ss tt → ∀ vs, SOks w A ss vs → SOks w A tt vs
  | [], [], _, _, h => h
  | s :: ss, t :: tt, hh, vs, h => by
    obtain ⟨v, r, rfl, h1, h2⟩ := h
    exact ⟨v, r, rfl, hh.1 _ _ _ h1, sles_ok hh.2 r h2⟩
  | [], _ :: _, hh, _, _ => hh.elim
  | _ :: _, [], hh, _, _ => hh.elim
theorem con_args {P : Program} [Gl P] {f : FuncId} {ss ss' : List S} {Hin : List Ch} {post : (S → List Ch → Prop) → Prop} (con : Con P f ss Hin post) (h : SLes ss' ss) : Con P f ss' Hin post :=
  fun vs w A h1 h2 h3 h4 h5 h6 => con vs w A h1 h2 h3 (sles_ok h vs h4) h5 h6
section
variable {P : Program} [Gl P] {nt : Nat} {c : Cx P nt} {env : Env} {H Hr : List Ch} {L : List (Nat × List Value × TypeId)} {t ty : TypeId} {pos : String} {af : Array Edge} {x : Operand}
theorem hok_loadAllK {d : Option Tmp} {b : Nat} {row : List C} {bt : TypeId} {cs : List Value} [TI P t] (j : Nat) (ha : aggB (TI.u P t) = true) (hx : env.ev x = some (.cell (.val (.pointer (some ⟨b, 0, none⟩))))) (hp : pick [j] H = some ([.blk b bt row], Hr))
    (hm : (b, cs, bt) ∈ L) (hz : (TI.i P t).size = row.length) : HOk c (Keep L) env H ⟨d, .load t x, ty, pos, af, none⟩ (.row (row.map unk)) :=
  fun a w hst hS => by
    obtain ⟨v, h1, cs', h2, h3⟩ := hok_loadAll (d := d) (ty := ty) (pos := pos) (af := af) j ha hx hp hm hz a w hst hS
    exact ⟨v, h1, cs', h2, rdRow_unk h3⟩
end
section
variable {P : Program} [Gl P] {nt : Nat} {c : Cx P nt} {env : Env} {H Hr : List Ch} {K : S → List Ch → Prop}
end
section
variable {P : Program} [Gl P] {nt : Nat} {c : Cx P nt} {env : Env} {H Hr : List Ch} {ops : Array Oper} {Q : Exit → Act → World → Prop} {Sw : World → Prop}
variable {m fuel : Nat} {listed : Array Bool} {i j d : Nat} {op : Op} {ty : TypeId} {pos : String} {af : Array Edge} {want b : Bool}
end
section
variable {P : Program} [Gl P] {nt : Nat} {c : Cx P nt} {env : Env} {H : List Ch} {Sw : World → Prop} {t ty : TypeId} {pos : String} {af : Array Edge} {x y : Operand} {d : Option Tmp}
theorem hok_indexMapE [SL P t] {α : Type} {f : α → List C} {l : List α} {k : Nat} {row : List C} (hx : env.ev x = some (.cell (.list (l.map f)))) (hy : env.ev y = some (In .i64 (k : Int)))
    (hlt : k < l.length) (hrow : f l[k] = row) (hz : (TI.i P (SL.e P t)).size = row.length) (hp : 0 < row.length) : HOk c Sw env H ⟨d, .indexAddr t x y, ty, pos, af, none⟩ (.cell (.place row)) :=
  hok_indexList hx hy (by omega) (by subst hrow; simp [List.getElem?_eq_getElem hlt]) hz hp
end
end Go.Vc
end

section
namespace Go.Vc
variable {P : Program} [Gl P] {nt : Nat} {c : Cx P nt} {env : Env} {H : List Ch} {ops : Array Oper} {Q : Exit → Act → World → Prop} {Sw : World → Prop} {m fuel : Nat} {listed : Array Bool}
/-- What every step of a region that draws its order asks of what follows, shown once. -/
theorem hp_pani (hQ : PanI Q) (h : PanI Q → HP c ops Q Sw m fuel listed env H) : HP c ops Q Sw m fuel listed env H := h hQ
end Go.Vc
end

section
namespace Go.Proofs.Ytpolnonbgaolkaa
open Go.Vc
attribute [local irreducible] JL JC JQ OpWp Con ConN HOk
set_option maxHeartbeats 4000000

theorem rSize_c (n : Int) : Con Try.prog 74 [In .i64 n] [] (fun K => K (Bl (pwB n)) []) := by
  refine con_intro Try.func74 rfl rfl (Nat.le_of_ble_eq_true rfl) (fun c hc => R_ (E_ r_ (T_ (R_ (M_ r_ (o_ r_ (bn_ r_ r_ (M_ r_ (jl_or 2 2 rfl rfl rfl rfl (nb rfl) ?_)))))))))
  apply Exists.intro
  refine ⟨fun hb1 => ?_, ?_⟩
  exact ah_ r_ h_ b_ (bd_ r_ (ah_ r_ h_ b_ (bn_ r_ r_ (ak_ (jq_seg 2 rfl rfl rfl (List.Perm.refl _))))))
  refine M_ r_ (jl_or 2 6 rfl rfl rfl rfl (nb rfl) ?_)
  apply Exists.intro
  refine ⟨fun hb1 => ?_, ?_⟩
  exact ah_ r_ h_ b_ (bd_ r_ (ah_ r_ h_ b_ (bn_ r_ r_ (ak_ (jq_seg 2 rfl rfl rfl (List.Perm.refl _))))))
  refine M_ r_ (jl_or 2 10 rfl rfl rfl rfl (nb rfl) ?_)
  apply Exists.intro
  refine ⟨fun hb1 => ?_, ?_⟩
  exact ah_ r_ h_ b_ (bd_ r_ (ah_ r_ h_ b_ (bn_ r_ r_ (ak_ (jq_seg 2 rfl rfl rfl (List.Perm.refl _))))))
  refine M_ r_ (jl_or 2 14 rfl rfl rfl rfl (nb rfl) ?_)
  apply Exists.intro
  refine ⟨fun hb1 => ?_, ?_⟩
  exact ah_ r_ h_ b_ (bd_ r_ (ah_ r_ h_ b_ (bn_ r_ r_ (ak_ (jq_seg 2 rfl rfl rfl (List.Perm.refl _))))))
  refine E_ r_ (T_ (ar_ (jq_ret1 rfl rfl [] rfl (fun K h => h))))
theorem rIn_c (k n : Int) : Con Try.prog 76 [In .i64 k, In .i64 n] [] (fun K => K (Bl (inN k n)) []) := by
  refine con_intro Try.func76 rfl rfl (Nat.le_of_ble_eq_true rfl) (fun c hc => R_ (E_ r_ (T_ (R_ (M_ r_ (o_ r_ (cn_ r_ r_ (M_ r_ (jl_and 3 2 rfl rfl rfl rfl (nb rfl) ?_)))))))))
  apply Exists.intro
  refine ⟨fun hb1 => ?_, ?_⟩
  exact ah_ r_ h_ b_ (bd_ r_ (ah_ r_ h_ b_ (bd_ r_ (ah_ r_ h_ b_ (bw_ r_ r_ (ak_ (jq_seg 3 rfl rfl rfl (List.Perm.refl _))))))))
  refine E_ r_ (T_ (ar_ (jq_ret1 rfl rfl [] rfl (fun K h => h))))
theorem wrdB_lt (n : Int) : (decide (-2147483648 ≤ n) && decide (n < 2147483648)) = wrdB n := by
  unfold wrdB
  rw [show decide (n < 2147483648) = decide (n ≤ 2147483647) by rw [decide_eq_decide]; omega]
theorem rWord_c (n : Int) : Con Try.prog 73 [In .i64 n] [] (fun K => K (Bl (wrdB n)) []) := by
  rw [← wrdB_lt]
  refine con_intro Try.func73 rfl rfl (Nat.le_of_ble_eq_true rfl) (fun c hc => R_ (E_ r_ (T_ (R_ (M_ r_ (o_ r_ (cn_ r_ r_ (M_ r_ (jl_and 2 2 rfl rfl rfl rfl (nb rfl) ?_)))))))))
  apply Exists.intro
  refine ⟨fun hb1 => ?_, ?_⟩
  exact ah_ r_ h_ b_ (bd_ r_ (ah_ r_ h_ b_ (bw_ r_ r_ (ak_ (jq_seg 2 rfl rfl rfl (List.Perm.refl _))))))
  refine E_ r_ (T_ (ar_ (jq_ret1 rfl rfl [] rfl (fun K h => h))))
theorem rKnown_c (n : Int) : Con Try.prog 99 [In .i64 n] [] (fun K => K (Bl (knB n)) []) := by
  refine con_intro Try.func99 rfl rfl (Nat.le_of_ble_eq_true rfl) (fun c hc => R_ (E_ r_ (T_ (R_ (M_ r_ (o_ r_ (cn_ r_ r_ (M_ r_ (jl_and 2 2 rfl rfl rfl rfl (nb rfl) ?_)))))))))
  apply Exists.intro
  refine ⟨fun hb1 => ?_, ?_⟩
  exact ah_ r_ h_ b_ (bd_ r_ (ah_ r_ h_ b_ (cu_ r_ r_ (ak_ (jq_seg 2 rfl rfl rfl (List.Perm.refl _))))))
  refine E_ r_ (T_ (ar_ (jq_ret1 rfl rfl [] rfl (fun K h => h))))
theorem opF : Flds Try.prog 59 [3, 3, 3, 3, 3] := ⟨by kernel_rfl, by kernel_rfl, by kernel_rfl, by kernel_rfl⟩
/-- Five numbers alike. -/
abbrev e5 (a0 a1 a2 a3 a4 b0 b1 b2 b3 b4 : Int) : Bool := decide (a0 = b0) && (decide (a1 = b1) && (decide (a2 = b2) && (decide (a3 = b3) && decide (a4 = b4))))
def opR (vars arrs : Int) (o : Opx) : Bool :=
  if o.kind = 1 then e5 o.kind o.dst o.a o.b o.imm o.kind o.dst 0 0 o.imm && inN o.dst vars && wrdB o.imm
  else if o.kind = 2 then e5 o.kind o.dst o.a o.b o.imm o.kind o.dst o.a 0 0 && inN o.dst vars && inN o.a vars
  else if o.kind = 3 then inN o.dst vars && inN o.a vars && inN o.b vars && knB o.imm
  else if o.kind = 4 then e5 o.kind o.dst o.a o.b o.imm o.kind o.dst o.a 0 o.imm && inN o.dst vars && inN o.a vars && inN o.imm arrs
  else if o.kind = 5 then e5 o.kind o.dst o.a o.b o.imm o.kind 0 o.a o.b o.imm && inN o.a vars && inN o.b vars && inN o.imm arrs
  else if o.kind = 6 ∨ o.kind = 7 then e5 o.kind o.dst o.a o.b o.imm o.kind 0 0 0 o.imm && inN o.imm 4
  else false
theorem opR_eq (vars arrs : Int) (o : Opx) : opR vars arrs o = opB vars arrs o := by
  unfold opR opB e5
  simp only [decide_true, Bool.true_and, Bool.and_true]
  repeat' split
  all_goals (first | rfl | (generalize inN o.dst vars = p1; generalize inN o.a vars = p2; generalize inN o.b vars = p3; generalize inN o.imm arrs = p4; generalize decide (o.a = 0) = p5; generalize decide (o.b = 0) = p6; generalize decide (o.dst = 0) = p7; generalize decide (o.imm = 0) = p8; generalize wrdB o.imm = p9; generalize inN o.imm 4 = p10; cases p1 <;> cases p2 <;> cases p3 <;> cases p4 <;> cases p5 <;> cases p6 <;> cases p7 <;> cases p8 <;> cases p9 <;> cases p10 <;> rfl))
theorem rOperation_c (g : Gh) (o : Opx) : Con Try.prog 91 [.row g.row, .row o.row] [] (fun K => K (Bl (opR g.vars g.arrays.length o)) []) := by
  have eA : (g.arrays.map ArRow).length = g.arrays.length := List.length_map _
  have hI := rWord_c o.imm
  have hKn := rKnown_c o.imm
  have hD := rIn_c o.dst g.vars
  have hA := rIn_c o.a g.vars
  have hB := rIn_c o.b g.vars
  have hM := rIn_c o.imm ((g.arrays.map ArRow).length : Int)
  have h4' := rIn_c o.imm 4
  rw [show (g.arrays.length : Int) = ((g.arrays.map ArRow).length : Int) by rw [eA]]
  refine con_intro Try.func91 rfl rfl (Nat.le_of_ble_eq_true rfl) (fun c hc => ?_)
  by_cases h1 : o.kind = 1
  · have e := show opR g.vars ((g.arrays.map ArRow).length : Int) o = _ from by
      unfold opR
      rw [if_pos h1]
    rw [e]
    refine R_ (o_ r_ (ci_ r_ (fun bx => o_ r_ (ci_ r_ (fun bx => E_ r_ (T_ (R_ (F_ r_ (L_ 0 r_ (o_ r_ (bu_ r_ r_ r_ r_ r_ (o_ r_ (bl_ r_ r_ (fun bl => S_ 0 r_ (T_ (am_ (R_ (F_ r_ (L_ 1 r_ ?_)))))))))))))))))))
    refine T_ (au_ (R_ (o_ r_ (bn_ r_ r_ (E_ r_ (T_ (aq_ r_ u_ (am_ (jc_hpM 6 (n := 8) rfl 1 k_ rfl (fun cs1 hcs1 hv1 => ?_))))))))))
    obtain ⟨u10, u11, u12, u13, u14, rfl⟩ := len5 hcs1
    obtain rfl := Option.some.inj (hv1 0 _ rfl)
    obtain rfl := Option.some.inj (hv1 1 _ rfl)
    obtain rfl := Option.some.inj (hv1 2 _ rfl)
    obtain rfl := Option.some.inj (hv1 3 _ rfl)
    obtain rfl := Option.some.inj (hv1 4 _ rfl)
    refine hp_know 1 rfl mem0 ?_
    dsimp only [List.zipWith, know]
    refine hp_pani (by (repeat (first | refine pani_then ?_ | refine pani_block ?_)); exact pani_body) (fun hPan => ?_)
    refine df_ (i := 0) r_ k_ k_ k_ b_ hPan (dl_ r_ r_ r_ b_) (df_ (i := 1) r_ k_ k_ k_ b_ hPan (dm_ 0 r_ r_ r_ mem0 r_) (df_ (i := 2) r_ k_ k_ k_ b_ hPan (dl_ r_ r_ r_ b_) (df_ (i := 3) r_ k_ k_ k_ b_ hPan (dm_ 0 r_ r_ r_ mem0 r_) (df_ (i := 4) r_ k_ k_ k_ b_ hPan (dl_ r_ r_ r_ b_) (dh_ (i := 5) r_ k_ (ca_ 1 r_ r_ r_ r_ b_ ⟨?_, ?_⟩))))))
    exact keepK 1 rfl rfl
    refine df_ (i := 6) r_ k_ k_ k_ b_ hPan (dl_ r_ r_ r_ b_) (hp_tail (dj_ (i := 7) rfl k_ (by decide) (ca_ 0 rfl rfl rfl rfl b_ (ht_done k_ ?_))))
    clear hPan
    refine jq_unk _ 0 rfl rfl ?_
    dsimp only [List.map, unk]
    refine al_ (R_ (A_ 1 r_ (A_ 0 r_ (o_ r_ (ow_eq5 opF Try.underlying3 r_ r_ r_ (M_ r_ (jl_and 5 3 rfl rfl rfl rfl (nb rfl) ?_)))))))
    apply Exists.intro
    refine ⟨fun hb1 => ?_, ?_⟩
    exact ah_ r_ h_ b_ (bf_ r_ r_ r_ b_ (ah_ r_ h_ b_ (bg_ 1 r_ r_ r_ r_ (ah_ r_ h_ b_ (bf_ r_ r_ r_ b_ (ah_ r_ h_ b_ (bg_ 2 r_ r_ r_ r_ (ah_ r_ h_ b_ (bm_ r_ (hD) (ak_ (jq_seg 5 rfl rfl rfl (List.Perm.refl _))))))))))))
    refine M_ r_ (jl_and 3 10 rfl rfl rfl rfl (nb rfl) ?_)
    apply Exists.intro
    refine ⟨fun hb1 => ?_, ?_⟩
    exact ah_ r_ h_ b_ (bf_ r_ r_ r_ b_ (ah_ r_ h_ b_ (bg_ 1 r_ r_ r_ r_ (ah_ r_ h_ b_ (bm_ r_ (hI) (ak_ (jq_seg 3 rfl rfl rfl (List.Perm.refl _))))))))
    refine E_ r_ (T_ (ar_ (az_ (aw_ (jq_ret1 rfl rfl [] rfl (fun K h => h))))))
  by_cases h2 : o.kind = 2
  · have e := show opR g.vars ((g.arrays.map ArRow).length : Int) o = _ from by
      unfold opR
      rw [if_neg h1, if_pos h2]
    rw [e]
    refine R_ (o_ r_ (ci_ r_ (fun bx => o_ r_ (ci_ r_ (fun bx => E_ r_ (T_ (R_ (F_ r_ (L_ 0 r_ (o_ r_ (bu_ r_ r_ r_ r_ r_ (o_ r_ (bl_ r_ r_ (fun bl => S_ 0 r_ (T_ (am_ (R_ (F_ r_ (L_ 1 r_ ?_)))))))))))))))))))
    refine T_ (au_ (R_ (o_ r_ (bn_ r_ r_ (E_ r_ (T_ (ap_ r_ w_ (R_ (o_ r_ (bn_ r_ r_ (E_ r_ (T_ (aq_ r_ u_ (am_ (jc_hpM 6 (n := 8) rfl 1 k_ rfl (fun cs1 hcs1 hv1 => ?_))))))))))))))))
    obtain ⟨u10, u11, u12, u13, u14, rfl⟩ := len5 hcs1
    obtain rfl := Option.some.inj (hv1 0 _ rfl)
    obtain rfl := Option.some.inj (hv1 1 _ rfl)
    obtain rfl := Option.some.inj (hv1 2 _ rfl)
    obtain rfl := Option.some.inj (hv1 3 _ rfl)
    obtain rfl := Option.some.inj (hv1 4 _ rfl)
    refine hp_know 1 rfl mem0 ?_
    dsimp only [List.zipWith, know]
    refine hp_pani (by (repeat (first | refine pani_then ?_ | refine pani_block ?_)); exact pani_body) (fun hPan => ?_)
    refine df_ (i := 0) r_ k_ k_ k_ b_ hPan (dl_ r_ r_ r_ b_) (df_ (i := 1) r_ k_ k_ k_ b_ hPan (dm_ 0 r_ r_ r_ mem0 r_) (df_ (i := 2) r_ k_ k_ k_ b_ hPan (dl_ r_ r_ r_ b_) (df_ (i := 3) r_ k_ k_ k_ b_ hPan (dm_ 0 r_ r_ r_ mem0 r_) (df_ (i := 4) r_ k_ k_ k_ b_ hPan (dl_ r_ r_ r_ b_) (dh_ (i := 5) r_ k_ (ca_ 1 r_ r_ r_ r_ b_ ⟨?_, ?_⟩))))))
    exact keepK 1 rfl rfl
    refine df_ (i := 6) r_ k_ k_ k_ b_ hPan (dl_ r_ r_ r_ b_) (hp_tail (dj_ (i := 7) rfl k_ (by decide) (ca_ 0 rfl rfl rfl rfl b_ (ht_done k_ ?_))))
    clear hPan
    refine jq_unk _ 0 rfl rfl ?_
    dsimp only [List.map, unk]
    refine al_ (R_ (A_ 1 r_ (A_ 0 r_ (o_ r_ (ow_eq5 opF Try.underlying3 r_ r_ r_ (M_ r_ (jl_and 5 3 rfl rfl rfl rfl (nb rfl) ?_)))))))
    apply Exists.intro
    refine ⟨fun hb1 => ?_, ?_⟩
    exact ah_ r_ h_ b_ (bf_ r_ r_ r_ b_ (ah_ r_ h_ b_ (bg_ 1 r_ r_ r_ r_ (ah_ r_ h_ b_ (bf_ r_ r_ r_ b_ (ah_ r_ h_ b_ (bg_ 2 r_ r_ r_ r_ (ah_ r_ h_ b_ (bm_ r_ (hD) (ak_ (jq_seg 5 rfl rfl rfl (List.Perm.refl _))))))))))))
    refine M_ r_ (jl_and 5 10 rfl rfl rfl rfl (nb rfl) ?_)
    apply Exists.intro
    refine ⟨fun hb1 => ?_, ?_⟩
    exact ah_ r_ h_ b_ (bf_ r_ r_ r_ b_ (ah_ r_ h_ b_ (bg_ 1 r_ r_ r_ r_ (ah_ r_ h_ b_ (bf_ r_ r_ r_ b_ (ah_ r_ h_ b_ (bg_ 2 r_ r_ r_ r_ (ah_ r_ h_ b_ (bm_ r_ (hA) (ak_ (jq_seg 5 rfl rfl rfl (List.Perm.refl _))))))))))))
    refine E_ r_ (T_ (ar_ (az_ (aw_ (jq_ret1 rfl rfl [] rfl (fun K h => h))))))
  by_cases h3 : o.kind = 3
  · have e := show opR g.vars ((g.arrays.map ArRow).length : Int) o = _ from by
      unfold opR
      rw [if_neg h1, if_neg h2, if_pos h3]
    rw [e]
    refine R_ (o_ r_ (ci_ r_ (fun bx => o_ r_ (ci_ r_ (fun bx => E_ r_ (T_ (R_ (F_ r_ (L_ 0 r_ (o_ r_ (bu_ r_ r_ r_ r_ r_ (o_ r_ (bl_ r_ r_ (fun bl => S_ 0 r_ (T_ (am_ (R_ (F_ r_ (L_ 1 r_ ?_)))))))))))))))))))
    refine T_ (au_ (R_ (o_ r_ (bn_ r_ r_ (E_ r_ (T_ (ap_ r_ w_ (R_ (o_ r_ (bn_ r_ r_ (E_ r_ (T_ (ap_ r_ w_ (R_ (o_ r_ (bn_ r_ r_ (E_ r_ (T_ ?_))))))))))))))))))
    refine aq_ r_ u_ (R_ (F_ r_ (L_ 1 r_ (F_ r_ (L_ 2 r_ (o_ r_ (bm_ r_ (hD) (M_ r_ (jl_and 5 5 rfl rfl rfl rfl (nb rfl) ?_)))))))))
    apply Exists.intro
    refine ⟨fun hb1 => ?_, ?_⟩
    exact ah_ r_ h_ b_ (bf_ r_ r_ r_ b_ (ah_ r_ h_ b_ (bg_ 1 r_ r_ r_ r_ (ah_ r_ h_ b_ (bf_ r_ r_ r_ b_ (ah_ r_ h_ b_ (bg_ 2 r_ r_ r_ r_ (ah_ r_ h_ b_ (bm_ r_ (hA) (ak_ (jq_seg 5 rfl rfl rfl (List.Perm.refl _))))))))))))
    refine M_ r_ (jl_and 5 12 rfl rfl rfl rfl (nb rfl) ?_)
    apply Exists.intro
    refine ⟨fun hb1 => ?_, ?_⟩
    exact ah_ r_ h_ b_ (bf_ r_ r_ r_ b_ (ah_ r_ h_ b_ (bg_ 1 r_ r_ r_ r_ (ah_ r_ h_ b_ (bf_ r_ r_ r_ b_ (ah_ r_ h_ b_ (bg_ 2 r_ r_ r_ r_ (ah_ r_ h_ b_ (bm_ r_ (hB) (ak_ (jq_seg 5 rfl rfl rfl (List.Perm.refl _))))))))))))
    refine M_ r_ (jl_and 3 19 rfl rfl rfl rfl (nb rfl) ?_)
    apply Exists.intro
    refine ⟨fun hb1 => ?_, ?_⟩
    exact ah_ r_ h_ b_ (bf_ r_ r_ r_ b_ (ah_ r_ h_ b_ (bg_ 1 r_ r_ r_ r_ (ah_ r_ h_ b_ (bm_ r_ (hKn) (ak_ (jq_seg 3 rfl rfl rfl (List.Perm.refl _))))))))
    refine E_ r_ (T_ (ar_ (az_ (aw_ (jq_ret1 rfl rfl [] rfl (fun K h => h))))))
  by_cases h4 : o.kind = 4
  · have e := show opR g.vars ((g.arrays.map ArRow).length : Int) o = _ from by
      unfold opR
      rw [if_neg h1, if_neg h2, if_neg h3, if_pos h4]
    rw [e]
    refine R_ (o_ r_ (ci_ r_ (fun bx => o_ r_ (ci_ r_ (fun bx => E_ r_ (T_ (R_ (F_ r_ (L_ 0 r_ (o_ r_ (bu_ r_ r_ r_ r_ r_ (o_ r_ (bl_ r_ r_ (fun bl => S_ 0 r_ (T_ (am_ (R_ (F_ r_ (L_ 1 r_ ?_)))))))))))))))))))
    refine T_ (au_ (R_ (o_ r_ (bn_ r_ r_ (E_ r_ (T_ (ap_ r_ w_ (R_ (o_ r_ (bn_ r_ r_ (E_ r_ (T_ (ap_ r_ w_ (R_ (o_ r_ (bn_ r_ r_ (E_ r_ (T_ ?_))))))))))))))))))
    refine ap_ r_ w_ (R_ (o_ r_ (bn_ r_ r_ (E_ r_ (T_ (aq_ r_ u_ (am_ (jc_hpM 10 (n := 12) rfl 1 k_ rfl (fun cs1 hcs1 hv1 => ?_)))))))))
    obtain ⟨u10, u11, u12, u13, u14, rfl⟩ := len5 hcs1
    obtain rfl := Option.some.inj (hv1 0 _ rfl)
    obtain rfl := Option.some.inj (hv1 1 _ rfl)
    obtain rfl := Option.some.inj (hv1 2 _ rfl)
    obtain rfl := Option.some.inj (hv1 3 _ rfl)
    obtain rfl := Option.some.inj (hv1 4 _ rfl)
    refine hp_know 1 rfl mem0 ?_
    dsimp only [List.zipWith, know]
    refine hp_pani (by (repeat (first | refine pani_then ?_ | refine pani_block ?_)); exact pani_body) (fun hPan => ?_)
    refine df_ (i := 0) r_ k_ k_ k_ b_ hPan (dl_ r_ r_ r_ b_) (df_ (i := 1) r_ k_ k_ k_ b_ hPan (dm_ 0 r_ r_ r_ mem0 r_) (df_ (i := 2) r_ k_ k_ k_ b_ hPan (dl_ r_ r_ r_ b_) (df_ (i := 3) r_ k_ k_ k_ b_ hPan (dm_ 0 r_ r_ r_ mem0 r_) (df_ (i := 4) r_ k_ k_ k_ b_ hPan (dl_ r_ r_ r_ b_) (df_ (i := 5) r_ k_ k_ k_ b_ hPan (dm_ 0 r_ r_ r_ mem0 r_) (df_ (i := 6) r_ k_ k_ k_ b_ hPan (dl_ r_ r_ r_ b_) ?_))))))
    refine dh_ (i := 7) r_ k_ (ca_ 1 r_ r_ r_ r_ b_ ⟨?_, ?_⟩)
    exact keepK 1 rfl rfl
    refine df_ (i := 8) r_ k_ k_ k_ b_ hPan (dl_ r_ r_ r_ b_) (dh_ (i := 9) r_ k_ (ca_ 0 r_ r_ r_ r_ b_ ⟨?_, ?_⟩))
    exact keepK 1 rfl rfl
    refine df_ (i := 10) r_ k_ k_ k_ b_ hPan (dl_ r_ r_ r_ b_) (hp_tail (dj_ (i := 11) rfl k_ (by decide) (ca_ 0 rfl rfl rfl rfl b_ (ht_done k_ ?_))))
    clear hPan
    refine jq_unk _ 0 rfl rfl ?_
    dsimp only [List.map, unk]
    refine al_ (R_ (A_ 1 r_ (A_ 0 r_ (o_ r_ (ow_eq5 opF Try.underlying3 r_ r_ r_ (M_ r_ (jl_and 5 3 rfl rfl rfl rfl (nb rfl) ?_)))))))
    apply Exists.intro
    refine ⟨fun hb1 => ?_, ?_⟩
    exact ah_ r_ h_ b_ (bf_ r_ r_ r_ b_ (ah_ r_ h_ b_ (bg_ 1 r_ r_ r_ r_ (ah_ r_ h_ b_ (bf_ r_ r_ r_ b_ (ah_ r_ h_ b_ (bg_ 2 r_ r_ r_ r_ (ah_ r_ h_ b_ (bm_ r_ (hD) (ak_ (jq_seg 5 rfl rfl rfl (List.Perm.refl _))))))))))))
    refine M_ r_ (jl_and 5 10 rfl rfl rfl rfl (nb rfl) ?_)
    apply Exists.intro
    refine ⟨fun hb1 => ?_, ?_⟩
    exact ah_ r_ h_ b_ (bf_ r_ r_ r_ b_ (ah_ r_ h_ b_ (bg_ 1 r_ r_ r_ r_ (ah_ r_ h_ b_ (bf_ r_ r_ r_ b_ (ah_ r_ h_ b_ (bg_ 2 r_ r_ r_ r_ (ah_ r_ h_ b_ (bm_ r_ (hA) (ak_ (jq_seg 5 rfl rfl rfl (List.Perm.refl _))))))))))))
    refine M_ r_ (jl_and 6 17 rfl rfl rfl rfl (nb rfl) ?_)
    apply Exists.intro
    refine ⟨fun hb1 => ?_, ?_⟩
    exact ah_ r_ h_ b_ (bf_ r_ r_ r_ b_ (ah_ r_ h_ b_ (bg_ 1 r_ r_ r_ r_ (ah_ r_ h_ b_ (bf_ r_ r_ r_ b_ (ah_ r_ h_ b_ (bg_ 2 r_ r_ r_ r_ (ah_ r_ h_ b_ (br_ r_ (fun hlen => ah_ r_ h_ b_ (bm_ r_ (hM) (ak_ (jq_seg 6 rfl rfl rfl (List.Perm.refl _))))))))))))))
    refine E_ r_ (T_ (ar_ (az_ (aw_ (jq_ret1 rfl rfl [] rfl (fun K h => h))))))
  by_cases h5 : o.kind = 5
  · have e := show opR g.vars ((g.arrays.map ArRow).length : Int) o = _ from by
      unfold opR
      rw [if_neg h1, if_neg h2, if_neg h3, if_neg h4, if_pos h5]
    rw [e]
    refine R_ (o_ r_ (ci_ r_ (fun bx => o_ r_ (ci_ r_ (fun bx => E_ r_ (T_ (R_ (F_ r_ (L_ 0 r_ (o_ r_ (bu_ r_ r_ r_ r_ r_ (o_ r_ (bl_ r_ r_ (fun bl => S_ 0 r_ (T_ (am_ (R_ (F_ r_ (L_ 1 r_ ?_)))))))))))))))))))
    refine T_ (au_ (R_ (o_ r_ (bn_ r_ r_ (E_ r_ (T_ (ap_ r_ w_ (R_ (o_ r_ (bn_ r_ r_ (E_ r_ (T_ (ap_ r_ w_ (R_ (o_ r_ (bn_ r_ r_ (E_ r_ (T_ ?_))))))))))))))))))
    refine ap_ r_ w_ (R_ (o_ r_ (bn_ r_ r_ (E_ r_ (T_ (ap_ r_ w_ (R_ (o_ r_ (bn_ r_ r_ (E_ r_ (T_ (aq_ r_ u_ (am_ (jc_hpM 10 (n := 12) rfl 1 k_ rfl (fun cs1 hcs1 hv1 => ?_)))))))))))))))
    obtain ⟨u10, u11, u12, u13, u14, rfl⟩ := len5 hcs1
    obtain rfl := Option.some.inj (hv1 0 _ rfl)
    obtain rfl := Option.some.inj (hv1 1 _ rfl)
    obtain rfl := Option.some.inj (hv1 2 _ rfl)
    obtain rfl := Option.some.inj (hv1 3 _ rfl)
    obtain rfl := Option.some.inj (hv1 4 _ rfl)
    refine hp_know 1 rfl mem0 ?_
    dsimp only [List.zipWith, know]
    refine hp_pani (by (repeat (first | refine pani_then ?_ | refine pani_block ?_)); exact pani_body) (fun hPan => ?_)
    refine df_ (i := 0) r_ k_ k_ k_ b_ hPan (dl_ r_ r_ r_ b_) (df_ (i := 1) r_ k_ k_ k_ b_ hPan (dm_ 0 r_ r_ r_ mem0 r_) (df_ (i := 2) r_ k_ k_ k_ b_ hPan (dl_ r_ r_ r_ b_) (df_ (i := 3) r_ k_ k_ k_ b_ hPan (dm_ 0 r_ r_ r_ mem0 r_) (df_ (i := 4) r_ k_ k_ k_ b_ hPan (dl_ r_ r_ r_ b_) (df_ (i := 5) r_ k_ k_ k_ b_ hPan (dm_ 0 r_ r_ r_ mem0 r_) (df_ (i := 6) r_ k_ k_ k_ b_ hPan (dl_ r_ r_ r_ b_) ?_))))))
    refine dh_ (i := 7) r_ k_ (ca_ 1 r_ r_ r_ r_ b_ ⟨?_, ?_⟩)
    exact keepK 1 rfl rfl
    refine df_ (i := 8) r_ k_ k_ k_ b_ hPan (dl_ r_ r_ r_ b_) (dh_ (i := 9) r_ k_ (ca_ 0 r_ r_ r_ r_ b_ ⟨?_, ?_⟩))
    exact keepK 1 rfl rfl
    refine df_ (i := 10) r_ k_ k_ k_ b_ hPan (dl_ r_ r_ r_ b_) (hp_tail (dj_ (i := 11) rfl k_ (by decide) (ca_ 0 rfl rfl rfl rfl b_ (ht_done k_ ?_))))
    clear hPan
    refine jq_unk _ 0 rfl rfl ?_
    dsimp only [List.map, unk]
    refine al_ (R_ (A_ 1 r_ (A_ 0 r_ (o_ r_ (ow_eq5 opF Try.underlying3 r_ r_ r_ (M_ r_ (jl_and 5 3 rfl rfl rfl rfl (nb rfl) ?_)))))))
    apply Exists.intro
    refine ⟨fun hb1 => ?_, ?_⟩
    exact ah_ r_ h_ b_ (bf_ r_ r_ r_ b_ (ah_ r_ h_ b_ (bg_ 1 r_ r_ r_ r_ (ah_ r_ h_ b_ (bf_ r_ r_ r_ b_ (ah_ r_ h_ b_ (bg_ 2 r_ r_ r_ r_ (ah_ r_ h_ b_ (bm_ r_ (hA) (ak_ (jq_seg 5 rfl rfl rfl (List.Perm.refl _))))))))))))
    refine M_ r_ (jl_and 5 10 rfl rfl rfl rfl (nb rfl) ?_)
    apply Exists.intro
    refine ⟨fun hb1 => ?_, ?_⟩
    exact ah_ r_ h_ b_ (bf_ r_ r_ r_ b_ (ah_ r_ h_ b_ (bg_ 1 r_ r_ r_ r_ (ah_ r_ h_ b_ (bf_ r_ r_ r_ b_ (ah_ r_ h_ b_ (bg_ 2 r_ r_ r_ r_ (ah_ r_ h_ b_ (bm_ r_ (hB) (ak_ (jq_seg 5 rfl rfl rfl (List.Perm.refl _))))))))))))
    refine M_ r_ (jl_and 6 17 rfl rfl rfl rfl (nb rfl) ?_)
    apply Exists.intro
    refine ⟨fun hb1 => ?_, ?_⟩
    exact ah_ r_ h_ b_ (bf_ r_ r_ r_ b_ (ah_ r_ h_ b_ (bg_ 1 r_ r_ r_ r_ (ah_ r_ h_ b_ (bf_ r_ r_ r_ b_ (ah_ r_ h_ b_ (bg_ 2 r_ r_ r_ r_ (ah_ r_ h_ b_ (br_ r_ (fun hlen => ah_ r_ h_ b_ (bm_ r_ (hM) (ak_ (jq_seg 6 rfl rfl rfl (List.Perm.refl _))))))))))))))
    refine E_ r_ (T_ (ar_ (az_ (aw_ (jq_ret1 rfl rfl [] rfl (fun K h => h))))))
  by_cases h6 : o.kind = 6
  · have e := show opR g.vars ((g.arrays.map ArRow).length : Int) o = _ from by
      unfold opR
      rw [if_neg h1, if_neg h2, if_neg h3, if_neg h4, if_neg h5, if_pos (.inl h6)]
    rw [e]
    refine R_ (o_ r_ (ci_ r_ (fun bx => o_ r_ (ci_ r_ (fun bx => E_ r_ (T_ (R_ (F_ r_ (L_ 0 r_ (o_ r_ (bu_ r_ r_ r_ r_ r_ (o_ r_ (bl_ r_ r_ (fun bl => S_ 0 r_ (T_ (am_ (R_ (F_ r_ (L_ 1 r_ ?_)))))))))))))))))))
    refine T_ (au_ (R_ (o_ r_ (bn_ r_ r_ (E_ r_ (T_ (ap_ r_ w_ (R_ (o_ r_ (bn_ r_ r_ (E_ r_ (T_ (ap_ r_ w_ (R_ (o_ r_ (bn_ r_ r_ (E_ r_ (T_ ?_))))))))))))))))))
    refine ap_ r_ w_ (R_ (o_ r_ (bn_ r_ r_ (E_ r_ (T_ (ap_ r_ w_ (R_ (o_ r_ (bn_ r_ r_ (E_ r_ (T_ (ap_ r_ w_ (am_ (R_ (o_ r_ (bn_ r_ r_ (E_ r_ (T_ ?_))))))))))))))))))
    refine aq_ r_ u_ (as_ (al_ (aq_ r_ u_ (R_ (F_ r_ (L_ 1 r_ (F_ r_ (W_ 0 r_ (T_ (R_ (A_ 1 r_ (A_ 0 r_ (o_ r_ (ow_eq5 opF Try.underlying3 r_ r_ r_ (M_ r_ (jl_and 3 3 rfl rfl rfl rfl (nb rfl) ?_))))))))))))))))
    apply Exists.intro
    refine ⟨fun hb1 => ?_, ?_⟩
    exact ah_ r_ h_ b_ (bf_ r_ r_ r_ b_ (ah_ r_ h_ b_ (bg_ 1 r_ r_ r_ r_ (ah_ r_ h_ b_ (bm_ r_ (h4') (ak_ (jq_seg 3 rfl rfl rfl (List.Perm.refl _))))))))
    refine E_ r_ (T_ (ar_ (az_ (aw_ (jq_ret1 rfl rfl [] rfl (fun K h => h))))))
  by_cases h7 : o.kind = 7
  · have e := show opR g.vars ((g.arrays.map ArRow).length : Int) o = _ from by
      unfold opR
      rw [if_neg h1, if_neg h2, if_neg h3, if_neg h4, if_neg h5, if_pos (.inr h7)]
    rw [e]
    refine R_ (o_ r_ (ci_ r_ (fun bx => o_ r_ (ci_ r_ (fun bx => E_ r_ (T_ (R_ (F_ r_ (L_ 0 r_ (o_ r_ (bu_ r_ r_ r_ r_ r_ (o_ r_ (bl_ r_ r_ (fun bl => S_ 0 r_ (T_ (am_ (R_ (F_ r_ (L_ 1 r_ ?_)))))))))))))))))))
    refine T_ (au_ (R_ (o_ r_ (bn_ r_ r_ (E_ r_ (T_ (ap_ r_ w_ (R_ (o_ r_ (bn_ r_ r_ (E_ r_ (T_ (ap_ r_ w_ (R_ (o_ r_ (bn_ r_ r_ (E_ r_ (T_ ?_))))))))))))))))))
    refine ap_ r_ w_ (R_ (o_ r_ (bn_ r_ r_ (E_ r_ (T_ (ap_ r_ w_ (R_ (o_ r_ (bn_ r_ r_ (E_ r_ (T_ (ap_ r_ w_ (am_ (R_ (o_ r_ (bn_ r_ r_ (E_ r_ (T_ ?_))))))))))))))))))
    refine ap_ r_ w_ (an_ (o_ r_ (bn_ r_ r_ (E_ r_ (T_ (aq_ r_ u_ (R_ (F_ r_ (L_ 1 r_ (F_ r_ (W_ 0 r_ (T_ (R_ (A_ 1 r_ (A_ 0 r_ (o_ r_ (ow_eq5 opF Try.underlying3 r_ r_ r_ ?_)))))))))))))))))
    refine M_ r_ (jl_and 3 3 rfl rfl rfl rfl (nb rfl) ?_)
    apply Exists.intro
    refine ⟨fun hb1 => ?_, ?_⟩
    exact ah_ r_ h_ b_ (bf_ r_ r_ r_ b_ (ah_ r_ h_ b_ (bg_ 1 r_ r_ r_ r_ (ah_ r_ h_ b_ (bm_ r_ (h4') (ak_ (jq_seg 3 rfl rfl rfl (List.Perm.refl _))))))))
    refine E_ r_ (T_ (ar_ (az_ (aw_ (jq_ret1 rfl rfl [] rfl (fun K h => h))))))
  have e : opR g.vars ((g.arrays.map ArRow).length : Int) o = false := by
    unfold opR
    rw [if_neg h1, if_neg h2, if_neg h3, if_neg h4, if_neg h5, if_neg (by omega)]
  rw [e]
  refine R_ (o_ r_ (ci_ r_ (fun bx => o_ r_ (ci_ r_ (fun bx => E_ r_ (T_ (R_ (F_ r_ (L_ 0 r_ (o_ r_ (bu_ r_ r_ r_ r_ r_ (o_ r_ (bl_ r_ r_ (fun bl => S_ 0 r_ (T_ (am_ (R_ (F_ r_ (L_ 1 r_ ?_)))))))))))))))))))
  refine T_ (au_ (R_ (o_ r_ (bn_ r_ r_ (E_ r_ (T_ (ap_ r_ w_ (R_ (o_ r_ (bn_ r_ r_ (E_ r_ (T_ (ap_ r_ w_ (R_ (o_ r_ (bn_ r_ r_ (E_ r_ (T_ ?_))))))))))))))))))
  refine ap_ r_ w_ (R_ (o_ r_ (bn_ r_ r_ (E_ r_ (T_ (ap_ r_ w_ (R_ (o_ r_ (bn_ r_ r_ (E_ r_ (T_ (ap_ r_ w_ (am_ (R_ (o_ r_ (bn_ r_ r_ (E_ r_ (T_ ?_))))))))))))))))))
  refine ap_ r_ w_ (an_ (o_ r_ (bn_ r_ r_ (E_ r_ (T_ (ap_ r_ w_ (as_ (ay_ (al_ (R_ (E_ r_ (T_ (ar_ (jq_ret1 rfl rfl [] rfl (fun K h => h)))))))))))))))
end Go.Proofs.Ytpolnonbgaolkaa
end

section
namespace Go.Proofs.Ytpolnonbgaolkaa
open Go.Vc
attribute [local irreducible] JL JC JQ OpWp Con ConN HOk
set_option maxHeartbeats 4000000

theorem rBlock_c (g : Gh) (b : Bk) : Con Try.prog 75 [.row g.row, .row b.row] [] (fun K => K (Bl (bkB g.vars g.arrays.length g.blocks.length b)) []) := by
  rw [← bkH_eq]
  have eB : (g.blocks.map Bk.row).length = g.blocks.length := List.length_map _
  have eN : (b.next.map Irow).length = b.next.length := List.length_map _
  refine con_intro Try.func75 rfl rfl (Nat.le_of_ble_eq_true rfl) (fun c hc => R_ (o_ r_ (ci_ r_ (fun bx => o_ r_ (ci_ r_ (fun bx => E_ r_ (T_ (am_ (R_ (E_ r_ (T_ (au_ ?_))))))))))))
  rename_i bx0
  refine jc_loopS (ι := Nat) [] (fun k => k ≤ (b.ops).length ∧ opsP (g.vars - 1) g.arrays.length b.ops k = true) (fun k => (5, In .i64 (k : Int)) :: [(2, Ptr bx0), (3, Ptr bx)]) (fun k => [.blk bx 35 b.row, .blk bx0 28 g.row]) (fun k => (b.ops).length - k) 0 ⟨Nat.zero_le _, rfl⟩ ?_ ?_ ?_
  · exact bc_ 0 r_ (bc_ 0 r_ sub_end)
  · (repeat (first | exact True.intro | refine ⟨rfl, ?_⟩))
  rintro k ⟨hk, hI⟩
  have eLk : ((b.ops).map Opx.row).length = (b.ops).length := List.length_map _
  by_cases hltk : k < (b.ops).length
  · have hltk2 : (k : Int) < (((b.ops).map Opx.row).length : Int) := by omega
    have hO := rOperation_c g b.ops[k]
    rw [opR_eq, ← opH_eq] at hO
    have hst := opsP_step (hi := g.vars - 1) (arrs := g.arrays.length) hltk
    cases h1 : opH (g.vars - 1) g.arrays.length b.ops[k] with
    | false =>
      rw [h1] at hO
      have hres : bkH (g.vars - 1) g.arrays.length g.blocks.length b = false := by
        unfold bkH
        rw [opsP_no hltk (by unfold opsH; rw [h1]; rfl)]
        rfl
      refine am_ (R_ (M_ r_ (F_ r_ (L_ 0 r_ (o_ r_ (br_ r_ (fun hlen => o_ r_ (bw_ r_ r_ (T_ (aq_ r_ u_ (as_ (al_ (B_ (am_ (ao_ r_ r_ k_ k_ (aa_ (fun c => bs_ 1 r_ r_ r_ r_ p_) (yF_ r_ ?_)))))))))))))))))
      refine yL_ 0 r_ (yM_ r_ (aa_ (fun c => cc_ r_ r_ g_ r_ r_ b_ p_) (aa_ (fun c => cr_ r_ r_ r_ p_) (aa_ (fun c => bm_ r_ (hO) p_) (aa_ (fun c => cd_ r_ p_) (yM_ r_ (ac_ r_ r_ (ac_ r_ r_ (ac_ r_ r_ (ac_ r_ r_ (ac_ r_ r_ (ac_ r_ r_ (ac_ r_ r_ (ac_ r_ r_ (ad_ r_ ?_)))))))))))))))
      refine ad_ r_ (ac_ r_ r_ (aa_ (fun c => bp_ r_ r_ r_ p_) (yM_ r_ (ac_ r_ r_ (ac_ r_ r_ (ac_ r_ r_ (ac_ r_ r_ (ac_ r_ r_ (ac_ r_ r_ (ac_ r_ r_ (ac_ r_ r_ (ad_ r_ (ad_ r_ (ad_ r_ (ad_ r_ ?_)))))))))))))))
      refine ad_ r_ (ad_ r_ (ac_ r_ r_ (aa_ (fun c => bp_ r_ r_ r_ p_) (ae_ (al_ (aq_ r_ r_ (R_ (E_ r_ (T_ (ar_ (az_ (aw_ (aw_ (az_ (aw_ ?_)))))))))))))))
      refine jq_ret1 rfl rfl [] rfl (fun K h => by rw [hres] at h; exact h)
    | true =>
      rw [h1] at hO
      by_cases h6 : (b.ops[k]).kind = 6
      · have h7 : ¬ (b.ops[k]).kind = 7 := by omega
        by_cases h0 : (k : Int) > 0
        · have hres : bkH (g.vars - 1) g.arrays.length g.blocks.length b = false := by
            unfold bkH
            rw [opsP_no hltk (by unfold opsH; rw [h1]; simp; omega)]
            rfl
          refine am_ (R_ (M_ r_ (F_ r_ (L_ 0 r_ (o_ r_ (br_ r_ (fun hlen => o_ r_ (bw_ r_ r_ (T_ (aq_ r_ u_ (as_ (al_ (B_ (am_ (ao_ r_ r_ k_ k_ (aa_ (fun c => bs_ 1 r_ r_ r_ r_ p_) (yF_ r_ ?_)))))))))))))))))
          refine yL_ 0 r_ (yM_ r_ (aa_ (fun c => cc_ r_ r_ g_ r_ r_ b_ p_) (aa_ (fun c => cr_ r_ r_ r_ p_) (aa_ (fun c => bm_ r_ (hO) p_) (aa_ (fun c => cd_ r_ p_) (yM_ r_ (ab_ r_ r_ (fun c => bf_ r_ r_ r_ b_ p_) (ab_ r_ r_ (fun c => bg_ 0 r_ r_ r_ r_ p_) (ab_ r_ r_ (fun c => bd_ r_ p_) (ab_ r_ r_ (fun c => cc_ r_ r_ g_ r_ r_ b_ p_) (ab_ r_ r_ (fun c => cf_ r_ r_ r_ b_ r_ b_ p_) (ab_ r_ r_ (fun c => cb_ r_ r_ p_) ?_))))))))))))
          refine ab_ r_ r_ (fun c => bn_ r_ r_ p_) (ab_ r_ r_ (fun c => bd_ r_ p_) (ab_ r_ u_ (fun c => bd_ r_ p_) (ab_ r_ u_ (fun c => bz_ r_ r_ p_) (ab_ r_ r_ (fun c => bp_ r_ u_ r_ p_) (aa_ (fun c => bv_ r_ r_ r_ p_) (yM_ r_ (ac_ r_ u_ (ac_ r_ u_ (ac_ r_ u_ (ac_ r_ u_ (ac_ r_ u_ (ac_ r_ u_ (ac_ r_ u_ (ac_ r_ u_ (ad_ r_ ?_)))))))))))))))
          refine ad_ r_ (ad_ r_ (ad_ r_ (ad_ r_ (ad_ r_ (ac_ r_ u_ (aa_ (fun c => bp_ r_ u_ r_ p_) (ae_ (al_ (aq_ r_ r_ (R_ (E_ r_ (T_ (ar_ (az_ (aw_ ?_)))))))))))))))
          refine aw_ (az_ (aw_ (jq_ret1 rfl rfl [] rfl (fun K h => by rw [hres] at h; exact h))))
        · have hok : opsP (g.vars - 1) g.arrays.length b.ops (k + 1) = true := by
            rw [hst, hI, Bool.true_and]
            unfold opsH
            rw [h1]
            simp
            omega
          refine am_ (R_ (M_ r_ (F_ r_ (L_ 0 r_ (o_ r_ (br_ r_ (fun hlen => o_ r_ (bw_ r_ r_ (T_ (aq_ r_ u_ (as_ (al_ (B_ (am_ (ao_ r_ r_ k_ k_ (aa_ (fun c => bs_ 1 r_ r_ r_ r_ p_) (yF_ r_ ?_)))))))))))))))))
          refine yL_ 0 r_ (yM_ r_ (aa_ (fun c => cc_ r_ r_ g_ r_ r_ b_ p_) (aa_ (fun c => cr_ r_ r_ r_ p_) (aa_ (fun c => bm_ r_ (hO) p_) (aa_ (fun c => cd_ r_ p_) (yM_ r_ (ab_ r_ r_ (fun c => bf_ r_ r_ r_ b_ p_) (ab_ r_ r_ (fun c => bg_ 0 r_ r_ r_ r_ p_) (ab_ r_ r_ (fun c => bd_ r_ p_) (ab_ r_ r_ (fun c => cc_ r_ r_ g_ r_ r_ b_ p_) (ab_ r_ r_ (fun c => cf_ r_ r_ r_ b_ r_ b_ p_) (ab_ r_ r_ (fun c => cb_ r_ r_ p_) ?_))))))))))))
          refine ab_ r_ r_ (fun c => bn_ r_ r_ p_) (ab_ r_ r_ (fun c => bd_ r_ p_) (ab_ r_ u_ (fun c => bd_ r_ p_) (ab_ r_ u_ (fun c => bz_ r_ r_ p_) (ab_ r_ r_ (fun c => bp_ r_ u_ r_ p_) (aa_ (fun c => bv_ r_ r_ r_ p_) (yM_ r_ (ab_ r_ w_ (fun c => bf_ r_ r_ r_ b_ p_) (ab_ r_ w_ (fun c => bg_ 0 r_ r_ r_ r_ p_) (ab_ r_ w_ (fun c => bd_ r_ p_) (ab_ r_ w_ (fun c => cc_ r_ r_ g_ r_ r_ b_ p_) ?_))))))))))
          refine ab_ r_ w_ (fun c => cf_ r_ r_ r_ b_ r_ b_ p_) (ab_ r_ w_ (fun c => cb_ r_ r_ p_) (ab_ r_ w_ (fun c => bn_ r_ r_ p_) (ab_ r_ w_ (fun c => bd_ r_ p_) (ac_ r_ w_ (ac_ r_ w_ (ac_ r_ w_ (ac_ r_ w_ (ac_ r_ w_ (ac_ r_ w_ (ab_ r_ w_ (fun c => bv_ r_ w_ r_ p_) (aa_ (fun c => bv_ r_ w_ r_ p_) (ae_ (al_ (ap_ r_ r_ (as_ ?_)))))))))))))))
          refine ay_ (al_ (an_ (M_ r_ (o_ r_ (bj_ r_ r_ g_ (E_ r_ (ak_ (jq_againS (i := k) (k + 1) ⟨hltk, hok⟩ g_ ?_ ?_))))))))
          · exact bc_ 0 r_ (bc_ 0 r_ sub_end)
          · (repeat (first | exact True.intro | refine ⟨rfl, ?_⟩))
      · by_cases h7 : (b.ops[k]).kind = 7
        · by_cases hl : (k : Int) < ((b.ops.map Opx.row).length : Int) - 1
          · have hres : bkH (g.vars - 1) g.arrays.length g.blocks.length b = false := by
              unfold bkH
              rw [opsP_no hltk (by unfold opsH; rw [h1]; simp; omega)]
              rfl
            refine am_ (R_ (M_ r_ (F_ r_ (L_ 0 r_ (o_ r_ (br_ r_ (fun hlen => o_ r_ (bw_ r_ r_ (T_ (aq_ r_ u_ (as_ (al_ (B_ (am_ (ao_ r_ r_ k_ k_ (aa_ (fun c => bs_ 1 r_ r_ r_ r_ p_) (yF_ r_ ?_)))))))))))))))))
            refine yL_ 0 r_ (yM_ r_ (aa_ (fun c => cc_ r_ r_ g_ r_ r_ b_ p_) (aa_ (fun c => cr_ r_ r_ r_ p_) (aa_ (fun c => bm_ r_ (hO) p_) (aa_ (fun c => cd_ r_ p_) (yM_ r_ (ab_ r_ r_ (fun c => bf_ r_ r_ r_ b_ p_) (ab_ r_ r_ (fun c => bg_ 0 r_ r_ r_ r_ p_) (ab_ r_ r_ (fun c => bd_ r_ p_) (ab_ r_ r_ (fun c => cc_ r_ r_ g_ r_ r_ b_ p_) (ab_ r_ r_ (fun c => cf_ r_ r_ r_ b_ r_ b_ p_) (ab_ r_ r_ (fun c => cb_ r_ r_ p_) ?_))))))))))))
            refine ab_ r_ r_ (fun c => bn_ r_ r_ p_) (ab_ r_ r_ (fun c => bd_ r_ p_) (ac_ r_ w_ (ac_ r_ w_ (ab_ r_ r_ (fun c => bv_ r_ w_ r_ p_) (aa_ (fun c => bv_ r_ r_ r_ p_) (yM_ r_ (ab_ r_ r_ (fun c => bf_ r_ r_ r_ b_ p_) (ab_ r_ r_ (fun c => bg_ 0 r_ r_ r_ r_ p_) (ab_ r_ r_ (fun c => bd_ r_ p_) (ab_ r_ r_ (fun c => cc_ r_ r_ g_ r_ r_ b_ p_) (ab_ r_ r_ (fun c => cf_ r_ r_ r_ b_ r_ b_ p_) ?_)))))))))))
            refine ab_ r_ r_ (fun c => cb_ r_ r_ p_) (ab_ r_ r_ (fun c => bn_ r_ r_ p_) (ab_ r_ r_ (fun c => bd_ r_ p_) (ab_ r_ u_ (fun c => bd_ r_ p_) (ab_ r_ u_ (fun c => bf_ r_ r_ r_ b_ p_) (ab_ r_ u_ (fun c => bg_ 0 r_ r_ r_ r_ p_) (ab_ r_ u_ (fun c => br_ r_ (fun hlen => p_)) (ab_ r_ u_ (fun c => cg_ r_ r_ g_ p_) (ab_ r_ u_ (fun c => bw_ r_ r_ p_) (ab_ r_ r_ (fun c => bp_ r_ u_ r_ p_) (aa_ (fun c => bv_ r_ r_ r_ p_) ?_))))))))))
            refine ae_ (al_ (aq_ r_ u_ (R_ (E_ r_ (T_ (ar_ (az_ (aw_ (aw_ (az_ (aw_ (jq_ret1 rfl rfl [] rfl (fun K h => by rw [hres] at h; exact h)))))))))))))
          · have hok : opsP (g.vars - 1) g.arrays.length b.ops (k + 1) = true := by
              rw [hst, hI, Bool.true_and]
              unfold opsH
              rw [h1]
              simp
              omega
            refine am_ (R_ (M_ r_ (F_ r_ (L_ 0 r_ (o_ r_ (br_ r_ (fun hlen => o_ r_ (bw_ r_ r_ (T_ (aq_ r_ u_ (as_ (al_ (B_ (am_ (ao_ r_ r_ k_ k_ (aa_ (fun c => bs_ 1 r_ r_ r_ r_ p_) (yF_ r_ ?_)))))))))))))))))
            refine yL_ 0 r_ (yM_ r_ (aa_ (fun c => cc_ r_ r_ g_ r_ r_ b_ p_) (aa_ (fun c => cr_ r_ r_ r_ p_) (aa_ (fun c => bm_ r_ (hO) p_) (aa_ (fun c => cd_ r_ p_) (yM_ r_ (ab_ r_ r_ (fun c => bf_ r_ r_ r_ b_ p_) (ab_ r_ r_ (fun c => bg_ 0 r_ r_ r_ r_ p_) (ab_ r_ r_ (fun c => bd_ r_ p_) (ab_ r_ r_ (fun c => cc_ r_ r_ g_ r_ r_ b_ p_) (ab_ r_ r_ (fun c => cf_ r_ r_ r_ b_ r_ b_ p_) (ab_ r_ r_ (fun c => cb_ r_ r_ p_) ?_))))))))))))
            refine ab_ r_ r_ (fun c => bn_ r_ r_ p_) (ab_ r_ r_ (fun c => bd_ r_ p_) (ac_ r_ w_ (ac_ r_ w_ (ab_ r_ r_ (fun c => bv_ r_ w_ r_ p_) (aa_ (fun c => bv_ r_ r_ r_ p_) (yM_ r_ (ab_ r_ r_ (fun c => bf_ r_ r_ r_ b_ p_) (ab_ r_ r_ (fun c => bg_ 0 r_ r_ r_ r_ p_) (ab_ r_ r_ (fun c => bd_ r_ p_) (ab_ r_ r_ (fun c => cc_ r_ r_ g_ r_ r_ b_ p_) (ab_ r_ r_ (fun c => cf_ r_ r_ r_ b_ r_ b_ p_) ?_)))))))))))
            refine ab_ r_ r_ (fun c => cb_ r_ r_ p_) (ab_ r_ r_ (fun c => bn_ r_ r_ p_) (ab_ r_ r_ (fun c => bd_ r_ p_) (ab_ r_ u_ (fun c => bd_ r_ p_) (ab_ r_ u_ (fun c => bf_ r_ r_ r_ b_ p_) (ab_ r_ u_ (fun c => bg_ 0 r_ r_ r_ r_ p_) (ab_ r_ u_ (fun c => br_ r_ (fun hlen => p_)) (ab_ r_ u_ (fun c => cg_ r_ r_ g_ p_) (ab_ r_ u_ (fun c => bw_ r_ r_ p_) (ab_ r_ r_ (fun c => bp_ r_ u_ r_ p_) (aa_ (fun c => bv_ r_ r_ r_ p_) ?_))))))))))
            refine ae_ (al_ (ap_ r_ w_ (as_ (ay_ (al_ (an_ (M_ r_ (o_ r_ (bj_ r_ r_ g_ (E_ r_ (ak_ (jq_againS (i := k) (k + 1) ⟨hltk, hok⟩ g_ ?_ ?_))))))))))))
            · exact bc_ 0 r_ (bc_ 0 r_ sub_end)
            · (repeat (first | exact True.intro | refine ⟨rfl, ?_⟩))
        · have hok : opsP (g.vars - 1) g.arrays.length b.ops (k + 1) = true := by
            rw [hst, hI, Bool.true_and]
            unfold opsH
            rw [h1]
            simp
            omega
          refine am_ (R_ (M_ r_ (F_ r_ (L_ 0 r_ (o_ r_ (br_ r_ (fun hlen => o_ r_ (bw_ r_ r_ (T_ (aq_ r_ u_ (as_ (al_ (B_ (am_ (ao_ r_ r_ k_ k_ (aa_ (fun c => bs_ 1 r_ r_ r_ r_ p_) (yF_ r_ ?_)))))))))))))))))
          refine yL_ 0 r_ (yM_ r_ (aa_ (fun c => cc_ r_ r_ g_ r_ r_ b_ p_) (aa_ (fun c => cr_ r_ r_ r_ p_) (aa_ (fun c => bm_ r_ (hO) p_) (aa_ (fun c => cd_ r_ p_) (yM_ r_ (ab_ r_ r_ (fun c => bf_ r_ r_ r_ b_ p_) (ab_ r_ r_ (fun c => bg_ 0 r_ r_ r_ r_ p_) (ab_ r_ r_ (fun c => bd_ r_ p_) (ab_ r_ r_ (fun c => cc_ r_ r_ g_ r_ r_ b_ p_) (ab_ r_ r_ (fun c => cf_ r_ r_ r_ b_ r_ b_ p_) (ab_ r_ r_ (fun c => cb_ r_ r_ p_) ?_))))))))))))
          refine ab_ r_ r_ (fun c => bn_ r_ r_ p_) (ab_ r_ r_ (fun c => bd_ r_ p_) (ac_ r_ w_ (ac_ r_ w_ (ab_ r_ r_ (fun c => bv_ r_ w_ r_ p_) (aa_ (fun c => bv_ r_ r_ r_ p_) (yM_ r_ (ab_ r_ r_ (fun c => bf_ r_ r_ r_ b_ p_) (ab_ r_ r_ (fun c => bg_ 0 r_ r_ r_ r_ p_) (ab_ r_ r_ (fun c => bd_ r_ p_) (ab_ r_ r_ (fun c => cc_ r_ r_ g_ r_ r_ b_ p_) (ab_ r_ r_ (fun c => cf_ r_ r_ r_ b_ r_ b_ p_) ?_)))))))))))
          refine ab_ r_ r_ (fun c => cb_ r_ r_ p_) (ab_ r_ r_ (fun c => bn_ r_ r_ p_) (ab_ r_ r_ (fun c => bd_ r_ p_) (ac_ r_ w_ (ac_ r_ w_ (ac_ r_ w_ (ac_ r_ w_ (ac_ r_ w_ (ac_ r_ w_ (ab_ r_ r_ (fun c => bv_ r_ w_ r_ p_) (aa_ (fun c => bv_ r_ r_ r_ p_) (ae_ (al_ (ap_ r_ r_ (as_ (ay_ ?_)))))))))))))))
          refine al_ (an_ (M_ r_ (o_ r_ (bj_ r_ r_ g_ (E_ r_ (ak_ (jq_againS (i := k) (k + 1) ⟨hltk, hok⟩ g_ ?_ ?_)))))))
          · exact bc_ 0 r_ (bc_ 0 r_ sub_end)
          · (repeat (first | exact True.intro | refine ⟨rfl, ?_⟩))
  · have hltk2 : ¬ (k : Int) < (((b.ops).map Opx.row).length : Int) := by omega
    rw [show k = b.ops.length by omega] at hI
    refine am_ (R_ (M_ r_ (F_ r_ (L_ 0 r_ (o_ r_ (br_ r_ (fun hlen => o_ r_ (bw_ r_ r_ (T_ (ap_ r_ w_ (av_ (ax_ (ax_ (ba_ (al_ (am_ (R_ ?_)))))))))))))))))
    refine E_ r_ (T_ (au_ (jc_loopS (ι := Nat) [] (fun j => j ≤ (b.next).length ∧ (b.next.take j).all (fun x => decide (1 ≤ x) && decide (x ≤ (g.blocks.length : Int) - 1)) = true) (fun j => (6, In .i64 (j : Int)) :: [(2, Ptr bx0), (3, Ptr bx)]) (fun j => [.blk bx 35 b.row, .blk bx0 28 g.row]) (fun j => (b.next).length - j) 0 ⟨Nat.zero_le _, rfl⟩ ?_ ?_ ?_)))
    · exact bc_ 0 r_ (bc_ 0 r_ sub_end)
    · (repeat (first | exact True.intro | refine ⟨rfl, ?_⟩))
    rintro j ⟨hj, hJ⟩
    have eLj : ((b.next).map Irow).length = (b.next).length := List.length_map _
    by_cases hltj : j < (b.next).length
    · have hltj2 : (j : Int) < (((b.next).map Irow).length : Int) := by omega
      cases h1 : (decide (1 ≤ b.next[j]) && decide (b.next[j] ≤ (g.blocks.length : Int) - 1)) with
      | false =>
        have hres : bkH (g.vars - 1) g.arrays.length g.blocks.length b = false := by
          unfold bkH nxH
          rw [all_no hltj h1, Bool.false_and, Bool.and_false]
        rw [Bool.and_eq_false_iff, decide_eq_false_iff_not, decide_eq_false_iff_not] at h1
        by_cases h2 : b.next[j] < 1
        · refine am_ (R_ (M_ r_ (F_ r_ (L_ 0 r_ (o_ r_ (br_ r_ (fun hlen => o_ r_ (bw_ r_ r_ (T_ (aq_ r_ u_ (as_ (al_ (B_ (am_ (ao_ r_ r_ k_ k_ (yF_ r_ (yL_ 0 r_ ?_)))))))))))))))))
          refine yM_ r_ (aa_ (fun c => cc_ r_ r_ g_ r_ r_ b_ p_) (aa_ (fun c => cb_ r_ r_ p_) (aa_ (fun c => bw_ r_ r_ p_) (yM_ r_ (ac_ r_ u_ (ac_ r_ u_ (ac_ r_ u_ (ac_ r_ u_ (ac_ r_ u_ (ac_ r_ u_ (ac_ r_ u_ (ac_ r_ u_ (ac_ r_ u_ (aa_ (fun c => bp_ r_ u_ r_ p_) (ae_ ?_)))))))))))))))
          refine al_ (aq_ r_ r_ (R_ (E_ r_ (T_ (ar_ (az_ (aw_ (aw_ (az_ (aw_ (jq_ret1 rfl rfl [] rfl (fun K h => by rw [hres] at h; exact h))))))))))))
        · have h3 : b.next[j] ≥ ((g.blocks.map Bk.row).length : Int) := by omega
          refine am_ (R_ (M_ r_ (F_ r_ (L_ 0 r_ (o_ r_ (br_ r_ (fun hlen => o_ r_ (bw_ r_ r_ (T_ (aq_ r_ u_ (as_ (al_ (B_ (am_ (ao_ r_ r_ k_ k_ (yF_ r_ (yL_ 0 r_ ?_)))))))))))))))))
          refine yM_ r_ (aa_ (fun c => cc_ r_ r_ g_ r_ r_ b_ p_) (aa_ (fun c => cb_ r_ r_ p_) (aa_ (fun c => bw_ r_ r_ p_) (yM_ r_ (ab_ r_ w_ (fun c => bf_ r_ r_ r_ b_ p_) (ab_ r_ w_ (fun c => bg_ 0 r_ r_ r_ r_ p_) (ab_ r_ w_ (fun c => bd_ r_ p_) (ab_ r_ w_ (fun c => cc_ r_ r_ g_ r_ r_ b_ p_) (ab_ r_ w_ (fun c => cb_ r_ r_ p_) (ab_ r_ w_ (fun c => bf_ r_ r_ r_ b_ p_) (ab_ r_ w_ (fun c => bg_ 1 r_ r_ r_ r_ p_) ?_)))))))))))
          refine ab_ r_ w_ (fun c => br_ r_ (fun hlen => p_)) (ab_ r_ w_ (fun c => cn_ r_ r_ p_) (aa_ (fun c => bv_ r_ w_ r_ p_) (ae_ (al_ (aq_ r_ u_ (R_ (E_ r_ (T_ (ar_ (az_ (aw_ (aw_ (az_ (aw_ (jq_ret1 rfl rfl [] rfl (fun K h => by rw [hres] at h; exact h))))))))))))))))
      | true =>
        have h1' := h1
        rw [Bool.and_eq_true, decide_eq_true_eq, decide_eq_true_eq] at h1'
        have h2 : ¬ b.next[j] < 1 := by omega
        have h3 : ¬ b.next[j] ≥ ((g.blocks.map Bk.row).length : Int) := by omega
        refine am_ (R_ (M_ r_ (F_ r_ (L_ 0 r_ (o_ r_ (br_ r_ (fun hlen => o_ r_ (bw_ r_ r_ (T_ (aq_ r_ u_ (as_ (al_ (B_ (am_ (ao_ r_ r_ k_ k_ (yF_ r_ (yL_ 0 r_ ?_)))))))))))))))))
        refine yM_ r_ (aa_ (fun c => cc_ r_ r_ g_ r_ r_ b_ p_) (aa_ (fun c => cb_ r_ r_ p_) (aa_ (fun c => bw_ r_ r_ p_) (yM_ r_ (ab_ r_ w_ (fun c => bf_ r_ r_ r_ b_ p_) (ab_ r_ w_ (fun c => bg_ 0 r_ r_ r_ r_ p_) (ab_ r_ w_ (fun c => bd_ r_ p_) (ab_ r_ w_ (fun c => cc_ r_ r_ g_ r_ r_ b_ p_) (ab_ r_ w_ (fun c => cb_ r_ r_ p_) (ab_ r_ w_ (fun c => bf_ r_ r_ r_ b_ p_) (ab_ r_ w_ (fun c => bg_ 1 r_ r_ r_ r_ p_) ?_)))))))))))
        refine ab_ r_ w_ (fun c => br_ r_ (fun hlen => p_)) (ab_ r_ w_ (fun c => cn_ r_ r_ p_) (aa_ (fun c => bv_ r_ w_ r_ p_) (ae_ (al_ (ap_ r_ w_ (as_ (ay_ (al_ (an_ (M_ r_ (o_ r_ (bj_ r_ r_ g_ (E_ r_ (ak_ (jq_againS (i := j) (j + 1) ⟨hltj, all_snoc hltj hJ h1⟩ g_ ?_ ?_)))))))))))))))
        · exact bc_ 0 r_ (bc_ 0 r_ sub_end)
        · (repeat (first | exact True.intro | refine ⟨rfl, ?_⟩))
    · have hltj2 : ¬ (j : Int) < (((b.next).map Irow).length : Int) := by omega
      rw [List.take_of_length_le (by omega)] at hJ
      have e0 : bkH (g.vars - 1) g.arrays.length g.blocks.length b = (match b.next with
        | [] => decide (b.cond = 0)
        | [_] => decide (b.cond = 0)
        | [x, y] => !decide (x = y) && inH (g.vars - 1) b.cond
        | _ => false) := by
        unfold bkH nxH
        rw [hI, hJ, Bool.true_and, Bool.true_and]
        generalize b.next = l
        rcases l with _ | ⟨_, _ | ⟨_, _ | _⟩⟩ <;> rfl
      rw [e0]
      have hC := rIn_c b.cond g.vars
      rw [← inH_eq] at hC
      by_cases h2 : b.next.length = 2
      · obtain ⟨x, y, hxy⟩ : ∃ x y, b.next = [x, y] := by
          match hb : b.next, h2 with
          | [x, y], _ => exact ⟨x, y, rfl⟩
        rw [hxy]
        have h3' : ((b.next.map Irow).length : Int) = 2 := by omega
        have h30 : ¬ ((b.next.map Irow).length : Int) = 0 := by omega
        have h31 : ¬ ((b.next.map Irow).length : Int) = 1 := by omega
        have hx : (b.next.map Irow)[0]? = some (Irow x) := by rw [hxy]; rfl
        have hy : (b.next.map Irow)[1]? = some (Irow y) := by rw [hxy]; rfl
        show JC _ _ _ _ _
        by_cases hq : x = y
        · have hq2 : ¬ x ≠ y := fun h => h hq
          have e3 : (!decide (x = y) && inH (g.vars - 1) b.cond) = false := by rw [decide_eq_true hq]; rfl
          refine am_ (R_ (M_ r_ (F_ r_ (L_ 0 r_ (o_ r_ (br_ r_ (fun hlen => o_ r_ (bw_ r_ r_ (T_ (ap_ r_ w_ (av_ (ax_ (ax_ (ba_ (al_ (am_ (R_ ?_)))))))))))))))))
          refine F_ r_ (L_ 0 r_ (o_ r_ (br_ r_ (fun hlen => T_ (au_ (am_ (R_ (o_ r_ (bn_ r_ r_ (E_ r_ (T_ (ap_ r_ w_ (an_ (o_ r_ (bn_ r_ r_ (E_ r_ (T_ (ap_ r_ w_ ?_))))))))))))))))))
          refine R_ (o_ r_ (bn_ r_ r_ (E_ r_ (T_ (aq_ r_ u_ (am_ (ao_ r_ r_ k_ k_ (yF_ r_ (yL_ 0 r_ (aa_ (fun c => ow_indexAddrN 0 r_ r_ r_ hx r_ b_ p_) (aa_ (fun c => cb_ r_ r_ p_) (yF_ r_ (yL_ 0 r_ (aa_ (fun c => ow_indexAddrN 1 r_ r_ r_ hy r_ b_ p_) (aa_ (fun c => cb_ r_ r_ p_) (aa_ (fun c => bx_ r_ r_ p_) ?_))))))))))))))))
          refine yM_ r_ (ac_ r_ w_ (ac_ r_ w_ (ac_ r_ w_ (ac_ r_ w_ (ac_ r_ w_ (aa_ (fun c => bv_ r_ w_ r_ p_) (yE_ r_ (ae_ (al_ (ar_ (az_ (aw_ (jq_ret1 rfl rfl [] rfl (fun K h => by dsimp only at h; rw [e3] at h; exact h))))))))))))))
        · have hq2 : x ≠ y := hq
          have e3 : (!decide (x = y) && inH (g.vars - 1) b.cond) = inH (g.vars - 1) b.cond := by rw [decide_eq_false hq]; rfl
          refine am_ (R_ (M_ r_ (F_ r_ (L_ 0 r_ (o_ r_ (br_ r_ (fun hlen => o_ r_ (bw_ r_ r_ (T_ (ap_ r_ w_ (av_ (ax_ (ax_ (ba_ (al_ (am_ (R_ ?_)))))))))))))))))
          refine F_ r_ (L_ 0 r_ (o_ r_ (br_ r_ (fun hlen => T_ (au_ (am_ (R_ (o_ r_ (bn_ r_ r_ (E_ r_ (T_ (ap_ r_ w_ (an_ (o_ r_ (bn_ r_ r_ (E_ r_ (T_ (ap_ r_ w_ ?_))))))))))))))))))
          refine R_ (o_ r_ (bn_ r_ r_ (E_ r_ (T_ (aq_ r_ u_ (am_ (ao_ r_ r_ k_ k_ (yF_ r_ (yL_ 0 r_ (aa_ (fun c => ow_indexAddrN 0 r_ r_ r_ hx r_ b_ p_) (aa_ (fun c => cb_ r_ r_ p_) (yF_ r_ (yL_ 0 r_ (aa_ (fun c => ow_indexAddrN 1 r_ r_ r_ hy r_ b_ p_) (aa_ (fun c => cb_ r_ r_ p_) (aa_ (fun c => bx_ r_ r_ p_) ?_))))))))))))))))
          refine yM_ r_ (ab_ r_ u_ (fun c => bf_ r_ r_ r_ b_ p_) (ab_ r_ u_ (fun c => bg_ 0 r_ r_ r_ r_ p_) (ab_ r_ u_ (fun c => bf_ r_ r_ r_ b_ p_) (ab_ r_ u_ (fun c => bg_ 1 r_ r_ r_ r_ p_) (ab_ r_ u_ (fun c => bm_ r_ (hC) p_) (aa_ (fun c => bp_ r_ u_ r_ p_) (yE_ r_ (ae_ (al_ (ar_ (az_ (aw_ (jq_ret1 rfl rfl [] rfl (fun K h => by dsimp only at h; rw [e3] at h; exact h))))))))))))))
      · have h3' : ¬ ((b.next.map Irow).length : Int) = 2 := by omega
        by_cases h1 : b.next.length < 2
        · have e2 : (match b.next with
            | [] => decide (b.cond = 0)
            | [_] => decide (b.cond = 0)
            | [x, y] => !decide (x = y) && inH (g.vars - 1) b.cond
            | _ => false) = decide (b.cond = 0) := by
            match hb : b.next, h1 with
            | [], _ => rfl
            | [_], _ => rfl
          rw [e2]
          by_cases h0 : ((b.next.map Irow).length : Int) = 0
          · refine am_ (R_ (M_ r_ (F_ r_ (L_ 0 r_ (o_ r_ (br_ r_ (fun hlen => o_ r_ (bw_ r_ r_ (T_ (ap_ r_ w_ (av_ (ax_ (ax_ (ba_ (al_ (am_ (R_ ?_)))))))))))))))))
            refine F_ r_ (L_ 0 r_ (o_ r_ (br_ r_ (fun hlen => T_ (au_ (am_ (R_ (o_ r_ (bn_ r_ r_ (E_ r_ (T_ (aq_ r_ u_ (as_ (al_ (aq_ r_ u_ (R_ (F_ r_ ?_)))))))))))))))))
            refine L_ 0 r_ (o_ r_ (bn_ r_ r_ (E_ r_ (T_ (ar_ (az_ (aw_ (jq_ret1 rfl rfl [] rfl (fun K h => h)))))))))
          · have h01 : ((b.next.map Irow).length : Int) = 1 := by omega
            refine am_ (R_ (M_ r_ (F_ r_ (L_ 0 r_ (o_ r_ (br_ r_ (fun hlen => o_ r_ (bw_ r_ r_ (T_ (ap_ r_ w_ (av_ (ax_ (ax_ (ba_ (al_ (am_ (R_ ?_)))))))))))))))))
            refine F_ r_ (L_ 0 r_ (o_ r_ (br_ r_ (fun hlen => T_ (au_ (am_ (R_ (o_ r_ (bn_ r_ r_ (E_ r_ (T_ (ap_ r_ w_ (an_ (o_ r_ (bn_ r_ r_ (E_ r_ (T_ (aq_ r_ u_ ?_))))))))))))))))))
            refine R_ (F_ r_ (L_ 0 r_ (o_ r_ (bn_ r_ r_ (E_ r_ (T_ (ar_ (az_ (aw_ (jq_ret1 rfl rfl [] rfl (fun K h => h)))))))))))
        · have h30 : ¬ ((b.next.map Irow).length : Int) = 0 := by omega
          have h31 : ¬ ((b.next.map Irow).length : Int) = 1 := by omega
          have e2 : (match b.next with
            | [] => decide (b.cond = 0)
            | [_] => decide (b.cond = 0)
            | [x, y] => !decide (x = y) && inH (g.vars - 1) b.cond
            | _ => false) = false := by
            match hb : b.next, h1, h2 with
            | [], h1, _ => simp at h1
            | [_], h1, _ => simp at h1
            | [_, _], _, h2 => simp at h2
            | _ :: _ :: _ :: _, _, _ => rfl
          rw [e2]
          refine am_ (R_ (M_ r_ (F_ r_ (L_ 0 r_ (o_ r_ (br_ r_ (fun hlen => o_ r_ (bw_ r_ r_ (T_ (ap_ r_ w_ (av_ (ax_ (ax_ (ba_ (al_ (am_ (R_ ?_)))))))))))))))))
          refine F_ r_ (L_ 0 r_ (o_ r_ (br_ r_ (fun hlen => T_ (au_ (am_ (R_ (o_ r_ (bn_ r_ r_ (E_ r_ (T_ (ap_ r_ w_ (an_ (o_ r_ (bn_ r_ r_ (E_ r_ (T_ (ap_ r_ w_ ?_))))))))))))))))))
          refine R_ (o_ r_ (bn_ r_ r_ (E_ r_ (T_ (ap_ r_ w_ (as_ (ay_ (al_ (R_ (E_ r_ (T_ (ar_ (jq_ret1 rfl rfl [] rfl (fun K h => h))))))))))))))
end Go.Proofs.Ytpolnonbgaolkaa
end

section
namespace Go.Proofs.Ytpolnonbgaolkaa
open Go.Vc
attribute [local irreducible] JL JC JQ OpWp Con ConN HOk
set_option maxHeartbeats 4000000

theorem rHas_c (L : List Int) (n : Int) : Con Try.prog 51 [.cell (.list (L.map Irow)), In .i64 n] [] (fun K => K (Bl (decide (n ∈ L))) []) := by
  refine con_intro Try.func51 rfl rfl (Nat.le_of_ble_eq_true rfl) (fun c hc => R_ (E_ r_ (T_ (am_ (R_ (E_ r_ (T_ (au_ (jc_loopS (ι := Nat) [] (fun k => k ≤ (L).length ∧ n ∉ L.take k) (fun k => (5, In .i64 (k : Int)) :: [(0, .cell (.list (L.map Irow))), (1, In .i64 n)]) (fun k => []) (fun k => (L).length - k) 0 ⟨Nat.zero_le _, by simp⟩ ?_ ?_ ?_)))))))))
  · exact sub_end
  · (repeat (first | exact True.intro | refine ⟨rfl, ?_⟩))
  rintro k ⟨hk, hno⟩
  have eLk : ((L).map Irow).length = (L).length := List.length_map _
  by_cases hltk : k < (L).length
  · have hltk2 : (k : Int) < (((L).map Irow).length : Int) := by omega
    by_cases hb' : L[k] = n
    · have hres : decide (n ∈ L) = true := decide_eq_true (by rw [← hb']; exact List.getElem_mem hltk)
      refine am_ (R_ (M_ r_ (M_ r_ (o_ r_ (br_ r_ (fun hlen => o_ r_ (bw_ r_ r_ (T_ (aq_ r_ u_ (as_ (al_ (B_ (R_ (M_ r_ (M_ r_ (o_ r_ (cc_ r_ r_ g_ r_ r_ b_ (o_ r_ (cb_ r_ r_ ?_)))))))))))))))))))
      exact M_ r_ (o_ r_ (bn_ r_ r_ (T_ (aq_ r_ u_ (R_ (E_ r_ (T_ (ar_ (az_ (aw_ (aw_ (az_ (aw_ (jq_ret1S rfl rfl (fun K h => by rw [hres] at h; exact h) sub_end))))))))))))))
    · have hno2 : n ∉ L.take (k + 1) := by
        rw [List.take_succ_eq_append_getElem hltk, List.mem_append, List.mem_singleton]
        exact fun q => q.elim hno (fun e => hb' e.symm)
      refine am_ (R_ (M_ r_ (M_ r_ (o_ r_ (br_ r_ (fun hlen => o_ r_ (bw_ r_ r_ (T_ (aq_ r_ u_ (as_ (al_ (B_ (R_ (M_ r_ (M_ r_ (o_ r_ (cc_ r_ r_ g_ r_ r_ b_ (o_ r_ (cb_ r_ r_ ?_)))))))))))))))))))
      refine M_ r_ (o_ r_ (bn_ r_ r_ (T_ (ap_ r_ w_ (as_ (ay_ (al_ (an_ (M_ r_ (o_ r_ (bj_ r_ r_ g_ (E_ r_ (ak_ (jq_againS (i := k) (k + 1) ⟨hltk, hno2⟩ g_ ?_ ?_))))))))))))))
      · exact sub_end
      · (repeat (first | exact True.intro | refine ⟨rfl, ?_⟩))
  · have hltk2 : ¬ (k : Int) < (((L).map Irow).length : Int) := by omega
    rw [List.take_of_length_le (by omega)] at hno
    have hres : decide (n ∈ L) = false := decide_eq_false hno
    refine am_ (R_ (M_ r_ (M_ r_ (o_ r_ (br_ r_ (fun hlen => o_ r_ (bw_ r_ r_ (T_ (ap_ r_ w_ (av_ (ax_ (ax_ (ba_ (al_ (R_ (E_ r_ (T_ ?_)))))))))))))))))
    exact ar_ (jq_ret1S rfl rfl (fun K h => by rw [hres] at h; exact h) sub_end)
theorem rOps_c (g : Gh) (hz : nOps g.blocks ≤ 1000000000000000000) : Con Try.prog 24 [.row g.row] [] (fun K => K (In .i64 (nOps g.blocks : Nat)) []) := by
  refine con_intro Try.func24 rfl rfl (Nat.le_of_ble_eq_true rfl) (fun c hc => R_ (o_ r_ (ci_ r_ (fun bx => E_ r_ (T_ (R_ (E_ r_ (T_ (am_ (R_ (E_ r_ (T_ (au_ (jc_loopS (ι := Nat) [] (fun k => k ≤ (g.blocks).length) (fun k => (4, In .i64 (k : Int)) :: [(1, Ptr bx), (3, In .i64 (nOps (g.blocks.take k) : Nat))]) (fun k => [.blk bx 28 g.row]) (fun k => (g.blocks).length - k) 0 (Nat.zero_le _) ?_ ?_ ?_))))))))))))))
  · exact bc_ 0 r_ sub_end
  · (repeat (first | exact True.intro | refine ⟨rfl, ?_⟩))
  rintro k hk
  have eLk : ((g.blocks).map Bk.row).length = (g.blocks).length := List.length_map _
  by_cases hltk : k < (g.blocks).length
  · have hltk2 : (k : Int) < (((g.blocks).map Bk.row).length : Int) := by omega
    have hs := nOps_take hltk
    have hle := nOps_le g.blocks (k + 1)
    have eO : ((g.blocks[k]).ops.map Opx.row).length = (g.blocks[k]).ops.length := List.length_map _
    refine am_ (R_ (M_ r_ (F_ r_ (L_ 0 r_ (o_ r_ (br_ r_ (fun hlen => o_ r_ (bw_ r_ r_ (T_ (aq_ r_ u_ (as_ (al_ (B_ (an_ (M_ r_ (F_ r_ (L_ 0 r_ ?_)))))))))))))))))
    refine M_ r_ (o_ r_ (cc_ r_ r_ g_ r_ r_ b_ (o_ r_ (cf_ r_ r_ r_ b_ r_ b_ (o_ r_ (cb_ r_ r_ (o_ r_ (br_ r_ (fun hlen => o_ r_ (bj_ r_ r_ g_ (E_ r_ (ak_ (ay_ (al_ (an_ (M_ r_ (o_ r_ (bj_ r_ r_ g_ (E_ r_ (ak_ (jq_againS (i := k) (k + 1) hltk g_ ?_ ?_)))))))))))))))))))))
    · exact bc_ 0 r_ sub_end
    · rw [hs]
      rw [show ((nOps (g.blocks.take k) + (g.blocks[k]).ops.length : Nat) : Int) = (nOps (g.blocks.take k) : Int) + (((g.blocks[k]).ops.map Opx.row).length : Int) by omega]
      (repeat (first | exact True.intro | refine ⟨rfl, ?_⟩))
  · have hltk2 : ¬ (k : Int) < (((g.blocks).map Bk.row).length : Int) := by omega
    rw [List.take_of_length_le (by omega)]
    refine am_ (R_ (M_ r_ (F_ r_ (L_ 0 r_ (o_ r_ (br_ r_ (fun hlen => o_ r_ (bw_ r_ r_ (T_ (ap_ r_ w_ (av_ (ax_ (ax_ (ba_ (al_ (R_ (M_ r_ ?_)))))))))))))))))
    exact E_ r_ (T_ (ar_ (jq_ret1S rfl rfl (fun K h => h) sub_end)))
theorem rCheck_c (g : Gh) (hw : GhW g) : Con Try.prog 45 [.row g.row] [] (fun K => K (In .i64 (chG g)) []) := by
  have eB : (g.blocks.map Bk.row).length = g.blocks.length := List.length_map _
  have eA : (g.arrays.map ArRow).length = g.arrays.length := List.length_map _
  have eI : (g.inputs.map InRow).length = g.inputs.length := List.length_map _
  have eP : (g.points.map NRow).length = g.points.length := List.length_map _
  have hsz := hw.ops
  have hO := rOps_c g (by omega)
  have e0 := decG_eq g
  refine con_intro Try.func45 rfl rfl (Nat.le_of_ble_eq_true rfl) (fun c hc => ?_)
  by_cases c0 : ((g.blocks.map Bk.row).length : Int) > 64
  · have hl : limG g = false := by
      rw [Bool.eq_false_iff]
      intro h
      unfold limG at h
      simp only [Bool.and_eq_true, decide_eq_true_eq] at h
      omega
    have hres := lim_no hl
    refine R_ (o_ r_ (ci_ r_ (fun bx => E_ r_ (T_ (am_ (R_ (F_ r_ (L_ 0 r_ (o_ r_ (br_ r_ (fun hlen => o_ r_ (bz_ r_ r_ (M_ r_ (ai_ r_ u_ b_ (ai_ r_ u_ b_ (ai_ r_ u_ b_ (o_ r_ (bp_ r_ u_ r_ (M_ r_ ?_)))))))))))))))))))
    refine ai_ r_ r_ b_ (ai_ r_ r_ b_ (ai_ r_ r_ b_ (o_ r_ (bp_ r_ r_ r_ (M_ r_ (ai_ r_ r_ b_ (ai_ r_ r_ b_ (ai_ r_ r_ b_ (ai_ r_ r_ b_ (o_ r_ (bp_ r_ r_ r_ (M_ r_ (ai_ r_ r_ b_ (ai_ r_ r_ b_ (ai_ r_ r_ b_ (ai_ r_ r_ b_ (o_ r_ (bp_ r_ r_ r_ ?_))))))))))))))))))
    exact T_ (aq_ r_ r_ (R_ (E_ r_ (T_ (ar_ (aw_ (jq_ret1S rfl rfl (fun K h => by rw [hres] at h; exact h) sub_end)))))))
  by_cases c1 : ((nOps g.blocks : Nat) : Int) > 600
  · have hl : limG g = false := by
      rw [Bool.eq_false_iff]
      intro h
      unfold limG at h
      simp only [Bool.and_eq_true, decide_eq_true_eq] at h
      omega
    have hres := lim_no hl
    refine R_ (o_ r_ (ci_ r_ (fun bx => E_ r_ (T_ (am_ (R_ (F_ r_ (L_ 0 r_ (o_ r_ (br_ r_ (fun hlen => o_ r_ (bz_ r_ r_ (M_ r_ (ah_ r_ w_ b_ (bs_ 0 r_ r_ r_ r_ (ah_ r_ w_ b_ (bm_ r_ (hO) (ah_ r_ w_ b_ (bz_ r_ r_ (o_ r_ (bv_ r_ w_ r_ (M_ r_ ?_))))))))))))))))))))))
    refine ai_ r_ u_ b_ (ai_ r_ u_ b_ (ai_ r_ u_ b_ (o_ r_ (bp_ r_ u_ r_ (M_ r_ (ai_ r_ r_ b_ (ai_ r_ r_ b_ (ai_ r_ r_ b_ (ai_ r_ r_ b_ (o_ r_ (bp_ r_ r_ r_ (M_ r_ (ai_ r_ r_ b_ (ai_ r_ r_ b_ (ai_ r_ r_ b_ (ai_ r_ r_ b_ (o_ r_ (bp_ r_ r_ r_ ?_))))))))))))))))))
    exact T_ (aq_ r_ r_ (R_ (E_ r_ (T_ (ar_ (aw_ (jq_ret1S rfl rfl (fun K h => by rw [hres] at h; exact h) sub_end)))))))
  by_cases c2 : g.vars > 64
  · have hl : limG g = false := by
      rw [Bool.eq_false_iff]
      intro h
      unfold limG at h
      simp only [Bool.and_eq_true, decide_eq_true_eq] at h
      omega
    have hres := lim_no hl
    refine R_ (o_ r_ (ci_ r_ (fun bx => E_ r_ (T_ (am_ (R_ (F_ r_ (L_ 0 r_ (o_ r_ (br_ r_ (fun hlen => o_ r_ (bz_ r_ r_ (M_ r_ (ah_ r_ w_ b_ (bs_ 0 r_ r_ r_ r_ (ah_ r_ w_ b_ (bm_ r_ (hO) (ah_ r_ w_ b_ (bz_ r_ r_ (o_ r_ (bv_ r_ w_ r_ (M_ r_ ?_))))))))))))))))))))))
    refine ah_ r_ w_ b_ (bf_ r_ r_ r_ b_ (ah_ r_ w_ b_ (bg_ 0 r_ r_ r_ r_ (ah_ r_ w_ b_ (bz_ r_ r_ (o_ r_ (bv_ r_ w_ r_ (M_ r_ (ai_ r_ u_ b_ (ai_ r_ u_ b_ (ai_ r_ u_ b_ (ai_ r_ u_ b_ (o_ r_ (bp_ r_ u_ r_ (M_ r_ (ai_ r_ r_ b_ (ai_ r_ r_ b_ (ai_ r_ r_ b_ (ai_ r_ r_ b_ (o_ r_ (bp_ r_ r_ r_ ?_)))))))))))))))))))))
    exact T_ (aq_ r_ r_ (R_ (E_ r_ (T_ (ar_ (aw_ (jq_ret1S rfl rfl (fun K h => by rw [hres] at h; exact h) sub_end)))))))
  by_cases c3 : ((g.arrays.map ArRow).length : Int) > 8
  · have hl : limG g = false := by
      rw [Bool.eq_false_iff]
      intro h
      unfold limG at h
      simp only [Bool.and_eq_true, decide_eq_true_eq] at h
      omega
    have hres := lim_no hl
    refine R_ (o_ r_ (ci_ r_ (fun bx => E_ r_ (T_ (am_ (R_ (F_ r_ (L_ 0 r_ (o_ r_ (br_ r_ (fun hlen => o_ r_ (bz_ r_ r_ (M_ r_ (ah_ r_ w_ b_ (bs_ 0 r_ r_ r_ r_ (ah_ r_ w_ b_ (bm_ r_ (hO) (ah_ r_ w_ b_ (bz_ r_ r_ (o_ r_ (bv_ r_ w_ r_ (M_ r_ ?_))))))))))))))))))))))
    refine ah_ r_ w_ b_ (bf_ r_ r_ r_ b_ (ah_ r_ w_ b_ (bg_ 0 r_ r_ r_ r_ (ah_ r_ w_ b_ (bz_ r_ r_ (o_ r_ (bv_ r_ w_ r_ (M_ r_ (ah_ r_ w_ b_ (bf_ r_ r_ r_ b_ (ah_ r_ w_ b_ (bg_ 0 r_ r_ r_ r_ (ah_ r_ w_ b_ (br_ r_ (fun hlen => ah_ r_ w_ b_ (bz_ r_ r_ (o_ r_ (bv_ r_ w_ r_ (M_ r_ (ai_ r_ u_ b_ (ai_ r_ u_ b_ (ai_ r_ u_ b_ (ai_ r_ u_ b_ (o_ r_ (bp_ r_ u_ r_ ?_)))))))))))))))))))))))))
    exact T_ (aq_ r_ r_ (R_ (E_ r_ (T_ (ar_ (aw_ (jq_ret1S rfl rfl (fun K h => by rw [hres] at h; exact h) sub_end)))))))
  by_cases c4 : ((g.points.map NRow).length : Int) > 39
  · have hl : limG g = false := by
      rw [Bool.eq_false_iff]
      intro h
      unfold limG at h
      simp only [Bool.and_eq_true, decide_eq_true_eq] at h
      omega
    have hres := lim_no hl
    refine R_ (o_ r_ (ci_ r_ (fun bx => E_ r_ (T_ (am_ (R_ (F_ r_ (L_ 0 r_ (o_ r_ (br_ r_ (fun hlen => o_ r_ (bz_ r_ r_ (M_ r_ (ah_ r_ w_ b_ (bs_ 0 r_ r_ r_ r_ (ah_ r_ w_ b_ (bm_ r_ (hO) (ah_ r_ w_ b_ (bz_ r_ r_ (o_ r_ (bv_ r_ w_ r_ (M_ r_ ?_))))))))))))))))))))))
    refine ah_ r_ w_ b_ (bf_ r_ r_ r_ b_ (ah_ r_ w_ b_ (bg_ 0 r_ r_ r_ r_ (ah_ r_ w_ b_ (bz_ r_ r_ (o_ r_ (bv_ r_ w_ r_ (M_ r_ (ah_ r_ w_ b_ (bf_ r_ r_ r_ b_ (ah_ r_ w_ b_ (bg_ 0 r_ r_ r_ r_ (ah_ r_ w_ b_ (br_ r_ (fun hlen => ah_ r_ w_ b_ (bz_ r_ r_ (o_ r_ (bv_ r_ w_ r_ (M_ r_ (ah_ r_ w_ b_ (bf_ r_ r_ r_ b_ (ah_ r_ w_ b_ (bg_ 0 r_ r_ r_ r_ (ah_ r_ w_ b_ (br_ r_ (fun hlen => ?_))))))))))))))))))))))))))
    exact ah_ r_ w_ b_ (bz_ r_ r_ (o_ r_ (bv_ r_ w_ r_ (T_ (aq_ r_ u_ (R_ (E_ r_ (T_ (ar_ (aw_ (jq_ret1S rfl rfl (fun K h => by rw [hres] at h; exact h) sub_end)))))))))))
  have hl : limG g = true := by
    unfold limG
    simp only [Bool.and_eq_true, decide_eq_true_eq]
    omega
  refine R_ (o_ r_ (ci_ r_ (fun bx => E_ r_ (T_ (am_ (R_ (F_ r_ (L_ 0 r_ (o_ r_ (br_ r_ (fun hlen => o_ r_ (bz_ r_ r_ (M_ r_ (ah_ r_ w_ b_ (bs_ 0 r_ r_ r_ r_ (ah_ r_ w_ b_ (bm_ r_ (hO) (ah_ r_ w_ b_ (bz_ r_ r_ (o_ r_ (bv_ r_ w_ r_ (M_ r_ ?_))))))))))))))))))))))
  refine ah_ r_ w_ b_ (bf_ r_ r_ r_ b_ (ah_ r_ w_ b_ (bg_ 0 r_ r_ r_ r_ (ah_ r_ w_ b_ (bz_ r_ r_ (o_ r_ (bv_ r_ w_ r_ (M_ r_ (ah_ r_ w_ b_ (bf_ r_ r_ r_ b_ (ah_ r_ w_ b_ (bg_ 0 r_ r_ r_ r_ (ah_ r_ w_ b_ (br_ r_ (fun hlen => ah_ r_ w_ b_ (bz_ r_ r_ (o_ r_ (bv_ r_ w_ r_ (M_ r_ (ah_ r_ w_ b_ (bf_ r_ r_ r_ b_ (ah_ r_ w_ b_ (bg_ 0 r_ r_ r_ r_ (ah_ r_ w_ b_ (br_ r_ (fun hlen => ?_))))))))))))))))))))))))))
  refine ah_ r_ w_ b_ (bz_ r_ r_ (o_ r_ (bv_ r_ w_ r_ (T_ (ap_ r_ w_ (as_ (al_ (am_ (am_ ?_)))))))))
  by_cases d0 : ((g.blocks.map Bk.row).length : Int) < 1
  · have hn0 : ¬ nEnds g.blocks = 1 := by
      have := nEnds_le g.blocks
      omega
    have hres := form_no hl (by rw [decide_eq_false hn0, Bool.and_false, Bool.false_and, Bool.false_and])
    refine an_ (F_ r_ (L_ 0 r_ (o_ r_ (br_ r_ (fun hlen => o_ r_ (bw_ r_ r_ (M_ r_ (ai_ r_ u_ b_ (ai_ r_ u_ b_ (ai_ r_ u_ b_ (o_ r_ (bp_ r_ u_ r_ (M_ r_ (ai_ r_ r_ b_ (ai_ r_ r_ b_ (ai_ r_ r_ b_ (o_ r_ (bp_ r_ r_ r_ (M_ r_ ?_)))))))))))))))))))
    refine ai_ r_ r_ b_ (ai_ r_ r_ b_ (ai_ r_ r_ b_ (ai_ r_ r_ b_ (ai_ r_ r_ b_ (o_ r_ (bp_ r_ r_ r_ (M_ r_ (ai_ r_ r_ b_ (ai_ r_ r_ b_ (ai_ r_ r_ b_ (ai_ r_ r_ b_ (ai_ r_ r_ b_ (ai_ r_ r_ b_ (o_ r_ (bp_ r_ r_ r_ (M_ r_ (ai_ r_ r_ b_ ?_)))))))))))))))))
    refine ai_ r_ r_ b_ (ai_ r_ r_ b_ (o_ r_ (bp_ r_ r_ r_ (M_ r_ (ai_ r_ r_ b_ (ai_ r_ r_ b_ (ai_ r_ r_ b_ (ai_ r_ r_ b_ (ai_ r_ r_ b_ (ai_ r_ r_ b_ (o_ r_ (bp_ r_ r_ r_ (T_ (aq_ r_ r_ (R_ (E_ r_ (T_ ?_)))))))))))))))))
    exact ar_ (aw_ (jq_ret1S rfl rfl (fun K h => by rw [hres] at h; exact h) sub_end))
  by_cases d1 : g.vars < 0
  · have hd : decG g = false := by
      rw [Bool.eq_false_iff, e0]
      intro h
      simp only [Bool.and_eq_true, decide_eq_true_eq] at h
      omega
    have hres := form_no hl (by rw [hd, Bool.and_false, Bool.false_and])
    refine an_ (F_ r_ (L_ 0 r_ (o_ r_ (br_ r_ (fun hlen => o_ r_ (bw_ r_ r_ (M_ r_ (ah_ r_ w_ b_ (bf_ r_ r_ r_ b_ (ah_ r_ w_ b_ (bg_ 0 r_ r_ r_ r_ (ah_ r_ w_ b_ (bw_ r_ r_ (o_ r_ (bv_ r_ w_ r_ (M_ r_ (ai_ r_ u_ b_ (ai_ r_ u_ b_ (ai_ r_ u_ b_ (o_ r_ (bp_ r_ u_ r_ (M_ r_ ?_))))))))))))))))))))))
    refine ai_ r_ r_ b_ (ai_ r_ r_ b_ (ai_ r_ r_ b_ (ai_ r_ r_ b_ (ai_ r_ r_ b_ (o_ r_ (bp_ r_ r_ r_ (M_ r_ (ai_ r_ r_ b_ (ai_ r_ r_ b_ (ai_ r_ r_ b_ (ai_ r_ r_ b_ (ai_ r_ r_ b_ (ai_ r_ r_ b_ (o_ r_ (bp_ r_ r_ r_ (M_ r_ (ai_ r_ r_ b_ ?_)))))))))))))))))
    refine ai_ r_ r_ b_ (ai_ r_ r_ b_ (o_ r_ (bp_ r_ r_ r_ (M_ r_ (ai_ r_ r_ b_ (ai_ r_ r_ b_ (ai_ r_ r_ b_ (ai_ r_ r_ b_ (ai_ r_ r_ b_ (ai_ r_ r_ b_ (o_ r_ (bp_ r_ r_ r_ (T_ (aq_ r_ r_ (R_ (E_ r_ (T_ ?_)))))))))))))))))
    exact ar_ (aw_ (jq_ret1S rfl rfl (fun K h => by rw [hres] at h; exact h) sub_end))
  by_cases d2 : g.keep < 0
  · have hd : decG g = false := by
      rw [Bool.eq_false_iff, e0]
      intro h
      simp only [Bool.and_eq_true, decide_eq_true_eq] at h
      omega
    have hres := form_no hl (by rw [hd, Bool.and_false, Bool.false_and])
    refine an_ (F_ r_ (L_ 0 r_ (o_ r_ (br_ r_ (fun hlen => o_ r_ (bw_ r_ r_ (M_ r_ (ah_ r_ w_ b_ (bf_ r_ r_ r_ b_ (ah_ r_ w_ b_ (bg_ 0 r_ r_ r_ r_ (ah_ r_ w_ b_ (bw_ r_ r_ (o_ r_ (bv_ r_ w_ r_ (M_ r_ (ah_ r_ w_ b_ (bf_ r_ r_ r_ b_ (ah_ r_ w_ b_ (bg_ 0 r_ r_ r_ r_ (ah_ r_ w_ b_ (bw_ r_ r_ (o_ r_ (bv_ r_ w_ r_ (M_ r_ ?_)))))))))))))))))))))))))
    refine ai_ r_ u_ b_ (ai_ r_ u_ b_ (ai_ r_ u_ b_ (ai_ r_ u_ b_ (ai_ r_ u_ b_ (o_ r_ (bp_ r_ u_ r_ (M_ r_ (ai_ r_ r_ b_ (ai_ r_ r_ b_ (ai_ r_ r_ b_ (ai_ r_ r_ b_ (ai_ r_ r_ b_ (ai_ r_ r_ b_ (o_ r_ (bp_ r_ r_ r_ (M_ r_ (ai_ r_ r_ b_ ?_)))))))))))))))))
    refine ai_ r_ r_ b_ (ai_ r_ r_ b_ (o_ r_ (bp_ r_ r_ r_ (M_ r_ (ai_ r_ r_ b_ (ai_ r_ r_ b_ (ai_ r_ r_ b_ (ai_ r_ r_ b_ (ai_ r_ r_ b_ (ai_ r_ r_ b_ (o_ r_ (bp_ r_ r_ r_ (T_ (aq_ r_ r_ (R_ (E_ r_ (T_ ?_)))))))))))))))))
    exact ar_ (aw_ (jq_ret1S rfl rfl (fun K h => by rw [hres] at h; exact h) sub_end))
  by_cases d3 : g.keep > g.vars
  · have hd : decG g = false := by
      rw [Bool.eq_false_iff, e0]
      intro h
      simp only [Bool.and_eq_true, decide_eq_true_eq] at h
      omega
    have hres := form_no hl (by rw [hd, Bool.and_false, Bool.false_and])
    refine an_ (F_ r_ (L_ 0 r_ (o_ r_ (br_ r_ (fun hlen => o_ r_ (bw_ r_ r_ (M_ r_ (ah_ r_ w_ b_ (bf_ r_ r_ r_ b_ (ah_ r_ w_ b_ (bg_ 0 r_ r_ r_ r_ (ah_ r_ w_ b_ (bw_ r_ r_ (o_ r_ (bv_ r_ w_ r_ (M_ r_ (ah_ r_ w_ b_ (bf_ r_ r_ r_ b_ (ah_ r_ w_ b_ (bg_ 0 r_ r_ r_ r_ (ah_ r_ w_ b_ (bw_ r_ r_ (o_ r_ (bv_ r_ w_ r_ (M_ r_ ?_)))))))))))))))))))))))))
    refine ah_ r_ w_ b_ (bf_ r_ r_ r_ b_ (ah_ r_ w_ b_ (bg_ 0 r_ r_ r_ r_ (ah_ r_ w_ b_ (bf_ r_ r_ r_ b_ (ah_ r_ w_ b_ (bg_ 0 r_ r_ r_ r_ (ah_ r_ w_ b_ (bz_ r_ r_ (o_ r_ (bv_ r_ w_ r_ (M_ r_ (ai_ r_ u_ b_ (ai_ r_ u_ b_ (ai_ r_ u_ b_ (ai_ r_ u_ b_ (ai_ r_ u_ b_ (ai_ r_ u_ b_ (o_ r_ (bp_ r_ u_ r_ (M_ r_ (ai_ r_ r_ b_ ?_))))))))))))))))))))))
    refine ai_ r_ r_ b_ (ai_ r_ r_ b_ (o_ r_ (bp_ r_ r_ r_ (M_ r_ (ai_ r_ r_ b_ (ai_ r_ r_ b_ (ai_ r_ r_ b_ (ai_ r_ r_ b_ (ai_ r_ r_ b_ (ai_ r_ r_ b_ (o_ r_ (bp_ r_ r_ r_ (T_ (aq_ r_ r_ (R_ (E_ r_ (T_ ?_)))))))))))))))))
    exact ar_ (aw_ (jq_ret1S rfl rfl (fun K h => by rw [hres] at h; exact h) sub_end))
  by_cases d4 : ((g.inputs.map InRow).length : Int) > g.keep
  · have hd : decG g = false := by
      rw [Bool.eq_false_iff, e0]
      intro h
      simp only [Bool.and_eq_true, decide_eq_true_eq] at h
      omega
    have hres := form_no hl (by rw [hd, Bool.and_false, Bool.false_and])
    refine an_ (F_ r_ (L_ 0 r_ (o_ r_ (br_ r_ (fun hlen => o_ r_ (bw_ r_ r_ (M_ r_ (ah_ r_ w_ b_ (bf_ r_ r_ r_ b_ (ah_ r_ w_ b_ (bg_ 0 r_ r_ r_ r_ (ah_ r_ w_ b_ (bw_ r_ r_ (o_ r_ (bv_ r_ w_ r_ (M_ r_ (ah_ r_ w_ b_ (bf_ r_ r_ r_ b_ (ah_ r_ w_ b_ (bg_ 0 r_ r_ r_ r_ (ah_ r_ w_ b_ (bw_ r_ r_ (o_ r_ (bv_ r_ w_ r_ (M_ r_ ?_)))))))))))))))))))))))))
    refine ah_ r_ w_ b_ (bf_ r_ r_ r_ b_ (ah_ r_ w_ b_ (bg_ 0 r_ r_ r_ r_ (ah_ r_ w_ b_ (bf_ r_ r_ r_ b_ (ah_ r_ w_ b_ (bg_ 0 r_ r_ r_ r_ (ah_ r_ w_ b_ (bz_ r_ r_ (o_ r_ (bv_ r_ w_ r_ (M_ r_ (ah_ r_ w_ b_ (bf_ r_ r_ r_ b_ (ah_ r_ w_ b_ (bg_ 0 r_ r_ r_ r_ (ah_ r_ w_ b_ (br_ r_ (fun hlen => ah_ r_ w_ b_ (bf_ r_ r_ r_ b_ (ah_ r_ w_ b_ (bg_ 0 r_ r_ r_ r_ (ah_ r_ w_ b_ (bz_ r_ r_ (o_ r_ (bv_ r_ w_ r_ ?_))))))))))))))))))))))))))
    refine M_ r_ (ai_ r_ u_ b_ (ai_ r_ u_ b_ (ai_ r_ u_ b_ (o_ r_ (bp_ r_ u_ r_ (M_ r_ (ai_ r_ r_ b_ (ai_ r_ r_ b_ (ai_ r_ r_ b_ (ai_ r_ r_ b_ (ai_ r_ r_ b_ (ai_ r_ r_ b_ (o_ r_ (bp_ r_ r_ r_ (T_ (aq_ r_ r_ (R_ ?_)))))))))))))))))
    exact E_ r_ (T_ (ar_ (aw_ (jq_ret1S rfl rfl (fun K h => by rw [hres] at h; exact h) sub_end))))
  by_cases d5 : g.shared < 0
  · have hd : decG g = false := by
      rw [Bool.eq_false_iff, e0]
      intro h
      simp only [Bool.and_eq_true, decide_eq_true_eq] at h
      omega
    have hres := form_no hl (by rw [hd, Bool.and_false, Bool.false_and])
    refine an_ (F_ r_ (L_ 0 r_ (o_ r_ (br_ r_ (fun hlen => o_ r_ (bw_ r_ r_ (M_ r_ (ah_ r_ w_ b_ (bf_ r_ r_ r_ b_ (ah_ r_ w_ b_ (bg_ 0 r_ r_ r_ r_ (ah_ r_ w_ b_ (bw_ r_ r_ (o_ r_ (bv_ r_ w_ r_ (M_ r_ (ah_ r_ w_ b_ (bf_ r_ r_ r_ b_ (ah_ r_ w_ b_ (bg_ 0 r_ r_ r_ r_ (ah_ r_ w_ b_ (bw_ r_ r_ (o_ r_ (bv_ r_ w_ r_ (M_ r_ ?_)))))))))))))))))))))))))
    refine ah_ r_ w_ b_ (bf_ r_ r_ r_ b_ (ah_ r_ w_ b_ (bg_ 0 r_ r_ r_ r_ (ah_ r_ w_ b_ (bf_ r_ r_ r_ b_ (ah_ r_ w_ b_ (bg_ 0 r_ r_ r_ r_ (ah_ r_ w_ b_ (bz_ r_ r_ (o_ r_ (bv_ r_ w_ r_ (M_ r_ (ah_ r_ w_ b_ (bf_ r_ r_ r_ b_ (ah_ r_ w_ b_ (bg_ 0 r_ r_ r_ r_ (ah_ r_ w_ b_ (br_ r_ (fun hlen => ah_ r_ w_ b_ (bf_ r_ r_ r_ b_ (ah_ r_ w_ b_ (bg_ 0 r_ r_ r_ r_ (ah_ r_ w_ b_ (bz_ r_ r_ (o_ r_ (bv_ r_ w_ r_ ?_))))))))))))))))))))))))))
    refine M_ r_ (ah_ r_ w_ b_ (bf_ r_ r_ r_ b_ (ah_ r_ w_ b_ (bg_ 0 r_ r_ r_ r_ (ah_ r_ w_ b_ (bw_ r_ r_ (o_ r_ (bv_ r_ w_ r_ (M_ r_ (ai_ r_ u_ b_ (ai_ r_ u_ b_ (ai_ r_ u_ b_ (ai_ r_ u_ b_ (ai_ r_ u_ b_ (ai_ r_ u_ b_ (o_ r_ (bp_ r_ u_ r_ (T_ (aq_ r_ r_ (R_ ?_))))))))))))))))))))
    exact E_ r_ (T_ (ar_ (aw_ (jq_ret1S rfl rfl (fun K h => by rw [hres] at h; exact h) sub_end))))
  by_cases d6 : g.shared > ((g.arrays.map ArRow).length : Int)
  · have hd : decG g = false := by
      rw [Bool.eq_false_iff, e0]
      intro h
      simp only [Bool.and_eq_true, decide_eq_true_eq] at h
      omega
    have hres := form_no hl (by rw [hd, Bool.and_false, Bool.false_and])
    refine an_ (F_ r_ (L_ 0 r_ (o_ r_ (br_ r_ (fun hlen => o_ r_ (bw_ r_ r_ (M_ r_ (ah_ r_ w_ b_ (bf_ r_ r_ r_ b_ (ah_ r_ w_ b_ (bg_ 0 r_ r_ r_ r_ (ah_ r_ w_ b_ (bw_ r_ r_ (o_ r_ (bv_ r_ w_ r_ (M_ r_ (ah_ r_ w_ b_ (bf_ r_ r_ r_ b_ (ah_ r_ w_ b_ (bg_ 0 r_ r_ r_ r_ (ah_ r_ w_ b_ (bw_ r_ r_ (o_ r_ (bv_ r_ w_ r_ (M_ r_ ?_)))))))))))))))))))))))))
    refine ah_ r_ w_ b_ (bf_ r_ r_ r_ b_ (ah_ r_ w_ b_ (bg_ 0 r_ r_ r_ r_ (ah_ r_ w_ b_ (bf_ r_ r_ r_ b_ (ah_ r_ w_ b_ (bg_ 0 r_ r_ r_ r_ (ah_ r_ w_ b_ (bz_ r_ r_ (o_ r_ (bv_ r_ w_ r_ (M_ r_ (ah_ r_ w_ b_ (bf_ r_ r_ r_ b_ (ah_ r_ w_ b_ (bg_ 0 r_ r_ r_ r_ (ah_ r_ w_ b_ (br_ r_ (fun hlen => ah_ r_ w_ b_ (bf_ r_ r_ r_ b_ (ah_ r_ w_ b_ (bg_ 0 r_ r_ r_ r_ (ah_ r_ w_ b_ (bz_ r_ r_ (o_ r_ (bv_ r_ w_ r_ ?_))))))))))))))))))))))))))
    refine M_ r_ (ah_ r_ w_ b_ (bf_ r_ r_ r_ b_ (ah_ r_ w_ b_ (bg_ 0 r_ r_ r_ r_ (ah_ r_ w_ b_ (bw_ r_ r_ (o_ r_ (bv_ r_ w_ r_ (M_ r_ (ah_ r_ w_ b_ (bf_ r_ r_ r_ b_ (ah_ r_ w_ b_ (bg_ 0 r_ r_ r_ r_ (ah_ r_ w_ b_ (bf_ r_ r_ r_ b_ (ah_ r_ w_ b_ (bg_ 0 r_ r_ r_ r_ (ah_ r_ w_ b_ (br_ r_ (fun hlen => ah_ r_ w_ b_ (bz_ r_ r_ (o_ r_ (bv_ r_ w_ r_ (T_ (aq_ r_ u_ (R_ ?_))))))))))))))))))))))))))
    exact E_ r_ (T_ (ar_ (aw_ (jq_ret1S rfl rfl (fun K h => by rw [hres] at h; exact h) sub_end))))
  have e1 : decG g = (g.inputs.all inpB && g.arrays.all arrB) := by
    rw [e0, decide_eq_true (show 0 ≤ g.vars by omega), decide_eq_true (show 0 ≤ g.keep by omega), decide_eq_true (show g.keep ≤ g.vars by omega), decide_eq_true (show (g.inputs.length : Int) ≤ g.keep by omega), decide_eq_true (show 0 ≤ g.shared by omega), decide_eq_true (show g.shared ≤ (g.arrays.length : Int) by omega)]
    simp only [Bool.true_and]
  clear hO e0
  refine an_ (F_ r_ (L_ 0 r_ (o_ r_ (br_ r_ (fun hlen => o_ r_ (bw_ r_ r_ (M_ r_ (ah_ r_ w_ b_ (bf_ r_ r_ r_ b_ (ah_ r_ w_ b_ (bg_ 0 r_ r_ r_ r_ (ah_ r_ w_ b_ (bw_ r_ r_ (o_ r_ (bv_ r_ w_ r_ (M_ r_ (ah_ r_ w_ b_ (bf_ r_ r_ r_ b_ (ah_ r_ w_ b_ (bg_ 0 r_ r_ r_ r_ (ah_ r_ w_ b_ (bw_ r_ r_ (o_ r_ (bv_ r_ w_ r_ (M_ r_ ?_)))))))))))))))))))))))))
  refine ah_ r_ w_ b_ (bf_ r_ r_ r_ b_ (ah_ r_ w_ b_ (bg_ 0 r_ r_ r_ r_ (ah_ r_ w_ b_ (bf_ r_ r_ r_ b_ (ah_ r_ w_ b_ (bg_ 0 r_ r_ r_ r_ (ah_ r_ w_ b_ (bz_ r_ r_ (o_ r_ (bv_ r_ w_ r_ (M_ r_ (ah_ r_ w_ b_ (bf_ r_ r_ r_ b_ (ah_ r_ w_ b_ (bg_ 0 r_ r_ r_ r_ (ah_ r_ w_ b_ (br_ r_ (fun hlen => ah_ r_ w_ b_ (bf_ r_ r_ r_ b_ (ah_ r_ w_ b_ (bg_ 0 r_ r_ r_ r_ (ah_ r_ w_ b_ (bz_ r_ r_ (o_ r_ (bv_ r_ w_ r_ ?_))))))))))))))))))))))))))
  refine M_ r_ (ah_ r_ w_ b_ (bf_ r_ r_ r_ b_ (ah_ r_ w_ b_ (bg_ 0 r_ r_ r_ r_ (ah_ r_ w_ b_ (bw_ r_ r_ (o_ r_ (bv_ r_ w_ r_ (M_ r_ (ah_ r_ w_ b_ (bf_ r_ r_ r_ b_ (ah_ r_ w_ b_ (bg_ 0 r_ r_ r_ r_ (ah_ r_ w_ b_ (bf_ r_ r_ r_ b_ (ah_ r_ w_ b_ (bg_ 0 r_ r_ r_ r_ (ah_ r_ w_ b_ (br_ r_ (fun hlen => ah_ r_ w_ b_ (bz_ r_ r_ (o_ r_ (bv_ r_ w_ r_ (T_ (ap_ r_ w_ (as_ ?_))))))))))))))))))))))))))
  refine al_ (am_ (R_ (E_ r_ (T_ (au_ (jc_loopS (ι := Nat) [] (fun k => k ≤ (g.inputs).length ∧ (g.inputs.take k).all inpB = true) (fun k => (3, In .i64 (k : Int)) :: [(1, Ptr bx)]) (fun k => [.blk bx 28 g.row]) (fun k => (g.inputs).length - k) 0 ⟨Nat.zero_le _, rfl⟩ ?_ ?_ ?_))))))
  · exact bc_ 0 r_ sub_end
  · (repeat (first | exact True.intro | refine ⟨rfl, ?_⟩))
  rintro k ⟨hk, hI⟩
  have eLk : ((g.inputs).map InRow).length = (g.inputs).length := List.length_map _
  by_cases hltk : k < (g.inputs).length
  · have hltk2 : (k : Int) < (((g.inputs).map InRow).length : Int) := by omega
    have hL := rWord_c (g.inputs[k]).2.1
    have hH := rWord_c (g.inputs[k]).2.2
    have hno : inpB g.inputs[k] = false → chG g = 10 := fun h => form_no hl (by rw [show decG g = false by rw [e1, all_no hltk h]; rfl, Bool.and_false, Bool.false_and])
    by_cases w3 : (g.inputs[k]).2.1 > (g.inputs[k]).2.2
    · have hres := hno (by unfold inpB; rw [decide_eq_false (show ¬ (g.inputs[k]).2.1 ≤ (g.inputs[k]).2.2 by omega), Bool.and_false])
      refine am_ (R_ (M_ r_ (F_ r_ (L_ 0 r_ (o_ r_ (br_ r_ (fun hlen => o_ r_ (bw_ r_ r_ (T_ (aq_ r_ u_ (as_ (al_ (B_ (R_ (F_ r_ (L_ 0 r_ (M_ r_ ?_)))))))))))))))))
      refine o_ r_ (cc_ r_ r_ g_ r_ r_ b_ (o_ r_ (cr_ r_ r_ r_ (o_ r_ (bl_ r_ r_ (fun bl => S_ 0 r_ (T_ (R_ (F_ r_ (L_ 0 r_ (F_ r_ (L_ 0 r_ (o_ r_ (bz_ r_ r_ (M_ r_ (ai_ r_ u_ b_ (ai_ r_ u_ b_ (ai_ r_ u_ b_ (ai_ r_ u_ b_ ?_)))))))))))))))))))
      refine o_ r_ (bp_ r_ u_ r_ (M_ r_ (ai_ r_ r_ b_ (ai_ r_ r_ b_ (ai_ r_ r_ b_ (ai_ r_ r_ b_ (o_ r_ (bp_ r_ r_ r_ (T_ (aq_ r_ r_ (R_ (E_ r_ (T_ (ar_ (az_ (aw_ (aw_ ?_)))))))))))))))))
      exact az_ (aw_ (jq_ret1S rfl rfl (fun K h => by rw [hres] at h; exact h) sub_end))
    cases w1 : wrdB (g.inputs[k]).2.1 with
    | false =>
      rw [w1] at hL
      have hres := hno (by unfold inpB; rw [w1]; rfl)
      refine am_ (R_ (M_ r_ (F_ r_ (L_ 0 r_ (o_ r_ (br_ r_ (fun hlen => o_ r_ (bw_ r_ r_ (T_ (aq_ r_ u_ (as_ (al_ (B_ (R_ (F_ r_ (L_ 0 r_ (M_ r_ ?_)))))))))))))))))
      refine o_ r_ (cc_ r_ r_ g_ r_ r_ b_ (o_ r_ (cr_ r_ r_ r_ (o_ r_ (bl_ r_ r_ (fun bl => S_ 0 r_ (T_ (R_ (F_ r_ (L_ 0 r_ (F_ r_ (L_ 0 r_ (o_ r_ (bz_ r_ r_ (M_ r_ (ah_ r_ w_ b_ (bf_ r_ r_ r_ b_ (ah_ r_ w_ b_ (bg_ 0 r_ r_ r_ r_ (ah_ r_ w_ b_ (bm_ r_ (hL) (ah_ r_ w_ b_ (cd_ r_ ?_)))))))))))))))))))))))
      refine o_ r_ (bv_ r_ w_ r_ (M_ r_ (ai_ r_ r_ b_ (ai_ r_ r_ b_ (ai_ r_ r_ b_ (ai_ r_ r_ b_ (o_ r_ (bp_ r_ r_ r_ (T_ (aq_ r_ r_ (R_ (E_ r_ (T_ (ar_ (az_ (aw_ (aw_ ?_)))))))))))))))))
      exact az_ (aw_ (jq_ret1S rfl rfl (fun K h => by rw [hres] at h; exact h) sub_end))
    | true =>
      rw [w1] at hL
      cases w2 : wrdB (g.inputs[k]).2.2 with
      | false =>
        rw [w2] at hH
        have hres := hno (by unfold inpB; rw [w1, w2]; rfl)
        refine am_ (R_ (M_ r_ (F_ r_ (L_ 0 r_ (o_ r_ (br_ r_ (fun hlen => o_ r_ (bw_ r_ r_ (T_ (aq_ r_ u_ (as_ (al_ (B_ (R_ (F_ r_ (L_ 0 r_ (M_ r_ ?_)))))))))))))))))
        refine o_ r_ (cc_ r_ r_ g_ r_ r_ b_ (o_ r_ (cr_ r_ r_ r_ (o_ r_ (bl_ r_ r_ (fun bl => S_ 0 r_ (T_ (R_ (F_ r_ (L_ 0 r_ (F_ r_ (L_ 0 r_ (o_ r_ (bz_ r_ r_ (M_ r_ (ah_ r_ w_ b_ (bf_ r_ r_ r_ b_ (ah_ r_ w_ b_ (bg_ 0 r_ r_ r_ r_ (ah_ r_ w_ b_ (bm_ r_ (hL) (ah_ r_ w_ b_ (cd_ r_ ?_)))))))))))))))))))))))
        refine o_ r_ (bv_ r_ w_ r_ (M_ r_ (ah_ r_ r_ b_ (bf_ r_ r_ r_ b_ (ah_ r_ r_ b_ (bg_ 0 r_ r_ r_ r_ (ah_ r_ r_ b_ (bm_ r_ (hH) (ah_ r_ r_ b_ (cd_ r_ (o_ r_ (bv_ r_ r_ r_ (T_ (aq_ r_ r_ (R_ (E_ r_ (T_ (ar_ (az_ (aw_ (aw_ ?_)))))))))))))))))))))
        exact az_ (aw_ (jq_ret1S rfl rfl (fun K h => by rw [hres] at h; exact h) sub_end))
      | true =>
        rw [w2] at hH
        have hok : inpB g.inputs[k] = true := by unfold inpB; rw [w1, w2, decide_eq_true (by omega)]; rfl
        refine am_ (R_ (M_ r_ (F_ r_ (L_ 0 r_ (o_ r_ (br_ r_ (fun hlen => o_ r_ (bw_ r_ r_ (T_ (aq_ r_ u_ (as_ (al_ (B_ (R_ (F_ r_ (L_ 0 r_ (M_ r_ ?_)))))))))))))))))
        refine o_ r_ (cc_ r_ r_ g_ r_ r_ b_ (o_ r_ (cr_ r_ r_ r_ (o_ r_ (bl_ r_ r_ (fun bl => S_ 0 r_ (T_ (R_ (F_ r_ (L_ 0 r_ (F_ r_ (L_ 0 r_ (o_ r_ (bz_ r_ r_ (M_ r_ (ah_ r_ w_ b_ (bf_ r_ r_ r_ b_ (ah_ r_ w_ b_ (bg_ 0 r_ r_ r_ r_ (ah_ r_ w_ b_ (bm_ r_ (hL) (ah_ r_ w_ b_ (cd_ r_ ?_)))))))))))))))))))))))
        refine o_ r_ (bv_ r_ w_ r_ (M_ r_ (ah_ r_ r_ b_ (bf_ r_ r_ r_ b_ (ah_ r_ r_ b_ (bg_ 0 r_ r_ r_ r_ (ah_ r_ r_ b_ (bm_ r_ (hH) (ah_ r_ r_ b_ (cd_ r_ (o_ r_ (bv_ r_ r_ r_ (T_ (ap_ r_ r_ (as_ (ay_ (al_ (an_ (M_ r_ (o_ r_ (bj_ r_ r_ g_ (E_ r_ ?_))))))))))))))))))))))
        refine ak_ (jq_againS (i := k) (k + 1) ⟨hltk, all_snoc hltk hI hok⟩ g_ ?_ ?_)
        · exact bc_ 1 r_ sub_end
        · (repeat (first | exact True.intro | refine ⟨rfl, ?_⟩))
  · have hltk2 : ¬ (k : Int) < (((g.inputs).map InRow).length : Int) := by omega
    rw [List.take_of_length_le (by omega)] at hI
    rw [hI, Bool.true_and] at e1
    refine am_ (R_ (M_ r_ (F_ r_ (L_ 0 r_ (o_ r_ (br_ r_ (fun hlen => o_ r_ (bw_ r_ r_ (T_ (ap_ r_ w_ (av_ (ax_ (ax_ (ba_ (al_ (am_ (R_ ?_)))))))))))))))))
    refine E_ r_ (T_ (au_ (jc_loopS (ι := Nat) [] (fun k => k ≤ (g.arrays).length ∧ (g.arrays.take k).all arrB = true) (fun k => (5, In .i64 (k : Int)) :: [(1, Ptr bx)]) (fun k => [.blk bx 28 g.row]) (fun k => (g.arrays).length - k) 0 ⟨Nat.zero_le _, rfl⟩ ?_ ?_ ?_)))
    · exact bc_ 0 r_ sub_end
    · (repeat (first | exact True.intro | refine ⟨rfl, ?_⟩))
    rintro k ⟨hk, hJ⟩
    have eLk : ((g.arrays).map ArRow).length = (g.arrays).length := List.length_map _
    by_cases hltk : k < (g.arrays).length
    · have hltk2 : (k : Int) < (((g.arrays).map ArRow).length : Int) := by omega
      have hP := rSize_c (g.arrays[k]).2
      cases w1 : pwB (g.arrays[k]).2 with
      | false =>
        rw [w1] at hP
        have hres : chG g = 10 := form_no hl (by rw [show decG g = false by rw [e1]; exact all_no hltk w1, Bool.and_false, Bool.false_and])
        refine am_ (R_ (M_ r_ (F_ r_ (L_ 0 r_ (o_ r_ (br_ r_ (fun hlen => o_ r_ (bw_ r_ r_ (T_ (aq_ r_ u_ (as_ (al_ (B_ (R_ (F_ r_ (L_ 0 r_ (M_ r_ ?_)))))))))))))))))
        refine o_ r_ (cc_ r_ r_ g_ r_ r_ b_ (o_ r_ (cf_ r_ r_ r_ b_ r_ b_ (o_ r_ (cb_ r_ r_ (o_ r_ (bm_ r_ (hP) (o_ r_ (cd_ r_ (T_ (aq_ r_ r_ (R_ (E_ r_ (T_ (ar_ (az_ (aw_ (aw_ (az_ (aw_ ?_))))))))))))))))))))
        exact jq_ret1S rfl rfl (fun K h => by rw [hres] at h; exact h) sub_end
      | true =>
        rw [w1] at hP
        refine am_ (R_ (M_ r_ (F_ r_ (L_ 0 r_ (o_ r_ (br_ r_ (fun hlen => o_ r_ (bw_ r_ r_ (T_ (aq_ r_ u_ (as_ (al_ (B_ (R_ (F_ r_ (L_ 0 r_ (M_ r_ ?_)))))))))))))))))
        refine o_ r_ (cc_ r_ r_ g_ r_ r_ b_ (o_ r_ (cf_ r_ r_ r_ b_ r_ b_ (o_ r_ (cb_ r_ r_ (o_ r_ (bm_ r_ (hP) (o_ r_ (cd_ r_ (T_ (ap_ r_ r_ (as_ (ay_ (al_ (an_ (M_ r_ (o_ r_ (bj_ r_ r_ g_ (E_ r_ (ak_ (jq_againS (i := k) (k + 1) ⟨hltk, all_snoc hltk hJ w1⟩ g_ ?_ ?_)))))))))))))))))))))
        · exact bc_ 0 r_ sub_end
        · (repeat (first | exact True.intro | refine ⟨rfl, ?_⟩))
    · have hltk2 : ¬ (k : Int) < (((g.arrays).map ArRow).length : Int) := by omega
      rw [List.take_of_length_le (by omega)] at hJ
      rw [hJ] at e1
      refine am_ (R_ (M_ r_ (F_ r_ (L_ 0 r_ (o_ r_ (br_ r_ (fun hlen => o_ r_ (bw_ r_ r_ (T_ (ap_ r_ w_ (av_ (ax_ (ax_ (ba_ (al_ (R_ (E_ r_ ?_)))))))))))))))))
      refine T_ (am_ (R_ (E_ r_ (T_ (au_ (jc_loopS (ι := Nat) [] (fun k => k ≤ (g.blocks).length ∧ (g.blocks.take k).all (bkB g.vars g.arrays.length g.blocks.length) = true) (fun k => (7, In .i64 (k : Int)) :: [(1, Ptr bx), (6, In .i64 (nEnds (g.blocks.take k) : Nat))]) (fun k => [.blk bx 28 g.row]) (fun k => (g.blocks).length - k) 0 ⟨Nat.zero_le _, rfl⟩ ?_ ?_ ?_))))))
      · exact bc_ 0 r_ sub_end
      · (repeat (first | exact True.intro | refine ⟨rfl, ?_⟩))
      rintro k ⟨hk, hQ⟩
      have eLk : ((g.blocks).map Bk.row).length = (g.blocks).length := List.length_map _
      by_cases hltk : k < (g.blocks).length
      · have hltk2 : (k : Int) < (((g.blocks).map Bk.row).length : Int) := by omega
        have hst := nEnds_step hltk
        have hle := nEnds_le (g.blocks.take k)
        rw [List.length_take] at hle
        have eN : ((g.blocks[k]).next.map Irow).length = (g.blocks[k]).next.length := List.length_map _
        have hB := rBlock_c g g.blocks[k]
        cases h1 : bkB g.vars g.arrays.length g.blocks.length g.blocks[k] with
        | false =>
          rw [h1] at hB
          have hres := form_no hl (by rw [all_no hltk h1]; rfl)
          refine am_ (R_ (M_ r_ (F_ r_ (L_ 0 r_ (o_ r_ (br_ r_ (fun hlen => o_ r_ (bw_ r_ r_ (T_ (aq_ r_ u_ (as_ (al_ (B_ (am_ (am_ (ao_ r_ r_ k_ k_ (aa_ (fun c => bs_ 0 r_ r_ r_ r_ p_) ?_)))))))))))))))))
          refine yF_ r_ (yL_ 0 r_ (yM_ r_ (aa_ (fun c => cc_ r_ r_ g_ r_ r_ b_ p_) (aa_ (fun c => cr_ r_ r_ r_ p_) (aa_ (fun c => bm_ r_ (hB) p_) (aa_ (fun c => cd_ r_ p_) (ae_ (al_ (aq_ r_ r_ (R_ (E_ r_ (T_ (ar_ (aw_ (az_ ?_)))))))))))))))
          exact aw_ (aw_ (az_ (aw_ (jq_ret1S rfl rfl (fun K h => by rw [hres] at h; exact h) sub_end))))
        | true =>
          rw [h1] at hB
          by_cases h2 : (((g.blocks[k]).next.map Irow).length : Int) = 0
          · rw [if_pos (by omega)] at hst
            refine am_ (R_ (M_ r_ (F_ r_ (L_ 0 r_ (o_ r_ (br_ r_ (fun hlen => o_ r_ (bw_ r_ r_ (T_ (aq_ r_ u_ (as_ (al_ (B_ (am_ (am_ (ao_ r_ r_ k_ k_ (aa_ (fun c => bs_ 0 r_ r_ r_ r_ p_) ?_)))))))))))))))))
            refine yF_ r_ (yL_ 0 r_ (yM_ r_ (aa_ (fun c => cc_ r_ r_ g_ r_ r_ b_ p_) (aa_ (fun c => cr_ r_ r_ r_ p_) (aa_ (fun c => bm_ r_ (hB) p_) (aa_ (fun c => cd_ r_ p_) (ae_ (al_ (ap_ r_ r_ (as_ (al_ (R_ (F_ r_ (L_ 0 r_ (M_ r_ ?_)))))))))))))))
            refine o_ r_ (cc_ r_ r_ g_ r_ r_ b_ (o_ r_ (cf_ r_ r_ r_ b_ r_ b_ (o_ r_ (cb_ r_ r_ (o_ r_ (br_ r_ (fun hlen => o_ r_ (bn_ r_ r_ (T_ (aq_ r_ u_ (an_ (M_ r_ (o_ r_ (bj_ r_ r_ g_ (E_ r_ (ak_ (ay_ (al_ (an_ (M_ r_ ?_)))))))))))))))))))))
            refine o_ r_ (bj_ r_ r_ g_ (E_ r_ (ak_ (jq_againS (i := k) (k + 1) ⟨hltk, all_snoc hltk hQ h1⟩ g_ ?_ ?_))))
            · exact bc_ 0 r_ sub_end
            · rw [hst]
              (repeat (first | exact True.intro | refine ⟨rfl, ?_⟩))
          · rw [if_neg (by omega)] at hst
            refine am_ (R_ (M_ r_ (F_ r_ (L_ 0 r_ (o_ r_ (br_ r_ (fun hlen => o_ r_ (bw_ r_ r_ (T_ (aq_ r_ u_ (as_ (al_ (B_ (am_ (am_ (ao_ r_ r_ k_ k_ (aa_ (fun c => bs_ 0 r_ r_ r_ r_ p_) ?_)))))))))))))))))
            refine yF_ r_ (yL_ 0 r_ (yM_ r_ (aa_ (fun c => cc_ r_ r_ g_ r_ r_ b_ p_) (aa_ (fun c => cr_ r_ r_ r_ p_) (aa_ (fun c => bm_ r_ (hB) p_) (aa_ (fun c => cd_ r_ p_) (ae_ (al_ (ap_ r_ r_ (as_ (al_ (R_ (F_ r_ (L_ 0 r_ (M_ r_ ?_)))))))))))))))
            refine o_ r_ (cc_ r_ r_ g_ r_ r_ b_ (o_ r_ (cf_ r_ r_ r_ b_ r_ b_ (o_ r_ (cb_ r_ r_ (o_ r_ (br_ r_ (fun hlen => o_ r_ (bn_ r_ r_ (T_ (ap_ r_ w_ (as_ (ay_ (al_ (an_ (M_ r_ (o_ r_ (bj_ r_ r_ g_ (E_ r_ (ak_ (jq_againS (i := k) (k + 1) ⟨hltk, all_snoc hltk hQ h1⟩ g_ ?_ ?_)))))))))))))))))))))
            · exact bc_ 0 r_ sub_end
            · rw [hst]
              (repeat (first | exact True.intro | refine ⟨rfl, ?_⟩))
      · have hltk2 : ¬ (k : Int) < (((g.blocks).map Bk.row).length : Int) := by omega
        rw [List.take_of_length_le (by omega)] at hQ
        rw [List.take_of_length_le (by omega)]
        by_cases h1 : ((nEnds g.blocks : Nat) : Int) ≠ 1
        · have hres := form_no hl (by rw [decide_eq_false (show ¬ nEnds g.blocks = 1 by omega), Bool.and_false, Bool.false_and, Bool.false_and])
          refine am_ (R_ (M_ r_ (F_ r_ (L_ 0 r_ (o_ r_ (br_ r_ (fun hlen => o_ r_ (bw_ r_ r_ (T_ (ap_ r_ w_ (av_ (ax_ (ax_ (ba_ (al_ (am_ (R_ ?_)))))))))))))))))
          exact M_ r_ (o_ r_ (bx_ r_ r_ (T_ (aq_ r_ u_ (R_ (E_ r_ (T_ (ar_ (aw_ (jq_ret1S rfl rfl (fun K h => by rw [hres] at h; exact h) sub_end))))))))))
        have h1' : nEnds g.blocks = 1 := by omega
        have en : namG g = (g.points.all (ptB g.blocks.length) && g.heads.all (hdB2 g.blocks.length) && ascB g.heads) := rfl
        have hfn : namG g = false → chG g = 10 := fun h => form_no hl (by rw [h, Bool.and_false])
        refine am_ (R_ (M_ r_ (F_ r_ (L_ 0 r_ (o_ r_ (br_ r_ (fun hlen => o_ r_ (bw_ r_ r_ (T_ (ap_ r_ w_ (av_ (ax_ (ax_ (ba_ (al_ (am_ (R_ ?_)))))))))))))))))
        refine M_ r_ (o_ r_ (bx_ r_ r_ (T_ (ap_ r_ w_ (as_ (al_ (am_ (R_ (E_ r_ (T_ (au_ (jc_loopS (ι := Nat) [] (fun k => k ≤ (g.points).length ∧ (g.points.take k).all (ptB g.blocks.length) = true) (fun k => (8, In .i64 (k : Int)) :: [(1, Ptr bx)]) (fun k => [.blk bx 28 g.row]) (fun k => (g.points).length - k) 0 ⟨Nat.zero_le _, rfl⟩ ?_ ?_ ?_))))))))))))
        · exact bc_ 0 r_ sub_end
        · (repeat (first | exact True.intro | refine ⟨rfl, ?_⟩))
        rintro k ⟨hk, hR⟩
        have eLk : ((g.points).map NRow).length = (g.points).length := List.length_map _
        by_cases hltk : k < (g.points).length
        · have hltk2 : (k : Int) < (((g.points).map NRow).length : Int) := by omega
          have hno : ptB g.blocks.length g.points[k] = false → chG g = 10 := fun h => hfn (by rw [en, all_no hltk h]; rfl)
          have hyes : ptB g.blocks.length g.points[k] = true → (g.points.take (k + 1)).all (ptB g.blocks.length) = true := fun h => all_snoc hltk hR h
          refine am_ (R_ (M_ r_ (F_ r_ (L_ 0 r_ (o_ r_ (br_ r_ (fun hlen => o_ r_ (bw_ r_ r_ (T_ (aq_ r_ u_ (as_ (al_ (B_ (R_ (E_ r_ (T_ (au_ ?_)))))))))))))))))
          refine jc_loopS (ι := Nat) [] (fun j => j ≤ (g.points[k]).length ∧ ((g.points[k]).take j).all (fun x => inN x g.blocks.length) = true ∧ ((g.points[k]).take j).Nodup) (fun j => (9, In .i64 (j : Int)) :: [(1, Ptr bx), (8, In .i64 (k : Int))]) (fun j => [.blk bx 28 g.row]) (fun j => (g.points[k]).length - j) 0 ⟨Nat.zero_le _, ⟨rfl, List.nodup_nil⟩⟩ ?_ ?_ ?_
          · exact bc_ 0 r_ sub_end
          · (repeat (first | exact True.intro | refine ⟨rfl, ?_⟩))
          rintro j ⟨hj, ⟨hJ2, hN⟩⟩
          have eLj : ((g.points[k]).map Irow).length = (g.points[k]).length := List.length_map _
          by_cases hltj : j < (g.points[k]).length
          · have hltj2 : (j : Int) < (((g.points[k]).map Irow).length : Int) := by omega
            have hB := rIn_c (g.points[k])[j] ((g.blocks.map Bk.row).length : Int)
            have e3 : inN (g.points[k])[j] ((g.blocks.map Bk.row).length : Int) = inN (g.points[k])[j] g.blocks.length := by rw [eB]
            rw [e3] at hB
            have hns := nodup_snoc hltj
            have hH := rHas_c ((g.points[k]).take j) (g.points[k])[j]
            cases h3 : inN (g.points[k])[j] g.blocks.length with
            | false =>
              rw [h3] at hB
              have hres := hno (by unfold ptB; rw [all_no hltj h3]; rfl)
              refine am_ (R_ (M_ r_ (F_ r_ (L_ 0 r_ (M_ r_ (o_ r_ (cc_ r_ r_ g_ r_ r_ b_ (o_ r_ (cb_ r_ r_ (o_ r_ (br_ r_ (fun hlen => o_ r_ (bw_ r_ r_ (T_ (aq_ r_ u_ (as_ (al_ (B_ (am_ ?_)))))))))))))))))))
              refine ao_ r_ r_ k_ k_ (yF_ r_ (yL_ 0 r_ (yM_ r_ (aa_ (fun c => cc_ r_ r_ g_ r_ r_ b_ p_) (aa_ (fun c => cb_ r_ r_ p_) (yM_ r_ (aa_ (fun c => cc_ r_ r_ g_ r_ r_ b_ p_) (aa_ (fun c => cb_ r_ r_ p_) (yF_ r_ (yL_ 0 r_ (aa_ (fun c => br_ r_ (fun hlen => p_)) (aa_ (fun c => bm_ r_ (hB) p_) (aa_ (fun c => cd_ r_ p_) (yM_ r_ (ac_ r_ r_ ?_)))))))))))))))
              refine ac_ r_ r_ (ac_ r_ r_ (ac_ r_ r_ (ac_ r_ r_ (ac_ r_ r_ (ac_ r_ r_ (ac_ r_ r_ (ac_ r_ r_ (ac_ r_ r_ (ac_ r_ r_ (ac_ r_ r_ (ac_ r_ r_ (ac_ r_ r_ (ac_ r_ r_ (ac_ r_ r_ (aa_ (fun c => bp_ r_ r_ r_ p_) ?_)))))))))))))))
              refine ae_ (al_ (aq_ r_ r_ (R_ (E_ r_ (T_ (ar_ (az_ (aw_ (aw_ (az_ (az_ (aw_ (aw_ (az_ (aw_ ?_)))))))))))))))
              exact jq_ret1S rfl rfl (fun K h => by rw [hres] at h; exact h) sub_end
            | true =>
              rw [h3] at hB
              by_cases hm : (g.points[k])[j] ∈ (g.points[k]).take j
              · rw [decide_eq_true hm] at hH
                have hres := hno (by
                  unfold ptB
                  rw [decide_eq_false (fun hd => (hns.1 (hd.sublist (List.take_sublist _ _))).2 hm), Bool.and_false])
                refine am_ (R_ (M_ r_ (F_ r_ (L_ 0 r_ (M_ r_ (o_ r_ (cc_ r_ r_ g_ r_ r_ b_ (o_ r_ (cb_ r_ r_ (o_ r_ (br_ r_ (fun hlen => o_ r_ (bw_ r_ r_ (T_ (aq_ r_ u_ (as_ (al_ (B_ (am_ ?_)))))))))))))))))))
                refine ao_ r_ r_ k_ k_ (yF_ r_ (yL_ 0 r_ (yM_ r_ (aa_ (fun c => cc_ r_ r_ g_ r_ r_ b_ p_) (aa_ (fun c => cb_ r_ r_ p_) (yM_ r_ (aa_ (fun c => cc_ r_ r_ g_ r_ r_ b_ p_) (aa_ (fun c => cb_ r_ r_ p_) (yF_ r_ (yL_ 0 r_ (aa_ (fun c => br_ r_ (fun hlen => p_)) (aa_ (fun c => bm_ r_ (hB) p_) (aa_ (fun c => cd_ r_ p_) (yM_ r_ (ab_ r_ r_ (fun c => bf_ r_ r_ r_ b_ p_) ?_)))))))))))))))
                refine ab_ r_ r_ (fun c => bg_ 0 r_ r_ r_ r_ p_) (ab_ r_ r_ (fun c => bd_ r_ p_) (ab_ r_ r_ (fun c => cc_ r_ r_ g_ r_ r_ b_ p_) (ab_ r_ r_ (fun c => cb_ r_ r_ p_) (ab_ r_ r_ (fun c => bd_ r_ p_) (ab_ r_ r_ (fun c => ow_prefixMap r_ r_ g_ p_) (ab_ r_ r_ (fun c => bf_ r_ r_ r_ b_ p_) (ab_ r_ r_ (fun c => bg_ 0 r_ r_ r_ r_ p_) (ab_ r_ r_ (fun c => bd_ r_ p_) (ab_ r_ r_ (fun c => cc_ r_ r_ g_ r_ r_ b_ p_) ?_)))))))))
                refine ab_ r_ r_ (fun c => cb_ r_ r_ p_) (ab_ r_ r_ (fun c => bd_ r_ p_) (ab_ r_ r_ (fun c => cc_ r_ r_ g_ r_ r_ b_ p_) (ab_ r_ r_ (fun c => cb_ r_ r_ p_) (ab_ r_ r_ (fun c => bm_ r_ (hH) p_) (aa_ (fun c => bv_ r_ r_ r_ p_) (ae_ (al_ (aq_ r_ r_ (R_ (E_ r_ (T_ (ar_ (az_ (aw_ (aw_ ?_)))))))))))))))
                exact az_ (az_ (aw_ (aw_ (az_ (aw_ (jq_ret1S rfl rfl (fun K h => by rw [hres] at h; exact h) sub_end))))))
              · rw [decide_eq_false hm] at hH
                refine am_ (R_ (M_ r_ (F_ r_ (L_ 0 r_ (M_ r_ (o_ r_ (cc_ r_ r_ g_ r_ r_ b_ (o_ r_ (cb_ r_ r_ (o_ r_ (br_ r_ (fun hlen => o_ r_ (bw_ r_ r_ (T_ (aq_ r_ u_ (as_ (al_ (B_ (am_ ?_)))))))))))))))))))
                refine ao_ r_ r_ k_ k_ (yF_ r_ (yL_ 0 r_ (yM_ r_ (aa_ (fun c => cc_ r_ r_ g_ r_ r_ b_ p_) (aa_ (fun c => cb_ r_ r_ p_) (yM_ r_ (aa_ (fun c => cc_ r_ r_ g_ r_ r_ b_ p_) (aa_ (fun c => cb_ r_ r_ p_) (yF_ r_ (yL_ 0 r_ (aa_ (fun c => br_ r_ (fun hlen => p_)) (aa_ (fun c => bm_ r_ (hB) p_) (aa_ (fun c => cd_ r_ p_) (yM_ r_ (ab_ r_ r_ (fun c => bf_ r_ r_ r_ b_ p_) ?_)))))))))))))))
                refine ab_ r_ r_ (fun c => bg_ 0 r_ r_ r_ r_ p_) (ab_ r_ r_ (fun c => bd_ r_ p_) (ab_ r_ r_ (fun c => cc_ r_ r_ g_ r_ r_ b_ p_) (ab_ r_ r_ (fun c => cb_ r_ r_ p_) (ab_ r_ r_ (fun c => bd_ r_ p_) (ab_ r_ r_ (fun c => ow_prefixMap r_ r_ g_ p_) (ab_ r_ r_ (fun c => bf_ r_ r_ r_ b_ p_) (ab_ r_ r_ (fun c => bg_ 0 r_ r_ r_ r_ p_) (ab_ r_ r_ (fun c => bd_ r_ p_) (ab_ r_ r_ (fun c => cc_ r_ r_ g_ r_ r_ b_ p_) ?_)))))))))
                refine ab_ r_ r_ (fun c => cb_ r_ r_ p_) (ab_ r_ r_ (fun c => bd_ r_ p_) (ab_ r_ r_ (fun c => cc_ r_ r_ g_ r_ r_ b_ p_) (ab_ r_ r_ (fun c => cb_ r_ r_ p_) (ab_ r_ r_ (fun c => bm_ r_ (hH) p_) (aa_ (fun c => bv_ r_ r_ r_ p_) (ae_ (al_ (ap_ r_ r_ (as_ (ay_ (al_ (an_ (M_ r_ (o_ r_ (bj_ r_ r_ g_ (E_ r_ ?_))))))))))))))))
                refine ak_ (jq_againS (i := j) (j + 1) ⟨hltj, all_snoc hltj hJ2 h3, hns.2 ⟨hN, hm⟩⟩ g_ ?_ ?_)
                · exact bc_ 0 r_ sub_end
                · (repeat (first | exact True.intro | refine ⟨rfl, ?_⟩))
          · have hltj2 : ¬ (j : Int) < (((g.points[k]).map Irow).length : Int) := by omega
            rw [List.take_of_length_le (by omega)] at hJ2 hN
            have hok : ptB g.blocks.length g.points[k] = true := by unfold ptB; rw [hJ2, decide_eq_true hN]; rfl
            refine am_ (R_ (M_ r_ (F_ r_ (L_ 0 r_ (M_ r_ (o_ r_ (cc_ r_ r_ g_ r_ r_ b_ (o_ r_ (cb_ r_ r_ (o_ r_ (br_ r_ (fun hlen => o_ r_ (bw_ r_ r_ (T_ (ap_ r_ w_ (av_ (ax_ (ax_ (ba_ ?_)))))))))))))))))))
            refine ay_ (al_ (an_ (M_ r_ (o_ r_ (bj_ r_ r_ g_ (E_ r_ (ak_ (jq_againS (i := k) (k + 1) ⟨hltk, hyes hok⟩ g_ ?_ ?_))))))))
            · exact bc_ 0 r_ sub_end
            · (repeat (first | exact True.intro | refine ⟨rfl, ?_⟩))
        · have hltk2 : ¬ (k : Int) < (((g.points).map NRow).length : Int) := by omega
          rw [List.take_of_length_le (by omega)] at hR
          rw [hR, Bool.true_and] at en
          refine am_ (R_ (M_ r_ (F_ r_ (L_ 0 r_ (o_ r_ (br_ r_ (fun hlen => o_ r_ (bw_ r_ r_ (T_ (ap_ r_ w_ (av_ (ax_ (ax_ (ba_ (al_ (am_ (R_ ?_)))))))))))))))))
          refine E_ r_ (T_ (au_ (jc_loopS (ι := Nat) [] (fun j => j ≤ (g.heads).length ∧ (g.heads.take j).all (hdB2 g.blocks.length) = true ∧ ascB (g.heads.take j) = true) (fun j => (10, In .i64 (j : Int)) :: [(1, Ptr bx)]) (fun j => [.blk bx 28 g.row]) (fun j => (g.heads).length - j) 0 ⟨Nat.zero_le _, ⟨rfl, rfl⟩⟩ ?_ ?_ ?_)))
          · exact bc_ 0 r_ sub_end
          · (repeat (first | exact True.intro | refine ⟨rfl, ?_⟩))
          rintro j ⟨hj, ⟨hJ2, hA⟩⟩
          have eLj : ((g.heads).map HdRow).length = (g.heads).length := List.length_map _
          by_cases hltj : j < (g.heads).length
          · have hltj2 : (j : Int) < (((g.heads).map HdRow).length : Int) := by omega
            have hB := rIn_c (g.heads[j]).1 ((g.blocks.map Bk.row).length : Int)
            have e3 : inN (g.heads[j]).1 ((g.blocks.map Bk.row).length : Int) = inN (g.heads[j]).1 g.blocks.length := by rw [eB]
            rw [e3] at hB
            have hst := ascB_step hltj
            have hno : hdB2 g.blocks.length g.heads[j] = false → chG g = 10 := fun h => hfn (by rw [en, all_no hltj h]; rfl)
            cases h3 : inN (g.heads[j]).1 g.blocks.length with
            | false =>
              rw [h3] at hB
              have hres := hno (by unfold hdB2; rw [h3]; rfl)
              refine am_ (R_ (M_ r_ (F_ r_ (L_ 0 r_ (o_ r_ (br_ r_ (fun hlen => o_ r_ (bw_ r_ r_ (T_ (aq_ r_ u_ (as_ (al_ (B_ (R_ (F_ r_ (L_ 0 r_ (M_ r_ ?_)))))))))))))))))
              refine o_ r_ (cc_ r_ r_ g_ r_ r_ b_ (o_ r_ (cr_ r_ r_ r_ (o_ r_ (bl_ r_ r_ (fun bl => S_ 0 r_ (T_ (am_ (ao_ r_ r_ k_ k_ (yF_ r_ (yL_ 0 r_ (yF_ r_ (yL_ 1 r_ (aa_ (fun c => br_ r_ (fun hlen => p_)) (aa_ (fun c => bm_ r_ (hB) p_) (aa_ (fun c => cd_ r_ p_) (yM_ r_ (ac_ r_ r_ ?_))))))))))))))))))
              refine ac_ r_ r_ (ac_ r_ r_ (aa_ (fun c => bp_ r_ r_ r_ p_) (yM_ r_ (ac_ r_ r_ (ac_ r_ r_ (ac_ r_ r_ (aa_ (fun c => bp_ r_ r_ r_ p_) (yM_ r_ (ac_ r_ r_ (ac_ r_ r_ (ac_ r_ r_ (ad_ r_ (ad_ r_ (ad_ r_ (ad_ r_ ?_)))))))))))))))
              refine ad_ r_ (ad_ r_ (ad_ r_ (ad_ r_ (ad_ r_ (ad_ r_ (ac_ r_ r_ (aa_ (fun c => bp_ r_ r_ r_ p_) (ae_ (al_ (aq_ r_ r_ (R_ (E_ r_ (T_ (ar_ (az_ ?_)))))))))))))))
              exact aw_ (aw_ (az_ (aw_ (jq_ret1S rfl rfl (fun K h => by rw [hres] at h; exact h) sub_end))))
            | true =>
              rw [h3] at hB
              by_cases w1 : (g.heads[j]).2 < 0
              · have hres := hno (by unfold hdB2; rw [decide_eq_false (show ¬ 0 ≤ (g.heads[j]).2 by omega), Bool.and_false, Bool.false_and])
                refine am_ (R_ (M_ r_ (F_ r_ (L_ 0 r_ (o_ r_ (br_ r_ (fun hlen => o_ r_ (bw_ r_ r_ (T_ (aq_ r_ u_ (as_ (al_ (B_ (R_ (F_ r_ (L_ 0 r_ (M_ r_ ?_)))))))))))))))))
                refine o_ r_ (cc_ r_ r_ g_ r_ r_ b_ (o_ r_ (cr_ r_ r_ r_ (o_ r_ (bl_ r_ r_ (fun bl => S_ 0 r_ (T_ (am_ (ao_ r_ r_ k_ k_ (yF_ r_ (yL_ 0 r_ (yF_ r_ (yL_ 1 r_ (aa_ (fun c => br_ r_ (fun hlen => p_)) (aa_ (fun c => bm_ r_ (hB) p_) (aa_ (fun c => cd_ r_ p_) (yM_ r_ (ab_ r_ r_ (fun c => bf_ r_ r_ r_ b_ p_) ?_))))))))))))))))))
                refine ab_ r_ r_ (fun c => bg_ 0 r_ r_ r_ r_ p_) (ab_ r_ r_ (fun c => bw_ r_ r_ p_) (aa_ (fun c => bv_ r_ r_ r_ p_) (yM_ r_ (ac_ r_ u_ (ac_ r_ u_ (ac_ r_ u_ (aa_ (fun c => bp_ r_ u_ r_ p_) (yM_ r_ (ac_ r_ r_ (ac_ r_ r_ (ac_ r_ r_ (ad_ r_ (ad_ r_ (ad_ r_ (ad_ r_ ?_)))))))))))))))
                refine ad_ r_ (ad_ r_ (ad_ r_ (ad_ r_ (ad_ r_ (ad_ r_ (ac_ r_ r_ (aa_ (fun c => bp_ r_ r_ r_ p_) (ae_ (al_ (aq_ r_ r_ (R_ (E_ r_ (T_ (ar_ (az_ ?_)))))))))))))))
                exact aw_ (aw_ (az_ (aw_ (jq_ret1S rfl rfl (fun K h => by rw [hres] at h; exact h) sub_end))))
              by_cases w2 : (g.heads[j]).2 > 4000
              · have hres := hno (by unfold hdB2; rw [decide_eq_false (show ¬ (g.heads[j]).2 ≤ 4000 by omega), Bool.and_false])
                refine am_ (R_ (M_ r_ (F_ r_ (L_ 0 r_ (o_ r_ (br_ r_ (fun hlen => o_ r_ (bw_ r_ r_ (T_ (aq_ r_ u_ (as_ (al_ (B_ (R_ (F_ r_ (L_ 0 r_ (M_ r_ ?_)))))))))))))))))
                refine o_ r_ (cc_ r_ r_ g_ r_ r_ b_ (o_ r_ (cr_ r_ r_ r_ (o_ r_ (bl_ r_ r_ (fun bl => S_ 0 r_ (T_ (am_ (ao_ r_ r_ k_ k_ (yF_ r_ (yL_ 0 r_ (yF_ r_ (yL_ 1 r_ (aa_ (fun c => br_ r_ (fun hlen => p_)) (aa_ (fun c => bm_ r_ (hB) p_) (aa_ (fun c => cd_ r_ p_) (yM_ r_ (ab_ r_ r_ (fun c => bf_ r_ r_ r_ b_ p_) ?_))))))))))))))))))
                refine ab_ r_ r_ (fun c => bg_ 0 r_ r_ r_ r_ p_) (ab_ r_ r_ (fun c => bw_ r_ r_ p_) (aa_ (fun c => bv_ r_ r_ r_ p_) (yM_ r_ (ab_ r_ w_ (fun c => bf_ r_ r_ r_ b_ p_) (ab_ r_ w_ (fun c => bg_ 0 r_ r_ r_ r_ p_) (ab_ r_ w_ (fun c => bz_ r_ r_ p_) (aa_ (fun c => bv_ r_ w_ r_ p_) (yM_ r_ (ac_ r_ u_ (ac_ r_ u_ (ac_ r_ u_ (ad_ r_ (ad_ r_ (ad_ r_ (ad_ r_ ?_)))))))))))))))
                refine ad_ r_ (ad_ r_ (ad_ r_ (ad_ r_ (ad_ r_ (ad_ r_ (ac_ r_ u_ (aa_ (fun c => bp_ r_ u_ r_ p_) (ae_ (al_ (aq_ r_ r_ (R_ (E_ r_ (T_ (ar_ (az_ ?_)))))))))))))))
                exact aw_ (aw_ (az_ (aw_ (jq_ret1S rfl rfl (fun K h => by rw [hres] at h; exact h) sub_end))))
              have hok : hdB2 g.blocks.length g.heads[j] = true := by unfold hdB2; rw [h3, decide_eq_true (show 0 ≤ (g.heads[j]).2 by omega), decide_eq_true (show (g.heads[j]).2 ≤ 4000 by omega)]; rfl
              by_cases w4 : (j : Int) > 0
              · have hj1 : ((j : Int) - 1).toNat < g.heads.length := by omega
                have ed : g.heads.getD (j - 1) (0, 0) = g.heads[((j : Int) - 1).toNat] := by
                  rw [List.getD_eq_getElem?_getD, show j - 1 = ((j : Int) - 1).toNat by omega, List.getElem?_eq_getElem hj1]
                  rfl
                rw [ed, decide_eq_false (show ¬ j = 0 by omega), Bool.false_or] at hst
                by_cases w5 : (g.heads[j]).1 ≤ (g.heads[((j : Int) - 1).toNat]).1
                · have hres := hfn (by rw [en, ascB_no (k := j + 1) (by rw [hst, decide_eq_false (by omega), Bool.and_false]), Bool.and_false])
                  refine am_ (R_ (M_ r_ (F_ r_ (L_ 0 r_ (o_ r_ (br_ r_ (fun hlen => o_ r_ (bw_ r_ r_ (T_ (aq_ r_ u_ (as_ (al_ (B_ (R_ (F_ r_ (L_ 0 r_ (M_ r_ ?_)))))))))))))))))
                  refine o_ r_ (cc_ r_ r_ g_ r_ r_ b_ (o_ r_ (cr_ r_ r_ r_ (o_ r_ (bl_ r_ r_ (fun bl => S_ 0 r_ (T_ (am_ (ao_ r_ r_ k_ k_ (yF_ r_ (yL_ 0 r_ (yF_ r_ (yL_ 1 r_ (aa_ (fun c => br_ r_ (fun hlen => p_)) (aa_ (fun c => bm_ r_ (hB) p_) (aa_ (fun c => cd_ r_ p_) (yM_ r_ (ab_ r_ r_ (fun c => bf_ r_ r_ r_ b_ p_) ?_))))))))))))))))))
                  refine ab_ r_ r_ (fun c => bg_ 0 r_ r_ r_ r_ p_) (ab_ r_ r_ (fun c => bw_ r_ r_ p_) (aa_ (fun c => bv_ r_ r_ r_ p_) (yM_ r_ (ab_ r_ w_ (fun c => bf_ r_ r_ r_ b_ p_) (ab_ r_ w_ (fun c => bg_ 0 r_ r_ r_ r_ p_) (ab_ r_ w_ (fun c => bz_ r_ r_ p_) (aa_ (fun c => bv_ r_ w_ r_ p_) (yM_ r_ (ab_ r_ w_ (fun c => bd_ r_ p_) (ab_ r_ w_ (fun c => bz_ r_ r_ p_) (ab_ r_ w_ (fun c => bd_ r_ p_) ?_)))))))))))
                  refine ab_ r_ u_ (fun c => bf_ r_ r_ r_ b_ p_) (ab_ r_ u_ (fun c => bg_ 0 r_ r_ r_ r_ p_) (ab_ r_ u_ (fun c => bf_ r_ r_ r_ b_ p_) (ab_ r_ u_ (fun c => bg_ 1 r_ r_ r_ r_ p_) (ab_ r_ u_ (fun c => bd_ r_ p_) (ab_ r_ u_ (fun c => cg_ r_ r_ g_ p_) (ab_ r_ u_ (fun c => cv_ r_ r_ g_ g_ r_ r_ b_ p_) (ab_ r_ u_ (fun c => cf_ r_ r_ r_ b_ r_ b_ p_) (ab_ r_ u_ (fun c => cb_ r_ r_ p_) (ab_ r_ u_ (fun c => cu_ r_ r_ p_) ?_)))))))))
                  exact ab_ r_ w_ (fun c => bp_ r_ u_ r_ p_) (aa_ (fun c => bv_ r_ w_ r_ p_) (ae_ (al_ (aq_ r_ u_ (R_ (E_ r_ (T_ (ar_ (az_ (aw_ (aw_ (az_ (aw_ (jq_ret1S rfl rfl (fun K h => by rw [hres] at h; exact h) sub_end))))))))))))))
                · have hA2 : ascB (g.heads.take (j + 1)) = true := by rw [hst, hA, decide_eq_true (by omega)]; rfl
                  refine am_ (R_ (M_ r_ (F_ r_ (L_ 0 r_ (o_ r_ (br_ r_ (fun hlen => o_ r_ (bw_ r_ r_ (T_ (aq_ r_ u_ (as_ (al_ (B_ (R_ (F_ r_ (L_ 0 r_ (M_ r_ ?_)))))))))))))))))
                  refine o_ r_ (cc_ r_ r_ g_ r_ r_ b_ (o_ r_ (cr_ r_ r_ r_ (o_ r_ (bl_ r_ r_ (fun bl => S_ 0 r_ (T_ (am_ (ao_ r_ r_ k_ k_ (yF_ r_ (yL_ 0 r_ (yF_ r_ (yL_ 1 r_ (aa_ (fun c => br_ r_ (fun hlen => p_)) (aa_ (fun c => bm_ r_ (hB) p_) (aa_ (fun c => cd_ r_ p_) (yM_ r_ (ab_ r_ r_ (fun c => bf_ r_ r_ r_ b_ p_) ?_))))))))))))))))))
                  refine ab_ r_ r_ (fun c => bg_ 0 r_ r_ r_ r_ p_) (ab_ r_ r_ (fun c => bw_ r_ r_ p_) (aa_ (fun c => bv_ r_ r_ r_ p_) (yM_ r_ (ab_ r_ w_ (fun c => bf_ r_ r_ r_ b_ p_) (ab_ r_ w_ (fun c => bg_ 0 r_ r_ r_ r_ p_) (ab_ r_ w_ (fun c => bz_ r_ r_ p_) (aa_ (fun c => bv_ r_ w_ r_ p_) (yM_ r_ (ab_ r_ w_ (fun c => bd_ r_ p_) (ab_ r_ w_ (fun c => bz_ r_ r_ p_) (ab_ r_ w_ (fun c => bd_ r_ p_) ?_)))))))))))
                  refine ab_ r_ u_ (fun c => bf_ r_ r_ r_ b_ p_) (ab_ r_ u_ (fun c => bg_ 0 r_ r_ r_ r_ p_) (ab_ r_ u_ (fun c => bf_ r_ r_ r_ b_ p_) (ab_ r_ u_ (fun c => bg_ 1 r_ r_ r_ r_ p_) (ab_ r_ u_ (fun c => bd_ r_ p_) (ab_ r_ u_ (fun c => cg_ r_ r_ g_ p_) (ab_ r_ u_ (fun c => cv_ r_ r_ g_ g_ r_ r_ b_ p_) (ab_ r_ u_ (fun c => cf_ r_ r_ r_ b_ r_ b_ p_) (ab_ r_ u_ (fun c => cb_ r_ r_ p_) (ab_ r_ u_ (fun c => cu_ r_ r_ p_) ?_)))))))))
                  refine ab_ r_ w_ (fun c => bp_ r_ u_ r_ p_) (aa_ (fun c => bv_ r_ w_ r_ p_) (ae_ (al_ (ap_ r_ w_ (as_ (ay_ (al_ (an_ (M_ r_ (o_ r_ (bj_ r_ r_ g_ (E_ r_ (ak_ (jq_againS (i := j) (j + 1) ⟨hltj, all_snoc hltj hJ2 hok, hA2⟩ g_ ?_ ?_))))))))))))))
                  · exact bc_ 1 r_ sub_end
                  · (repeat (first | exact True.intro | refine ⟨rfl, ?_⟩))
              · have hA2 : ascB (g.heads.take (j + 1)) = true := by rw [hst, hA, decide_eq_true (show j = 0 by omega)]; rfl
                refine am_ (R_ (M_ r_ (F_ r_ (L_ 0 r_ (o_ r_ (br_ r_ (fun hlen => o_ r_ (bw_ r_ r_ (T_ (aq_ r_ u_ (as_ (al_ (B_ (R_ (F_ r_ (L_ 0 r_ (M_ r_ ?_)))))))))))))))))
                refine o_ r_ (cc_ r_ r_ g_ r_ r_ b_ (o_ r_ (cr_ r_ r_ r_ (o_ r_ (bl_ r_ r_ (fun bl => S_ 0 r_ (T_ (am_ (ao_ r_ r_ k_ k_ (yF_ r_ (yL_ 0 r_ (yF_ r_ (yL_ 1 r_ (aa_ (fun c => br_ r_ (fun hlen => p_)) (aa_ (fun c => bm_ r_ (hB) p_) (aa_ (fun c => cd_ r_ p_) (yM_ r_ (ab_ r_ r_ (fun c => bf_ r_ r_ r_ b_ p_) ?_))))))))))))))))))
                refine ab_ r_ r_ (fun c => bg_ 0 r_ r_ r_ r_ p_) (ab_ r_ r_ (fun c => bw_ r_ r_ p_) (aa_ (fun c => bv_ r_ r_ r_ p_) (yM_ r_ (ab_ r_ w_ (fun c => bf_ r_ r_ r_ b_ p_) (ab_ r_ w_ (fun c => bg_ 0 r_ r_ r_ r_ p_) (ab_ r_ w_ (fun c => bz_ r_ r_ p_) (aa_ (fun c => bv_ r_ w_ r_ p_) (yM_ r_ (ab_ r_ w_ (fun c => bd_ r_ p_) (ab_ r_ w_ (fun c => bz_ r_ r_ p_) (ab_ r_ w_ (fun c => bd_ r_ p_) (ac_ r_ w_ (ac_ r_ w_ ?_)))))))))))))
                refine ac_ r_ w_ (ac_ r_ w_ (ac_ r_ w_ (ac_ r_ w_ (ac_ r_ w_ (ac_ r_ w_ (ac_ r_ w_ (ac_ r_ w_ (ab_ r_ w_ (fun c => bv_ r_ w_ r_ p_) (aa_ (fun c => bv_ r_ w_ r_ p_) (ae_ (al_ (ap_ r_ r_ (as_ (ay_ (al_ ?_)))))))))))))))
                refine an_ (M_ r_ (o_ r_ (bj_ r_ r_ g_ (E_ r_ (ak_ (jq_againS (i := j) (j + 1) ⟨hltj, all_snoc hltj hJ2 hok, hA2⟩ g_ ?_ ?_))))))
                · exact bc_ 1 r_ sub_end
                · (repeat (first | exact True.intro | refine ⟨rfl, ?_⟩))
          · have hltj2 : ¬ (j : Int) < (((g.heads).map HdRow).length : Int) := by omega
            rw [List.take_of_length_le (by omega)] at hJ2 hA
            rw [hJ2, hA] at en
            have hres := form_yes hl (by rw [hQ, e1, en, decide_eq_true h1']; rfl)
            refine am_ (R_ (M_ r_ (F_ r_ (L_ 0 r_ (o_ r_ (br_ r_ (fun hlen => o_ r_ (bw_ r_ r_ (T_ (ap_ r_ w_ (av_ (ax_ (ax_ (ba_ (al_ (R_ (E_ r_ ?_)))))))))))))))))
            exact T_ (ar_ (jq_ret1S rfl rfl (fun K h => by rw [hres] at h; exact h) sub_end))
end Go.Proofs.Ytpolnonbgaolkaa
end

section
namespace Go.Proofs.Ytpolnonbgaolkaa
open Go.Vc
attribute [local irreducible] JL JC JQ OpWp Con ConN HOk
set_option maxHeartbeats 4000000

abbrev Brow (b : Bool) : List C := [.val (.bool b)]
theorem getD_tr {l : List Bool} {b : Nat} : l.getD b false = true ↔ tr l b := by
  unfold tr
  rw [List.getD_eq_getElem?_getD]
  cases h : l[b]? with
  | none => simp
  | some x => cases x <;> simp
theorem nx_at {B : List Bk} {b : Nat} (h : b < B.length) : nxOf B b = (B[b]).next := by
  unfold nxOf
  rw [List.getElem?_eq_getElem h]
  rfl
theorem reached_c (g : Gh) (hw : GhW g) (but : Int) : Con Try.prog 58 [.row g.row, In .i64 but] [] (fun K => K (.cell (.list ((rchL g.blocks but).map Brow))) []) := by
  have eB : (g.blocks.map Bk.row).length = g.blocks.length := List.length_map _
  have hsz := hw.ops
  have hszB : szB g.blocks ≤ 1500 := by have := hw.size; unfold szG at this; omega
  refine con_intro Try.func58 rfl rfl (Nat.le_of_ble_eq_true rfl) (fun c hc => R_ (o_ r_ (ci_ r_ (fun bx => E_ r_ (T_ (R_ (F_ r_ (L_ 0 r_ (o_ r_ (br_ r_ (fun hlen => o_ r_ (ow_makeSliceBo g.blocks.length rfl rfl rfl rfl rfl g_ g_ (fun V hV fV => E_ r_ (T_ (am_ (am_ ?_))))))))))))))))
  have eR : ((List.replicate g.blocks.length false).map brow).length = g.blocks.length := by simp
  by_cases h0 : (((List.replicate g.blocks.length false).map brow).length : Int) = 0
  · have hr : List.replicate g.blocks.length false = rchL g.blocks but := by
      have hl : g.blocks.length = 0 := by omega
      refine eq_rchL (by simp) (fun b => ⟨fun h => ?_, fun h => ?_⟩)
      · have := tr_lt h; simp at this; omega
      · have := h.lt; omega
    refine an_ (M_ r_ (o_ r_ (cw_ 0 r_ r_ (fun hlen => o_ r_ (bn_ r_ r_ (M_ r_ (ai_ r_ u_ b_ (ai_ r_ u_ b_ (o_ r_ (bp_ r_ u_ r_ (T_ (aq_ r_ r_ (R_ (M_ r_ (E_ r_ (T_ (ar_ (aw_ ?_))))))))))))))))))
    refine jq_freeze 4 0 rfl rfl (by rw [hc]; simp [hb]) (jq_ret1 rfl rfl [] rfl (fun K h => by rw [← hr] at h; exact h))
  by_cases h1 : but = 0
  · have hr : List.replicate g.blocks.length false = rchL g.blocks but := by rw [h1]; exact rch_none
    refine an_ (M_ r_ (o_ r_ (cw_ 0 r_ r_ (fun hlen => o_ r_ (bn_ r_ r_ (M_ r_ (ah_ r_ w_ b_ (bd_ r_ (ah_ r_ w_ b_ (bn_ r_ r_ (o_ r_ (bv_ r_ w_ r_ (T_ (aq_ r_ u_ (R_ (M_ r_ (E_ r_ (T_ (ar_ (aw_ ?_))))))))))))))))))))
    refine jq_freeze 4 0 rfl rfl (by rw [hc]; simp [hb]) (jq_ret1 rfl rfl [] rfl (fun K h => by rw [← hr] at h; exact h))
  have hpos : 0 < g.blocks.length := by omega
  have hrl : (List.replicate g.blocks.length false).length = g.blocks.length := List.length_replicate
  have hn0 : nF ((List.replicate g.blocks.length false).set 0 true) + 1 = g.blocks.length := by
    rw [nF_set (by omega) (by simp), nF_rep]
  have hini := PRo.init hpos h1
  have ez : (0 : Int).toNat = 0 := rfl
  refine an_ (M_ r_ (o_ r_ (cw_ 0 r_ r_ (fun hlen => o_ r_ (bn_ r_ r_ (M_ r_ (ah_ r_ w_ b_ (bd_ r_ (ah_ r_ w_ b_ (bn_ r_ r_ (o_ r_ (bv_ r_ w_ r_ (T_ (ap_ r_ w_ (as_ (al_ (R_ (M_ r_ (o_ r_ (ow_indexBo 0 r_ r_ r_ g_ r_ (ag_ (ow_storeBo 0 r_ r_ r_ g_ r_ ?_))))))))))))))))))))))
  refine T_ (am_ (am_ ?_))
  rw [ez]
  generalize (List.replicate g.blocks.length false).set 0 true = l0 at hn0 hini ⊢
  refine an_ (o_ r_ (ow_buildSliceOwn (rows := ([0] : List Int).map irow) rfl rfl b_ rfl rfl b_ (fun q0 hq0 fq0 => E_ r_ (T_ (jc_toQ 6 0 rfl rfl (au_ ?_))))))
  refine jc_loopS (ι := List Bool × Value × Nat × List Int) [] (fun i => PRo g.blocks but i.1 (i.2.2.2.drop i.2.2.1) ∧ i.2.2.1 ≤ i.2.2.2.length ∧ i.2.2.2.length + nF i.1 ≤ g.blocks.length) (fun i => [(6, .cell (QC i.2.1 i.2.2.1 1)), (5, .cell (.val V)), (1, In .i64 but), (2, Ptr bx)]) (fun i => [.own V 4 1 (i.1.map brow), .own i.2.1 3 1 (i.2.2.2.map irow), .blk bx 28 g.row]) (fun i => 2 * nF i.1 + (i.2.2.2.length - i.2.2.1)) (l0, q0, 0, [0]) ⟨hini, Nat.zero_le _, by show 1 + nF l0 ≤ _; omega⟩ ?_ ?_ ?_
  · exact bc_ 1 r_ (bc_ 0 r_ (bc_ 0 r_ sub_end))
  · (repeat (first | exact True.intro | refine ⟨rfl, ?_⟩))
  rintro ⟨l, q, m, L⟩ ⟨hP, hm, hLn⟩
  dsimp only at hP hm hLn ⊢
  have eL : (L.map irow).length = L.length := List.length_map _
  by_cases hlt : m < L.length
  · have hlt2 : ((L.map irow).length : Int) - (m : Int) > 0 := by omega
    obtain ⟨x, T, hT⟩ : ∃ x T, L.drop m = x :: T := by
      cases hd : L.drop m with
      | nil => have := congrArg List.length hd; rw [List.length_drop, List.length_nil] at this; omega
      | cons x T => exact ⟨x, T, rfl⟩
    obtain ⟨_, hT2⟩ := drop_lt hT
    rw [hT] at hP
    obtain ⟨hP, hx0, hxl⟩ := hP.pop
    rw [← hT2] at hP
    have hll := hP.len
    refine am_ (R_ (M_ r_ (o_ r_ (ow_lenQ 1 rfl rfl (fun _ => o_ r_ (bz_ r_ r_ (T_ (aq_ r_ u_ (as_ (al_ (au_ (am_ (jc_anyB 8 (some 7) rfl k_ k_ (yF_ r_ (yL_ 2 r_ (yM_ r_ (aa_ (fun c => ow_indexQ 1 rfl rfl rfl g_ (by rw [List.length_map] ; show m + 0 < _ ; omega) rfl p_) ?_)))))))))))))))))
    refine aa_ (fun c => ow_loadQI 1 r_ r_ r_ hT p_) (aa_ (fun c => cv_ r_ r_ g_ g_ r_ r_ b_ p_) (aa_ (fun c => cr_ r_ r_ r_ p_) (af_ (ae_ (afin_some rfl rfl rfl (fun bl => S_ 0 r_ (T_ (R_ (M_ r_ (o_ r_ (ow_sufQ 2 rfl rfl rfl rfl (by rw [List.length_map] ; omega) rfl (E_ r_ (T_ (R_ (F_ r_ (L_ 0 r_ ?_))))))))))))))))
    refine o_ r_ (br_ r_ (fun hlen => M_ r_ (T_ (au_ ?_))))
    refine jc_loopS (ι := Nat × List Bool × Value × Nat × List Int) [] (fun i => i.1 ≤ (g.blocks[x.toNat]).next.length ∧ PR g.blocks but i.2.1 (i.2.2.2.2.drop i.2.2.2.1) x.toNat i.1 ∧ i.2.2.2.1 ≤ i.2.2.2.2.length ∧ i.2.2.2.2.length + nF i.2.1 ≤ g.blocks.length ∧ 2 * nF i.2.1 + (i.2.2.2.2.length - i.2.2.2.1) < 2 * nF l + (L.length - m)) (fun i => [(40, In .i64 (i.1 : Int)), (38, .cell (.list ((g.blocks[x.toNat]).next.map Irow))), (39, In .i64 (((g.blocks[x.toNat]).next.map Irow).length : Int)), (6, .cell (QC i.2.2.1 i.2.2.2.1 1)), (5, .cell (.val V)), (1, In .i64 but), (2, Ptr bx)]) (fun i => [.own V 4 1 (i.2.1.map brow), .own i.2.2.1 3 1 (i.2.2.2.2.map irow), .blk bx 28 g.row]) (fun i => (g.blocks[x.toNat]).next.length - i.1) (0, l, q, m + 1, L) ⟨Nat.zero_le _, hP, by dsimp only; omega, hLn, by dsimp only; omega⟩ ?_ ?_ ?_
    · exact bc_ 1 r_ (bc_ 1 r_ (bc_ 1 r_ sub_end))
    · (repeat (first | exact True.intro | refine ⟨rfl, ?_⟩))
    rintro ⟨k, l1, q1, m1, L1⟩ ⟨hk, hP1, hm1, hLn1, hM⟩
    dsimp only at hk hP1 hm1 hLn1 hM ⊢
    have eN : ((g.blocks[x.toNat]).next.map Irow).length = (g.blocks[x.toNat]).next.length := List.length_map _
    have hnx := nx_at hxl
    have hl1 := hP1.len
    have eO : (l1.map brow).length = l1.length := List.length_map _
    clear hP hT hT2 hll
    by_cases hltk : k < (g.blocks[x.toNat]).next.length
    · have hltk2 : (k : Int) < (((g.blocks[x.toNat]).next.map Irow).length : Int) := by omega
      have hkn : k < (nxOf g.blocks x.toNat).length := by rw [hnx]; exact hltk
      obtain ⟨y, hy⟩ : ∃ y, y = (g.blocks[x.toNat]).next[k] := ⟨_, rfl⟩
      have hy2 : (nxOf g.blocks x.toNat)[k] = y := by rw [hy]; simp only [hnx]
      have hskip := fun h => hP1.skip hkn h
      have hput := fun h0 h1 h2 => hP1.put hkn h0 h1 h2
      rw [hy2] at hskip hput
      have hB := between_c y 0 (((l1.map brow).length : Int) - 1)
      by_cases c1 : 0 ≤ y ∧ y ≤ ((l1.map brow).length : Int) - 1
      · rw [decide_eq_true c1.1, decide_eq_true c1.2, Bool.true_and, hy] at hB
        by_cases c2 : y = but
        · have c2' : ¬ (g.blocks[x.toNat]).next[k] ≠ but := by rw [← hy]; exact fun h => h c2
          refine R_ (o_ r_ (bw_ r_ r_ (T_ (am_ (aq_ r_ u_ (as_ (al_ (B_ (R_ (o_ r_ (cc_ r_ r_ g_ r_ r_ b_ (o_ r_ (cb_ r_ r_ (E_ r_ (T_ (R_ (M_ r_ (M_ r_ ?_))))))))))))))))))
          refine o_ r_ (cw_ 0 r_ r_ (fun hlen => o_ r_ (cg_ r_ r_ g_ (o_ r_ (bm_ r_ (hB) (M_ r_ (ah_ r_ r_ b_ (bd_ r_ (ah_ r_ r_ b_ (bd_ r_ (ah_ r_ r_ b_ (bx_ r_ r_ (o_ r_ (bp_ r_ r_ r_ (M_ r_ (ai_ r_ w_ b_ (ai_ r_ w_ b_ (ai_ r_ w_ b_ (ai_ r_ w_ b_ (ai_ r_ w_ b_ (o_ r_ (bv_ r_ w_ r_ (T_ ?_)))))))))))))))))))))))
          refine ap_ r_ r_ (as_ (ay_ (al_ (an_ (o_ r_ (bj_ r_ r_ g_ (M_ r_ (ak_ (jq_againS (i := (k, l1, q1, m1, L1)) (k + 1, l1, q1, m1, L1) ⟨hltk, hskip (fun _ _ h => absurd c2 h), hm1, hLn1, hM⟩ (by dsimp only; omega) ?_ ?_)))))))))
          · exact bc_ 0 r_ (bc_ 0 r_ (bc_ 0 r_ sub_end))
          · (repeat (first | exact True.intro | refine ⟨rfl, ?_⟩))
        · have c2' : (g.blocks[x.toNat]).next[k] ≠ but := by rw [← hy]; exact c2
          cases c3 : l1.getD y.toNat false with
          | true =>
            rw [hy] at c3
            refine R_ (o_ r_ (bw_ r_ r_ (T_ (am_ (aq_ r_ u_ (as_ (al_ (B_ (R_ (o_ r_ (cc_ r_ r_ g_ r_ r_ b_ (o_ r_ (cb_ r_ r_ (E_ r_ (T_ (R_ (M_ r_ (M_ r_ ?_))))))))))))))))))
            refine o_ r_ (cw_ 0 r_ r_ (fun hlen => o_ r_ (cg_ r_ r_ g_ (o_ r_ (bm_ r_ (hB) (M_ r_ (ah_ r_ r_ b_ (bd_ r_ (ah_ r_ r_ b_ (bd_ r_ (ah_ r_ r_ b_ (bx_ r_ r_ (o_ r_ (bp_ r_ r_ r_ (M_ r_ (ah_ r_ u_ b_ (bd_ r_ (ah_ r_ u_ b_ (bd_ r_ (ah_ r_ u_ b_ (ow_indexBo 0 r_ r_ r_ g_ r_ (ah_ r_ u_ b_ (ow_loadBoE 0 r_ r_ r_ g_ c3 (ah_ r_ u_ b_ (cd_ r_ (o_ r_ (bp_ r_ u_ r_ (T_ ?_))))))))))))))))))))))))))))
            refine ap_ r_ r_ (as_ (ay_ (al_ (an_ (o_ r_ (bj_ r_ r_ g_ (M_ r_ (ak_ (jq_againS (i := (k, l1, q1, m1, L1)) (k + 1, l1, q1, m1, L1) ⟨hltk, hskip (fun _ _ _ => by rw [hy]; exact getD_tr.1 c3), hm1, hLn1, hM⟩ (by dsimp only; omega) ?_ ?_)))))))))
            · exact bc_ 0 r_ (bc_ 0 r_ (bc_ 0 r_ sub_end))
            · (repeat (first | exact True.intro | refine ⟨rfl, ?_⟩))
          | false =>
            have hyl : y.toNat < l1.length := by omega
            have hnf := nF_set hyl (by rw [List.getD_eq_getElem?_getD, List.getElem?_eq_getElem hyl] at c3; exact c3)
            have hp := hput c1.1 (by omega) c2
            rw [hy] at c3 hp hnf
            refine R_ (o_ r_ (bw_ r_ r_ (T_ (am_ (aq_ r_ u_ (as_ (al_ (B_ (R_ (o_ r_ (cc_ r_ r_ g_ r_ r_ b_ (o_ r_ (cb_ r_ r_ (E_ r_ (T_ (R_ (M_ r_ (M_ r_ ?_))))))))))))))))))
            refine o_ r_ (cw_ 0 r_ r_ (fun hlen => o_ r_ (cg_ r_ r_ g_ (o_ r_ (bm_ r_ (hB) (M_ r_ (ah_ r_ r_ b_ (bd_ r_ (ah_ r_ r_ b_ (bd_ r_ (ah_ r_ r_ b_ (bx_ r_ r_ (o_ r_ (bp_ r_ r_ r_ (M_ r_ (ah_ r_ u_ b_ (bd_ r_ (ah_ r_ u_ b_ (bd_ r_ (ah_ r_ u_ b_ (ow_indexBo 0 r_ r_ r_ g_ r_ (ah_ r_ u_ b_ (ow_loadBoE 0 r_ r_ r_ g_ c3 (ah_ r_ u_ b_ (cd_ r_ (o_ r_ (bp_ r_ u_ r_ (T_ ?_))))))))))))))))))))))))))))
            refine aq_ r_ r_ (R_ (M_ r_ (M_ r_ (o_ r_ (ow_indexBo 0 r_ r_ r_ g_ r_ (ag_ (ow_storeBo 0 r_ r_ r_ g_ r_ (T_ (an_ (M_ r_ (M_ r_ (o_ r_ (bq_ r_ r_ b_ r_ r_ b_ (o_ r_ (ow_appendQM 1 (f := irow) (l1 := L1) (l2 := [(g.blocks[x.toNat]).next[k]]) rfl rfl rfl rfl rfl rfl rfl (fun _ => rfl) (by show (_ + 1) * 8 ≤ _ ; omega) (by show _ + 1 ≤ _ ; omega) (fun q2 m2 L2 hq2 hm2 hL2 hl2 => E_ r_ (ak_ (ay_ (al_ ?_)))))))))))))))))))
            refine an_ (o_ r_ (bj_ r_ r_ g_ (M_ r_ (ak_ ?_))))
            have hlen2 := congrArg List.length hL2
            rw [List.length_append, List.length_drop, List.length_drop, List.length_singleton] at hlen2
            rw [List.length_singleton] at hl2
            rw [← hL2] at hp
            refine jq_againS (i := (k, l1, q1, m1, L1)) (k + 1, l1.set ((g.blocks[x.toNat]).next[k]).toNat true, q2, m2, L2) ⟨hltk, hp, by dsimp only; omega, by dsimp only; omega, by dsimp only; omega⟩ (by dsimp only; omega) ?_ ?_
            · exact bc_ 1 r_ (bc_ 0 r_ (bc_ 0 r_ sub_end))
            · (repeat (first | exact True.intro | refine ⟨rfl, ?_⟩))
      · have hb' : (decide (0 ≤ y) && decide (y ≤ ((l1.map brow).length : Int) - 1)) = false := by rw [Bool.and_eq_false_iff, decide_eq_false_iff_not, decide_eq_false_iff_not]; omega
        rw [hb', hy] at hB
        refine R_ (o_ r_ (bw_ r_ r_ (T_ (am_ (aq_ r_ u_ (as_ (al_ (B_ (R_ (o_ r_ (cc_ r_ r_ g_ r_ r_ b_ (o_ r_ (cb_ r_ r_ (E_ r_ (T_ (R_ (M_ r_ (M_ r_ ?_))))))))))))))))))
        refine o_ r_ (cw_ 0 r_ r_ (fun hlen => o_ r_ (cg_ r_ r_ g_ (o_ r_ (bm_ r_ (hB) (M_ r_ (ai_ r_ r_ b_ (ai_ r_ r_ b_ (ai_ r_ r_ b_ (o_ r_ (bv_ r_ r_ r_ (M_ r_ (ai_ r_ r_ b_ (ai_ r_ r_ b_ (ai_ r_ r_ b_ (ai_ r_ r_ b_ (ai_ r_ r_ b_ (o_ r_ (bv_ r_ r_ r_ (T_ ?_))))))))))))))))))))
        refine ap_ r_ r_ (as_ (ay_ (al_ (an_ (o_ r_ (bj_ r_ r_ g_ (M_ r_ (ak_ (jq_againS (i := (k, l1, q1, m1, L1)) (k + 1, l1, q1, m1, L1) ⟨hltk, hskip (fun h2 h3 _ => absurd ⟨h2, by omega⟩ c1), hm1, hLn1, hM⟩ (by dsimp only; omega) ?_ ?_)))))))))
        · exact bc_ 0 r_ (bc_ 0 r_ (bc_ 0 r_ sub_end))
        · (repeat (first | exact True.intro | refine ⟨rfl, ?_⟩))
    · have hltk2 : ¬ (k : Int) < (((g.blocks[x.toNat]).next.map Irow).length : Int) := by omega
      have hdone := hP1.done (by rw [hnx]; omega)
      refine R_ (o_ r_ (bw_ r_ r_ (T_ (am_ (ap_ r_ w_ (av_ (ax_ (ax_ (ba_ (ay_ (jq_againS (i := (l, q, m, L)) (l1, q1, m1, L1) ⟨hdone, hm1, hLn1⟩ (by dsimp only; omega) ?_ ?_)))))))))))
      · exact bc_ 0 r_ (bc_ 0 r_ (bc_ 0 r_ sub_end))
      · (repeat (first | exact True.intro | refine ⟨rfl, ?_⟩))
  · have hlt2 : ¬ ((L.map irow).length : Int) - (m : Int) > 0 := by omega
    rw [List.drop_eq_nil_of_le (by omega)] at hP
    have hfin := hP.fin
    subst hfin
    refine am_ (R_ (M_ r_ (o_ r_ (ow_lenQ 1 rfl rfl (fun _ => o_ r_ (bz_ r_ r_ (T_ (ap_ r_ w_ (av_ (ax_ (ax_ (ba_ (al_ (R_ (M_ r_ (E_ r_ (T_ ?_)))))))))))))))))
    refine ar_ (jq_freeze 4 0 rfl rfl (by rw [hc]; simp [hb]) (jq_ret1 rfl rfl [] rfl (fun K h => h)))
theorem gReached_c (g : Gh) (hw : GhW g) : Con Try.prog 57 [.row g.row] [] (fun K => K (.cell (.list ((rchL g.blocks (-1)).map Brow))) []) := by
  have h := reached_c g hw (-1)
  refine con_intro Try.func57 rfl rfl (Nat.le_of_ble_eq_true rfl) (fun c hc => R_ (o_ r_ (ci_ r_ (fun bx => E_ r_ (T_ (R_ (A_ 0 r_ (o_ r_ (bm_ r_ (h) (E_ r_ (T_ (ar_ (jq_ret1 rfl rfl [] rfl (fun K h => h))))))))))))))
end Go.Proofs.Ytpolnonbgaolkaa
end

section
namespace Go.Vc
open Go.RowKit
set_option maxHeartbeats 1000000

section
variable {H : List Ch}
theorem famI_out {j : Nat} {e : TypeId} {vs : List Value} {Ls : List (List Int)} {Hr : List Ch} (i : Nat) (h1 : i < vs.length) (h2 : i < Ls.length) (hp : pick [j] H = some ([.fam (famI e vs Ls)], Hr)) :
    (flatF H).Perm (flatF (.own vs[i] e 1 ((Ls[i]).map irow) :: .fam ((famI e vs Ls).eraseIdx i) :: Hr)) := fam_out i hp (famI_get h1 h2)
theorem famI_in {j j2 : Nat} {v : Value} {e : TypeId} {L : List Int} {vs : List Value} {Ls : List (List Int)} {Hr : List Ch} (i : Nat) (h1 : i < vs.length) (h2 : i < Ls.length) (hp : pick [j, j2] H = some ([.own v e 1 (L.map irow), .fam ((famI e vs Ls).eraseIdx i)], Hr)) :
    (flatF H).Perm (flatF (.fam (famI e (vs.set i v) (Ls.set i L)) :: Hr)) := by
  rw [← famI_set]
  refine fam_in i ?_ hp
  simp only [famI, List.length_zipWith]
  omega
theorem famI_back {j j2 : Nat} {e : TypeId} {vs : List Value} {Ls : List (List Int)} {Hr : List Ch} (i : Nat) (h1 : i < vs.length) (h2 : i < Ls.length) (hp : pick [j, j2] H = some ([.own vs[i] e 1 ((Ls[i]).map irow), .fam ((famI e vs Ls).eraseIdx i)], Hr)) :
    (flatF H).Perm (flatF (.fam (famI e vs Ls) :: Hr)) := by
  have := famI_in (H := H) i h1 h2 hp
  rwa [List.set_getElem_self, List.set_getElem_self] at this
theorem famI_inE {j j2 : Nat} {v : Value} {e : TypeId} {L : List Int} {vs : List Value} {Ls Ls' : List (List Int)} {Hr : List Ch} (i : Nat) (h1 : i < vs.length) (h2 : i < Ls.length) (hp : pick [j, j2] H = some ([.own v e 1 (L.map irow), .fam ((famI e vs Ls).eraseIdx i)], Hr)) (hL : Ls' = Ls.set i L) :
    (flatF H).Perm (flatF (.fam (famI e (vs.set i v) Ls') :: Hr)) := by rw [hL]; exact famI_in i h1 h2 hp
theorem famI_backE {j j2 : Nat} {e : TypeId} {vs : List Value} {Ls Ls' : List (List Int)} {Hr : List Ch} (i : Nat) (h1 : i < vs.length) (h2 : i < Ls.length) (hp : pick [j, j2] H = some ([.own vs[i] e 1 ((Ls[i]).map irow), .fam ((famI e vs Ls).eraseIdx i)], Hr)) (hL : Ls' = Ls) :
    (flatF H).Perm (flatF (.fam (famI e vs Ls') :: Hr)) := by rw [hL]; exact famI_back i h1 h2 hp
theorem famI_eq {j : Nat} {e : TypeId} {vs : List Value} {Ls Ls' : List (List Int)} {Hr : List Ch} (hp : pick [j] H = some ([.fam (famI e vs Ls)], Hr)) (hL : Ls' = Ls) :
    (flatF H).Perm (flatF (.fam (famI e vs Ls') :: Hr)) := by rw [hL]; exact flat_perm (pick_perm hp)
end
/-- Lent, with one more argument. -/
theorem con_lend2 {P : Program} [Gl P] {f : FuncId} {v : Value} {e : TypeId} {k : Nat} {rows : List (List C)} {s2 s0 : S} (con : Con P f [.cell (.list rows), s2] [] (fun K => K s0 [])) (hp : s0.pure) :
    Con P f [.cell (.val v), s2] [.own v e k rows] (fun K => K s0 [.own v e k rows]) := by
  refine con_lendG con hp (fun w A vs hok hn hvs => ?_)
  obtain ⟨u, r, rfl, ⟨rfl, h1⟩, hr⟩ := hvs
  exact ⟨u, r, rfl, own_list (hok _ (List.mem_singleton.2 rfl)) (fun b hb => hn b (by simp [Go.Vc.hb, Ch.bs, hb])), hr⟩
end Go.Vc
end

section
namespace Go.Proofs.Ytpolnonbgaolkaa
open Go.Vc
attribute [local irreducible] JL JC JQ OpWp Con ConN HOk
set_option maxHeartbeats 4000000

theorem index_c (L : List Int) (n : Int) : Con Try.prog 60 [.cell (.list (L.map Irow)), In .i64 n] [] (fun K => K (In .i64 (idxOf (fun x => decide (n = x)) L)) []) := by
  refine con_intro Try.func60 rfl rfl (Nat.le_of_ble_eq_true rfl) (fun c hc => R_ (E_ r_ (T_ (am_ (R_ (M_ r_ (o_ r_ (br_ r_ (fun hlen => M_ r_ (T_ (au_ ?_)))))))))))
  refine jc_loopS (ι := Nat) [] (fun k => k ≤ (L).length ∧ (L.take k).any (fun x => decide (n = x)) = false) (fun k => (8, In .i64 (k : Int)) :: [(0, .cell (.list (L.map Irow))), (1, In .i64 n), (7, In .i64 ((L.map Irow).length : Int))]) (fun k => []) (fun k => (L).length - k) 0 ⟨Nat.zero_le _, rfl⟩ ?_ ?_ ?_
  · exact sub_end
  · (repeat (first | exact True.intro | refine ⟨rfl, ?_⟩))
  rintro k ⟨hk, hno⟩
  have eLk : ((L).map Irow).length = (L).length := List.length_map _
  by_cases hltk : k < (L).length
  · have hltk2 : (k : Int) < (((L).map Irow).length : Int) := by omega
    by_cases hb' : n = L[k]
    · have hres := idx_some (p := fun x => decide (n = x)) hltk (decide_eq_true hb') hno
      refine R_ (o_ r_ (bw_ r_ r_ (T_ (am_ (aq_ r_ u_ (as_ (al_ (B_ (R_ (M_ r_ (E_ r_ (T_ (R_ (M_ r_ (M_ r_ (M_ r_ ?_))))))))))))))))
      exact o_ r_ (cc_ r_ r_ g_ r_ r_ b_ (o_ r_ (cb_ r_ r_ (o_ r_ (bn_ r_ r_ (T_ (aq_ r_ u_ (R_ (M_ r_ (E_ r_ (T_ (ar_ (az_ (aw_ (aw_ (az_ (aw_ (jq_ret1S rfl rfl (fun K h => by rw [hres] at h; exact h) sub_end))))))))))))))))))
    · refine R_ (o_ r_ (bw_ r_ r_ (T_ (am_ (aq_ r_ u_ (as_ (al_ (B_ (R_ (M_ r_ (E_ r_ (T_ (R_ (M_ r_ (M_ r_ (M_ r_ ?_))))))))))))))))
      refine o_ r_ (cc_ r_ r_ g_ r_ r_ b_ (o_ r_ (cb_ r_ r_ (o_ r_ (bn_ r_ r_ (T_ (ap_ r_ w_ (as_ (ay_ (al_ (an_ (o_ r_ (bj_ r_ r_ g_ (M_ r_ (ak_ (jq_againS (i := k) (k + 1) ⟨hltk, any_snoc hltk hno (decide_eq_false hb')⟩ g_ ?_ ?_))))))))))))))))
      · exact sub_end
      · (repeat (first | exact True.intro | refine ⟨rfl, ?_⟩))
  · have hltk2 : ¬ (k : Int) < (((L).map Irow).length : Int) := by omega
    rw [List.take_of_length_le (by omega)] at hno
    have hres := idx_none hno
    exact R_ (o_ r_ (bw_ r_ r_ (T_ (am_ (ap_ r_ w_ (av_ (ax_ (ax_ (ba_ (al_ (R_ (E_ r_ (T_ (ar_ (jq_ret1S rfl rfl (fun K h => by rw [hres] at h; exact h) sub_end)))))))))))))))
theorem has_mem {L : List Int} {n : Int} : L.any (fun x => decide (n = x)) = decide (n ∈ L) := by
  cases h : L.any (fun x => decide (n = x)) with
  | true =>
    obtain ⟨x, hx, hp⟩ := List.any_eq_true.1 h
    rw [of_decide_eq_true hp, decide_eq_true hx]
  | false => rw [decide_eq_false (fun hm => by have := List.any_eq_false.1 h n hm; simp at this)]
theorem contains_c (L : List Int) (n : Int) : Con Try.prog 30 [.cell (.list (L.map Irow)), In .i64 n] [] (fun K => K (Bl (decide (n ∈ L))) []) := by
  have hI := index_c L n
  rw [← has_mem, ← idx_any]
  generalize idxOf (fun x => decide (n = x)) L = m at hI ⊢
  exact con_intro Try.func30 rfl rfl (Nat.le_of_ble_eq_true rfl) (fun c hc => R_ (E_ r_ (T_ (R_ (M_ r_ (M_ r_ (o_ r_ (bm_ r_ (hI) (o_ r_ (cn_ r_ r_ (E_ r_ (T_ (ar_ (jq_ret1S rfl rfl (fun K h => h) sub_end))))))))))))))
theorem containsO_c (v : Value) (e : TypeId) (L : List Int) (n : Int) (b : Bool) (hb : decide (n ∈ L) = b) : Con Try.prog 30 [.cell (.val v), In .i64 n] [.own v e 1 (L.map irow)] (fun K => K (Bl b) [.own v e 1 (L.map irow)]) := by
  subst hb
  exact con_lend2 (contains_c L n) trivial

abbrev Lrow (L : List Int) : List C := [.list (L.map Irow)]
theorem befP_len (B : List Bk) (i k x : Nat) : (befP B i k x).length ≤ i + 1 := by
  unfold befP
  rw [List.length_map, List.length_append]
  have := List.length_filter_le (fun j => decide ((x : Int) ∈ nxOf B j)) (List.range i)
  rw [List.length_range] at this
  split <;> simp <;> omega
def bPs (B : List Bk) (i k : Nat) : List (List Int) := (List.range B.length).map (befP B i k)
theorem bPs_len (B : List Bk) (i k : Nat) : (bPs B i k).length = B.length := by simp [bPs]
theorem bPs_zero (B : List Bk) : bPs B 0 0 = List.replicate B.length [] := by
  unfold bPs
  rw [List.eq_replicate_iff]
  refine ⟨by simp, fun x hx => ?_⟩
  obtain ⟨y, _, rfl⟩ := List.mem_map.1 hx
  exact befP_zero B y
theorem bPs_next (B : List Bk) (i : Nat) : bPs B (i + 1) 0 = bPs B i (nxOf B i).length := List.map_congr_left (fun x _ => befP_next B i x)
theorem bPs_end (B : List Bk) : bPs B B.length 0 = befM B := List.map_congr_left (fun x _ => befP_end B x)
theorem bPs_get {B : List Bk} {i k x : Nat} (h : x < (bPs B i k).length) : (bPs B i k)[x] = befP B i k x := by simp [bPs]
theorem bPs_same {B : List Bk} {i k : Nat} (hk : k < (nxOf B i).length) (h : (i : Int) ∈ befP B i k ((nxOf B i)[k]).toNat ∨ (nxOf B i)[k] < 0 ∨ (B.length : Int) ≤ (nxOf B i)[k]) : bPs B i (k + 1) = bPs B i k :=
  List.map_congr_left (fun x hx => befP_same hk h x (List.mem_range.1 hx))
theorem bPs_put {B : List Bk} {i k : Nat} (hk : k < (nxOf B i).length) (h0 : 0 ≤ (nxOf B i)[k]) (hn : (i : Int) ∉ befP B i k ((nxOf B i)[k]).toNat) : bPs B i (k + 1) = (bPs B i k).set ((nxOf B i)[k]).toNat (befP B i k ((nxOf B i)[k]).toNat ++ [(i : Int)]) := by
  refine List.ext_getElem (by simp [bPs]) (fun x h1 h2 => ?_)
  rw [bPs_get, befP_put hk h0 hn, List.getElem_set]
  by_cases hx : x = ((nxOf B i)[k]).toNat
  · rw [if_pos hx, if_pos hx.symm, hx]
  · rw [if_neg hx, if_neg (fun e => hx e.symm), bPs_get]
theorem before_c (g : Gh) (hw : GhW g) : Con Try.prog 56 [.row g.row] [] (fun K => K (.cell (.list ((befM g.blocks).map Lrow))) []) := by
  have eB : (g.blocks.map Bk.row).length = g.blocks.length := List.length_map _
  have hszB : szB g.blocks ≤ 1500 := by have := hw.size; unfold szG at this; omega
  have hsz := hw.ops
  refine con_intro Try.func56 rfl rfl (Nat.le_of_ble_eq_true rfl) (fun c hc => R_ (o_ r_ (ci_ r_ (fun bx => E_ r_ (T_ (R_ (F_ r_ (L_ 0 r_ (o_ r_ (br_ r_ (fun hlen => o_ r_ (ow_makeSliceVs g.blocks.length rfl rfl rfl rfl rfl g_ g_ (fun V hV fV => E_ r_ (T_ (am_ (R_ (F_ r_ (L_ 1 r_ ?_))))))))))))))))))
  refine o_ r_ (br_ r_ (fun hlen => M_ r_ (T_ (au_ (jc_famNil 3 1 g.blocks.length (Nat.succ_pos _) ?_)))))
  rw [famI_nil, ← bPs_zero]
  refine jc_loopS (ι := Nat × List Value) [] (fun i => i.1 ≤ (g.blocks).length ∧ i.2.length = g.blocks.length) (fun i => (15, In .i64 (i.1 : Int)) :: [(13, .cell (.list (g.blocks.map Bk.row))), (14, In .i64 ((g.blocks.map Bk.row).length : Int)), (3, .cell (.val V)), (1, Ptr bx)]) (fun i => [.own V 33 1 (i.2.map vrow), .fam (famI 3 i.2 (bPs g.blocks i.1 0)), .blk bx 28 g.row]) (fun i => (g.blocks).length - i.1) (0, List.replicate g.blocks.length (.slice none 0 0)) ⟨Nat.zero_le _, List.length_replicate⟩ ?_ ?_ ?_
  · exact bc_ 1 r_ (bc_ 0 r_ (bc_ 0 r_ sub_end))
  · (repeat (first | exact True.intro | refine ⟨rfl, ?_⟩))
  rintro ⟨j, vs⟩ hz
  dsimp only at hz ⊢
  obtain ⟨hj, hvl⟩ := hz
  have eLj : ((g.blocks).map Bk.row).length = (g.blocks).length := List.length_map _
  by_cases hltj : j < (g.blocks).length
  · have hltj2 : (j : Int) < (((g.blocks).map Bk.row).length : Int) := by omega
    have hnx := nx_at hltj
    refine R_ (o_ r_ (bw_ r_ r_ (T_ (am_ (aq_ r_ u_ (as_ (al_ (B_ (R_ (M_ r_ (o_ r_ (cc_ r_ r_ g_ r_ r_ b_ (o_ r_ (cr_ r_ r_ r_ (o_ r_ (bl_ r_ r_ (fun bl => E_ r_ (S_ 0 r_ (T_ ?_)))))))))))))))))))
    refine R_ (F_ r_ (L_ 0 r_ (o_ r_ (br_ r_ (fun hlen => M_ r_ (T_ (au_ ?_)))))))
    refine jc_loopS (ι := Nat × List Value) [] (fun i => i.1 ≤ ((g.blocks[j]).next).length ∧ i.2.length = g.blocks.length) (fun i => (23, In .i64 (i.1 : Int)) :: [(21, .cell (.list ((g.blocks[j]).next.map Irow))), (22, In .i64 (((g.blocks[j]).next.map Irow).length : Int)), (4, In .i64 (j : Int)), (15, In .i64 (j : Int)), (13, .cell (.list (g.blocks.map Bk.row))), (14, In .i64 ((g.blocks.map Bk.row).length : Int)), (3, .cell (.val V)), (1, Ptr bx)]) (fun i => [.own V 33 1 (i.2.map vrow), .fam (famI 3 i.2 (bPs g.blocks j i.1)), .blk bx 28 g.row]) (fun i => ((g.blocks[j]).next).length - i.1) (0, vs) ⟨Nat.zero_le _, hvl⟩ ?_ ?_ ?_
    · exact bc_ 1 r_ (bc_ 1 r_ (bc_ 1 r_ sub_end))
    · (repeat (first | exact True.intro | refine ⟨rfl, ?_⟩))
    rintro ⟨k, us⟩ hz
    dsimp only at hz ⊢
    obtain ⟨hk, hul⟩ := hz
    have eLk : (((g.blocks[j]).next).map Irow).length = ((g.blocks[j]).next).length := List.length_map _
    by_cases hltk : k < ((g.blocks[j]).next).length
    · have hltk2 : (k : Int) < ((((g.blocks[j]).next).map Irow).length : Int) := by omega
      have hkn : k < (nxOf g.blocks j).length := by rw [hnx]; exact hltk
      obtain ⟨y, hy⟩ : ∃ y, y = (g.blocks[j]).next[k] := ⟨_, rfl⟩
      have hy2 : (nxOf g.blocks j)[k] = y := by rw [hy]; simp only [hnx]
      have hsame := fun h => bPs_same hkn h
      have hput := fun h0 h1 => bPs_put hkn h0 h1
      rw [hy2] at hsame hput
      have hlen := befP_len g.blocks j k y.toNat
      have eU : (us.map vrow).length = us.length := List.length_map _
      have hB := between_c y 0 (((us.map vrow).length : Int) - 1)
      by_cases c1 : 0 ≤ y ∧ y ≤ ((us.map vrow).length : Int) - 1
      · have i1 : y.toNat < us.length := by omega
        have i2 : y.toNat < (bPs g.blocks j k).length := by rw [bPs_len]; omega
        rw [decide_eq_true c1.1, decide_eq_true c1.2, Bool.true_and, hy] at hB
        by_cases c2 : (j : Int) ∈ befP g.blocks j k y.toNat
        · have hC := fun v => containsO_c v 3 ((bPs g.blocks j k)[y.toNat]) (j : Int) true (by rw [bPs_get]; exact decide_eq_true c2)
          rw [hy] at i1 i2
          refine R_ (o_ r_ (bw_ r_ r_ (T_ (am_ (aq_ r_ u_ (as_ (al_ (B_ (R_ (o_ r_ (cc_ r_ r_ g_ r_ r_ b_ (o_ r_ (cb_ r_ r_ (E_ r_ (T_ (R_ (M_ r_ (M_ r_ ?_))))))))))))))))))
          refine o_ r_ (cw_ 0 r_ r_ (fun hlen => o_ r_ (cg_ r_ r_ g_ (o_ r_ (bm_ r_ (hB) (M_ r_ (ah_ r_ r_ b_ (bd_ r_ (ah_ r_ r_ b_ (bd_ r_ (ah_ r_ r_ b_ (ow_indexVs 0 r_ r_ r_ g_ r_ (ah_ r_ r_ b_ (ow_loadVs 0 r_ r_ r_ (List.getElem?_eq_getElem i1) ?_))))))))))))))
          refine ah_ r_ r_ b_ (bd_ r_ (jl_regroup _ (famI_out (j := 1) _ i1 i2 rfl) ?_))
          simp only [hy] at hC
          have hs := hsame (.inl c2)
          refine ah_ r_ r_ b_ (bi_ [0] r_ r_ (hC _) (ah_ r_ r_ b_ (cd_ r_ (o_ r_ (bp_ r_ r_ r_ (T_ (ap_ r_ r_ (as_ (ay_ (al_ (an_ (o_ r_ (bj_ r_ r_ g_ (M_ r_ (ak_ (jq_regroup _ (famI_backE (j := 0) (j2 := 0) _ i1 i2 rfl hs) (jq_againS (i := (k, us)) (k + 1, us) ⟨hltk, hul⟩ (by dsimp only; omega) ?_ ?_)))))))))))))))))
          · exact bc_ 1 r_ (bc_ 0 r_ (bc_ 0 r_ sub_end))
          · (repeat (first | exact True.intro | refine ⟨rfl, ?_⟩))
        · have hC := fun v => containsO_c v 3 ((bPs g.blocks j k)[y.toNat]) (j : Int) false (by rw [bPs_get]; exact decide_eq_false c2)
          have hs := hput c1.1 c2
          have hl2 : ((bPs g.blocks j k)[y.toNat]).length ≤ j + 1 := by rw [bPs_get]; exact hlen
          rw [hy] at i1 i2 hs
          refine R_ (o_ r_ (bw_ r_ r_ (T_ (am_ (aq_ r_ u_ (as_ (al_ (B_ (R_ (o_ r_ (cc_ r_ r_ g_ r_ r_ b_ (o_ r_ (cb_ r_ r_ (E_ r_ (T_ (R_ (M_ r_ (M_ r_ ?_))))))))))))))))))
          refine o_ r_ (cw_ 0 r_ r_ (fun hlen => o_ r_ (cg_ r_ r_ g_ (o_ r_ (bm_ r_ (hB) (M_ r_ (ah_ r_ r_ b_ (bd_ r_ (ah_ r_ r_ b_ (bd_ r_ (ah_ r_ r_ b_ (ow_indexVs 0 r_ r_ r_ g_ r_ (ah_ r_ r_ b_ (ow_loadVs 0 r_ r_ r_ (List.getElem?_eq_getElem i1) ?_))))))))))))))
          refine ah_ r_ r_ b_ (bd_ r_ (jl_regroup _ (famI_out (j := 1) _ i1 i2 rfl) ?_))
          simp only [hy] at hC hl2
          refine ah_ r_ r_ b_ (bi_ [0] r_ r_ (hC _) (ah_ r_ r_ b_ (cd_ r_ (o_ r_ (bp_ r_ r_ r_ (T_ (aq_ r_ r_ (an_ (M_ r_ (M_ r_ (M_ r_ (M_ r_ (o_ r_ (ow_indexVs 2 r_ r_ r_ g_ r_ (o_ r_ (ow_loadVs 2 r_ r_ r_ (List.getElem?_eq_getElem i1) ?_))))))))))))))))
          refine M_ r_ (o_ r_ (bq_ r_ r_ b_ r_ r_ b_ (o_ r_ (ow_append1 0 ((j : Int)) rfl rfl rfl rfl rfl rfl rfl (fun _ => rfl) (by show (_ + _) * 8 ≤ _; first | omega | (simp only [List.length_append]; omega)) (by first | omega | (simp only [List.length_append]; omega)) (fun v1 hv1 => o_ r_ (ow_indexVs 2 r_ r_ r_ g_ r_ (ag_ (ow_storeVs 2 r_ r_ r_ i1 r_ (ak_ (ay_ (al_ (an_ (o_ r_ (bj_ r_ r_ g_ (M_ r_ (ak_ ?_))))))))))))))))
          refine jq_regroup _ (famI_inE (j := 1) (j2 := 1) (Ls' := bPs g.blocks j (k + 1)) _ i1 i2 rfl (by rw [bPs_get]; exact hs)) (jq_againS (i := (k, us)) (k + 1, us.set ((g.blocks[j]).next[k]).toNat v1) ⟨hltk, by dsimp only; rw [List.length_set]; exact hul⟩ (by dsimp only; omega) ?_ ?_)
          · exact bc_ 1 r_ (bc_ 0 r_ (bc_ 0 r_ sub_end))
          · (repeat (first | exact True.intro | refine ⟨rfl, ?_⟩))
      · have hb' : (decide (0 ≤ y) && decide (y ≤ ((us.map vrow).length : Int) - 1)) = false := by rw [Bool.and_eq_false_iff, decide_eq_false_iff_not, decide_eq_false_iff_not]; omega
        rw [hb', hy] at hB
        have hs := hsame (.inr (by omega))
        refine R_ (o_ r_ (bw_ r_ r_ (T_ (am_ (aq_ r_ u_ (as_ (al_ (B_ (R_ (o_ r_ (cc_ r_ r_ g_ r_ r_ b_ (o_ r_ (cb_ r_ r_ (E_ r_ (T_ (R_ (M_ r_ (M_ r_ ?_))))))))))))))))))
        refine o_ r_ (cw_ 0 r_ r_ (fun hlen => o_ r_ (cg_ r_ r_ g_ (o_ r_ (bm_ r_ (hB) (M_ r_ (ai_ r_ r_ b_ (ai_ r_ r_ b_ (ai_ r_ r_ b_ (ai_ r_ r_ b_ (ai_ r_ r_ b_ (ai_ r_ r_ b_ (ai_ r_ r_ b_ (o_ r_ (bv_ r_ r_ r_ (T_ (ap_ r_ r_ (as_ (ay_ ?_)))))))))))))))))))
        refine al_ (an_ (o_ r_ (bj_ r_ r_ g_ (M_ r_ (ak_ (jq_regroup _ (famI_eq (j := 1) rfl hs) (jq_againS (i := (k, us)) (k + 1, us) ⟨hltk, hul⟩ (by dsimp only; omega) ?_ ?_)))))))
        · exact bc_ 1 r_ (bc_ 0 r_ (bc_ 0 r_ sub_end))
        · (repeat (first | exact True.intro | refine ⟨rfl, ?_⟩))
    · have hltk2 : ¬ (k : Int) < ((((g.blocks[j]).next).map Irow).length : Int) := by omega
      have hs : bPs g.blocks j k = bPs g.blocks (j + 1) 0 := by rw [bPs_next, hnx]; congr 1; omega
      refine R_ (o_ r_ (bw_ r_ r_ (T_ (am_ (ap_ r_ w_ (av_ (ax_ (ax_ (ba_ (ay_ (al_ (an_ (o_ r_ (bj_ r_ r_ g_ (M_ r_ (ak_ (jq_regroup _ (famI_eq (j := 1) rfl hs.symm) ?_)))))))))))))))))
      refine jq_againS (i := (j, vs)) (j + 1, us) ⟨hltj, hul⟩ (by dsimp only; omega) ?_ ?_
      · exact bc_ 1 r_ (bc_ 0 r_ (bc_ 0 r_ sub_end))
      · (repeat (first | exact True.intro | refine ⟨rfl, ?_⟩))
  · have hltj2 : ¬ (j : Int) < (((g.blocks).map Bk.row).length : Int) := by omega
    have hs : bPs g.blocks j 0 = befM g.blocks := by rw [← bPs_end]; congr 1; omega
    refine R_ (o_ r_ (bw_ r_ r_ (T_ (am_ (ap_ r_ w_ (av_ (ax_ (ax_ (ba_ (al_ (R_ (M_ r_ (E_ r_ (T_ (ar_ (jq_regroup _ (famI_eq (j := 1) rfl hs.symm) ?_))))))))))))))))
    have hbl : vs.length = (befM g.blocks).length := by rw [hvl, befM, List.length_map, List.length_range]
    refine jq_freezeFam 1 0 0 rfl (famI_holds hbl) (by rw [hc]; simp [hb]) ?_
    rw [famI_frz hbl]
    refine jq_freeze 2 0 rfl rfl (by rw [hc]; simp [hb]) (jq_ret1 rfl rfl [] rfl (fun K h => h))
end Go.Proofs.Ytpolnonbgaolkaa
end

section
namespace Go.Proofs.Ytpolnonbgaolkaa
open Go.Vc
attribute [local irreducible] JL JC JQ OpWp Con ConN HOk
set_option maxHeartbeats 4000000

abbrev DRow (r : List Bool) : List C := [.list (r.map Brow)]
/-- What package graph knows of a graph (type shape), but for the last cell. -/
noncomputable abbrev shR (g : Gh) (D : C) : List C := [.list (g.inputs.map InRow), .val (.int .i64 g.vars), .val (.int .i64 g.keep), .list (g.arrays.map ArRow), .val (.int .i64 g.shared), .list (g.blocks.map Bk.row), .list (g.points.map NRow), .list (g.heads.map HdRow), .list ((befM g.blocks).map Lrow), .list ((rchL g.blocks (-1)).map Brow), D]
noncomputable def dmP (B : List Bk) (d k : Nat) : List Bool := (List.range B.length).map fun x => decide (x < k) && dmB B d x
theorem dmP_zero (B : List Bk) (d : Nat) : dmP B d 0 = List.replicate B.length false := by
  unfold dmP
  rw [List.eq_replicate_iff]
  refine ⟨by simp, fun x hx => ?_⟩
  obtain ⟨y, _, rfl⟩ := List.mem_map.1 hx
  rfl
theorem dmP_len (B : List Bk) (d k : Nat) : (dmP B d k).length = B.length := by simp [dmP]
theorem dmP_set {B : List Bk} {d k : Nat} : dmP B d (k + 1) = (dmP B d k).set k (dmB B d k) := by
  refine List.ext_getElem (by simp [dmP]) (fun x h1 h2 => ?_)
  rw [List.getElem_set]
  simp only [dmP, List.getElem_map, List.getElem_range]
  by_cases hx : k = x
  · subst hx; simp
  · rw [if_neg hx]
    congr 1
    exact decide_eq_decide.2 g_
theorem dmP_end {B : List Bk} {d : Nat} (h : d < (domM B).length) : dmP B d B.length = (domM B)[d] := by
  simp only [domM, List.getElem_map, List.getElem_range]
  refine List.map_congr_left (fun x hx => ?_)
  rw [decide_eq_true (List.mem_range.1 hx), Bool.true_and]
theorem domM_len (B : List Bk) : (domM B).length = B.length := by simp [domM]
abbrev NilV : C := .val (.slice none 0 0)
abbrev ShZ : List C := [NilV, .val (.int .i64 0), .val (.int .i64 0), NilV, .val (.int .i64 0), NilV, NilV, NilV, NilV, NilV, NilV]
theorem shaped_c (g : Gh) (hw : GhW g) : Con Try.prog 27 [.row g.row] [] (fun K => K (.row (shR g (.list ((domM g.blocks).map DRow)))) []) := by
  have eB : (g.blocks.map Bk.row).length = g.blocks.length := List.length_map _
  have hsz := hw.ops
  have hBe := before_c g hw
  have hRe := gReached_c g hw
  have eA : ((rchL g.blocks (-1)).map Brow).length = g.blocks.length := by rw [List.length_map, rchL_len]
  have eM := domM_len g.blocks
  refine con_intro Try.func27 rfl rfl (Nat.le_of_ble_eq_true rfl) (fun c hc => R_ (o_ r_ (ci_ r_ (fun bx => o_ r_ (bl_ r_ r_ (fun bl => T_ (am_ (jc_anyB 7 (some 6) rfl k_ k_ (aa_ (fun c => bs_ 1 r_ r_ r_ r_ p_) (aa_ (fun c => bs_ 1 r_ r_ r_ r_ p_) (aa_ (fun c => bm_ r_ (hBe) p_) (aa_ (fun c => bs_ 1 r_ r_ r_ r_ p_) (aa_ (fun c => bm_ r_ (hRe) p_) (aa_ (fun c => bu_ r_ r_ r_ r_ r_ p_) (af_ (ae_ ?_))))))))))))))))
  refine afin_some rfl rfl rfl (fun bl => S_ 0 r_ (T_ (am_ (R_ (F_ r_ (L_ 2 r_ (o_ r_ (br_ r_ (fun hlen => M_ r_ (T_ (au_ ?_)))))))))))
  rename_i b2
  refine jc_ownNil 68 1 g_ ?_
  refine jc_loopS (ι := Nat × Value) [] (fun i => i.1 ≤ (g.blocks).length) (fun i => (17, In .i64 (i.1 : Int)) :: [(15, .cell (.list (g.blocks.map Bk.row))), (16, In .i64 ((g.blocks.map Bk.row).length : Int)), (3, Ptr bl), (2, Ptr b2), (1, Ptr bx)]) (fun i => [.own i.2 68 1 (((domM g.blocks).take i.1).map DRow), .blk bl 71 (shR g (.val i.2)), .blk b2 71 ShZ, .blk bx 28 g.row]) (fun i => (g.blocks).length - i.1) (0, .slice none 0 0) (Nat.zero_le _) ?_ ?_ ?_
  · exact bc_ 0 r_ (bc_ 0 r_ (bc_ 0 r_ (bc_ 0 r_ sub_end)))
  · (repeat (first | exact True.intro | refine ⟨rfl, ?_⟩))
  rintro ⟨a, v⟩ hz
  dsimp only at hz ⊢
  obtain ha := hz
  have eLa : ((g.blocks).map Bk.row).length = (g.blocks).length := List.length_map _
  by_cases hlta : a < (g.blocks).length
  · have hlta2 : (a : Int) < (((g.blocks).map Bk.row).length : Int) := by omega
    have hR := reached_c g hw (a : Int)
    have eDl : ((domM g.blocks).take a).length = a := by rw [List.length_take]; omega
    have had : a < (domM g.blocks).length := by omega
    have hs := List.take_succ_eq_append_getElem had
    refine R_ (o_ r_ (bw_ r_ r_ (T_ (am_ (aq_ r_ u_ (as_ (al_ (B_ (R_ (M_ r_ (E_ r_ (T_ (R_ (A_ 3 r_ (M_ r_ (o_ r_ (bm_ r_ (hR) ?_)))))))))))))))))
    refine E_ r_ (T_ (R_ (F_ r_ (L_ 3 r_ (o_ r_ (br_ r_ (fun hlen => o_ r_ (ow_makeSliceBo g.blocks.length rfl rfl rfl rfl rfl g_ g_ (fun V hV fV => E_ r_ (T_ (am_ (R_ (M_ r_ (o_ r_ (cw_ 0 r_ r_ (fun hlen => M_ r_ (T_ (au_ ?_))))))))))))))))))
    rw [← dmP_zero g.blocks a]
    refine jc_loopS (ι := Nat) [] (fun k => k ≤ (dmP g.blocks a 0).length) (fun k => (29, In .i64 (k : Int)) :: [(28, In .i64 (((dmP g.blocks a 0).map brow).length : Int)), (6, .cell (.val V)), (5, .cell (.list ((rchL g.blocks (a : Int)).map Brow))), (15, .cell (.list (g.blocks.map Bk.row))), (16, In .i64 ((g.blocks.map Bk.row).length : Int)), (17, In .i64 (a : Int)), (3, Ptr bl), (2, Ptr b2), (1, Ptr bx)]) (fun k => [.own V 4 1 ((dmP g.blocks a k).map brow), .own v 68 1 (((domM g.blocks).take a).map DRow), .blk bl 71 (shR g (.val v)), .blk b2 71 ShZ, .blk bx 28 g.row]) (fun k => (dmP g.blocks a 0).length - k) 0 (Nat.zero_le _) ?_ ?_ ?_
    · exact bc_ 0 r_ (bc_ 0 r_ (bc_ 0 r_ (bc_ 0 r_ (bc_ 0 r_ sub_end))))
    · (repeat (first | exact True.intro | refine ⟨rfl, ?_⟩))
    rintro k hk
    have eLk : ((dmP g.blocks a 0).map brow).length = (dmP g.blocks a 0).length := List.length_map _
    by_cases hltk : k < (dmP g.blocks a 0).length
    · have hltk2 : (k : Int) < (((dmP g.blocks a 0).map brow).length : Int) := by omega
      have e0 := dmP_len g.blocks a 0
      have ek := dmP_len g.blocks a k
      have eRa : ((rchL g.blocks (a : Int)).map Brow).length = g.blocks.length := by rw [List.length_map, rchL_len]
      have i1 : k < (rchL g.blocks (-1)).length := by rw [rchL_len]; omega
      have i2 : k < (rchL g.blocks (a : Int)).length := by rw [rchL_len]; omega
      have hdm := dm_prog g.blocks a k i2
      rw [← alB_get i1] at hdm
      have hset := dmP_set (B := g.blocks) (d := a) (k := k)
      have ekm : ((dmP g.blocks a k).map brow).length = g.blocks.length := by rw [List.length_map, ek]
      cases hal : (rchL g.blocks (-1))[k] with
      | true =>
        rw [hal, Bool.true_and] at hdm
        rw [← hdm] at hset
        refine R_ (o_ r_ (bw_ r_ r_ (T_ (am_ (aq_ r_ u_ (as_ (al_ (B_ (R_ (M_ r_ (E_ r_ (T_ (an_ (M_ r_ (M_ r_ (F_ r_ ?_))))))))))))))))
        refine L_ 2 r_ (M_ r_ (o_ r_ (cc_ r_ r_ g_ r_ r_ b_ (o_ r_ (cb_ r_ r_ (M_ r_ (ah_ r_ h_ b_ (bd_ r_ (ah_ r_ h_ b_ (bd_ r_ (ah_ r_ h_ b_ (cc_ r_ r_ g_ r_ r_ b_ (ah_ r_ h_ b_ (cb_ r_ r_ (ah_ r_ h_ b_ (cd_ r_ (o_ r_ (bp_ r_ h_ r_ (o_ r_ (ow_indexBo 0 r_ r_ r_ g_ r_ (ag_ (ow_storeBo 0 r_ r_ r_ g_ r_ (ak_ (ay_ (al_ ?_)))))))))))))))))))))))))
        refine an_ (o_ r_ (bj_ r_ r_ g_ (M_ r_ (ak_ (jq_againS (i := k) (k + 1) hltk g_ ?_ ?_)))))
        · rw [hset]
          exact bc_ 0 r_ (bc_ 0 r_ (bc_ 0 r_ (bc_ 0 r_ (bc_ 0 r_ sub_end))))
        · (repeat (first | exact True.intro | refine ⟨rfl, ?_⟩))
      | false =>
        rw [hal, Bool.false_and] at hdm
        rw [← hdm] at hset
        refine R_ (o_ r_ (bw_ r_ r_ (T_ (am_ (aq_ r_ u_ (as_ (al_ (B_ (R_ (M_ r_ (E_ r_ (T_ (an_ (M_ r_ (M_ r_ (F_ r_ ?_))))))))))))))))
        refine L_ 2 r_ (M_ r_ (o_ r_ (cc_ r_ r_ g_ r_ r_ b_ (o_ r_ (cb_ r_ r_ (M_ r_ (ai_ r_ h_ b_ (ai_ r_ h_ b_ (ai_ r_ h_ b_ (ai_ r_ h_ b_ (ai_ r_ h_ b_ (o_ r_ (bv_ r_ h_ r_ (o_ r_ (ow_indexBo 0 r_ r_ r_ g_ r_ (ag_ (ow_storeBo 0 r_ r_ r_ g_ r_ (ak_ (ay_ (al_ ?_))))))))))))))))))))
        refine an_ (o_ r_ (bj_ r_ r_ g_ (M_ r_ (ak_ (jq_againS (i := k) (k + 1) hltk g_ ?_ ?_)))))
        · rw [hset]
          exact bc_ 0 r_ (bc_ 0 r_ (bc_ 0 r_ (bc_ 0 r_ (bc_ 0 r_ sub_end))))
        · (repeat (first | exact True.intro | refine ⟨rfl, ?_⟩))
    · have hltk2 : ¬ (k : Int) < (((dmP g.blocks a 0).map brow).length : Int) := by omega
      have hf : dmP g.blocks a k = (domM g.blocks)[a] := by
        rw [← dmP_end had]
        congr 1
        rw [dmP_len] at hk hltk
        omega
      rw [hf]
      refine R_ (o_ r_ (bw_ r_ r_ (T_ (am_ (ap_ r_ w_ (av_ (ax_ (ax_ (ba_ (al_ (jc_freeze 6 0 rfl rfl (by rw [hc]; simp [hb]) (an_ (F_ r_ (L_ 1 r_ (M_ r_ (o_ r_ (bq_ r_ r_ b_ r_ r_ b_ ?_)))))))))))))))))
      refine o_ r_ (ow_append1 0 ((domM g.blocks)[a]) rfl rfl rfl rfl rfl rfl rfl (fun _ => rfl) (by show (_ + _) * 24 ≤ _; first | omega | (simp only [List.length_append]; omega)) (by first | omega | (simp only [List.length_append]; omega)) (fun v1 hv1 => F_ r_ (W_ 1 r_ (ak_ (ay_ (al_ (an_ (o_ r_ (bj_ r_ r_ g_ (M_ r_ (ak_ (jq_againS (i := (a, v)) (a + 1, v1) hlta (by dsimp only; omega) ?_ ?_))))))))))))
      · dsimp only
        rw [hs]
        exact bc_ 1 r_ (bc_ 0 r_ (bc_ 0 r_ (bc_ 0 r_ sub_end)))
      · (repeat (first | exact True.intro | refine ⟨rfl, ?_⟩))
  · have hlta2 : ¬ (a : Int) < (((g.blocks).map Bk.row).length : Int) := by omega
    have ht : (domM g.blocks).take a = domM g.blocks := List.take_of_length_le (by omega)
    rw [ht]
    refine R_ (o_ r_ (bw_ r_ r_ (T_ (am_ (ap_ r_ w_ (av_ (ax_ (ax_ (ba_ (al_ (R_ (A_ 1 r_ (S_ 2 r_ (T_ (ar_ (jq_freezeBi 1 0 10 rfl rfl rfl (by rw [hc]; simp [hb, Ch.bs]) ?_))))))))))))))))
    exact jq_retRowS rfl rfl rfl rfl 0 rfl (fun K h => h) sub_end
end Go.Proofs.Ytpolnonbgaolkaa
end

section
namespace Go.Proofs.Ytpolnonbgaolkaa
open Go.Vc
attribute [local irreducible] JL JC JQ OpWp Con ConN HOk
set_option maxHeartbeats 4000000

noncomputable abbrev ShF (g : Gh) : List C := shR g (.list ((domM g.blocks).map DRow))
theorem domM_row {B : List Bk} {d : Nat} (h : d < (domM B).length) : ((domM B)[d]).length = B.length := by simp [domM]
theorem domM_get {B : List Bk} {d b : Nat} (h : d < (domM B).length) (h2 : b < ((domM B)[d]).length) : ((domM B)[d])[b] = dmB B d b := by simp [domM]
theorem befM_len (B : List Bk) : (befM B).length = B.length := by simp [befM]
theorem befM_get {B : List Bk} {d : Nat} (h : d < (befM B).length) : (befM B)[d] = befL B d := by simp [befM]
theorem back_c (g : Gh) (a b : Int) (ha : 0 ≤ a ∧ a < (g.blocks.length : Int)) (hb : 0 ≤ b ∧ b < (g.blocks.length : Int)) : Con Try.prog 59 [.row (ShF g), In .i64 a, In .i64 b] [] (fun K => K (Bl (dmB g.blocks b.toNat a.toNat)) []) := by
  have eA : ((rchL g.blocks (-1)).map Brow).length = g.blocks.length := by rw [List.length_map, rchL_len]
  have eD : ((domM g.blocks).map DRow).length = g.blocks.length := by rw [List.length_map, domM_len]
  have i1 : a.toNat < (rchL g.blocks (-1)).length := by rw [rchL_len]; omega
  have i2 : b.toNat < (domM g.blocks).length := by rw [domM_len]; omega
  have i3 : a.toNat < ((domM g.blocks)[b.toNat]).length := by rw [domM_row]; omega
  have eR : (((domM g.blocks)[b.toNat]).map Brow).length = g.blocks.length := by rw [List.length_map, domM_row]
  have hg := domM_get i2 i3
  refine con_intro Try.func59 rfl rfl (Nat.le_of_ble_eq_true rfl) (fun c hc => ?_)
  cases hal : (rchL g.blocks (-1))[a.toNat] with
  | true =>
    refine R_ (o_ r_ (ci_ r_ (fun bx => E_ r_ (T_ (R_ (F_ r_ (L_ 0 r_ (M_ r_ (o_ r_ (cv_ r_ r_ g_ g_ r_ r_ b_ (o_ r_ (cb_ r_ r_ (M_ r_ (ah_ r_ h_ b_ (bf_ r_ r_ r_ b_ (ah_ r_ h_ b_ (bg_ 0 r_ r_ r_ r_ (ah_ r_ h_ b_ (bd_ r_ (ah_ r_ h_ b_ (cv_ r_ r_ g_ g_ r_ r_ b_ (ah_ r_ h_ b_ (cb_ r_ r_ ?_)))))))))))))))))))))))
    refine ah_ r_ h_ b_ (bd_ r_ (ah_ r_ h_ b_ (cv_ r_ r_ g_ g_ r_ r_ b_ (ah_ r_ h_ b_ (cb_ r_ r_ (o_ r_ (bp_ r_ h_ r_ (E_ r_ (T_ (ar_ (jq_bl 6 rfl hg (jq_ret1 rfl rfl [] rfl (fun K h => h)))))))))))))
  | false =>
    have hres : dmB g.blocks b.toNat a.toNat = false := by
      rw [Bool.eq_false_iff]
      intro h
      have := dm_al h
      rw [← alB_get i1, hal] at this
      cases this
    refine R_ (o_ r_ (ci_ r_ (fun bx => E_ r_ (T_ (R_ (F_ r_ (L_ 0 r_ (M_ r_ (o_ r_ (cv_ r_ r_ g_ g_ r_ r_ b_ (o_ r_ (cb_ r_ r_ (M_ r_ (ai_ r_ h_ b_ (ai_ r_ h_ b_ (ai_ r_ h_ b_ (ai_ r_ h_ b_ (ai_ r_ h_ b_ ?_))))))))))))))))))
    refine ai_ r_ h_ b_ (ai_ r_ h_ b_ (ai_ r_ h_ b_ (o_ r_ (bv_ r_ h_ r_ (E_ r_ (T_ (ar_ (jq_ret1 rfl rfl [] rfl (fun K h => by rw [hres] at h; exact h)))))))))
theorem bef_bnd {B : List Bk} {x : Nat} {k : Nat} (h : k < (befL B x).length) : 0 ≤ (befL B x)[k] ∧ (befL B x)[k] < (B.length : Int) := by
  have := bef_mem.1 (List.getElem_mem h)
  omega
theorem dmC_c (g : Gh) (x : Int) (h : Nat) (hx : 0 ≤ x ∧ x < (g.blocks.length : Int)) (hh : h < g.blocks.length) (b : Bool) (hb : dmB g.blocks h x.toNat = b) : Con Try.prog 59 [.row (ShF g), In .i64 x, In .i64 (h : Int)] [] (fun K => K (Bl b) []) := by
  have := back_c g x (h : Int) hx (by omega)
  rw [Int.toNat_natCast, hb] at this
  exact this
noncomputable def nodesR (B : List Bk) (h : Nat) : List Int := if latch B h = [] then [] else nodesF B h
theorem filter_snoc {α : Type} {l : List α} {p : α → Bool} {k : Nat} (hk : k < l.length) : (l.take (k + 1)).filter p = (l.take k).filter p ++ if p l[k] then [l[k]] else [] := by
  rw [List.take_succ_eq_append_getElem hk, List.filter_append]
  cases h : p l[k] <;> simp [h]
theorem befW_length (B : List Bk) : (befW B).length = B.length := by simp [befW, befM]
theorem ntr_getD {l : List Bool} {b : Nat} (h : l.getD b false = false) : ¬ tr l b := fun q => by rw [getD_tr.2 q] at h; cases h
theorem nodes_c (g : Gh) (hw : GhW g) (h : Nat) (hh : h < g.blocks.length) : Con Try.prog 29 [.row (ShF g), In .i64 (h : Int)] [] (fun K => K (.cell (.list ((nodesR g.blocks h).map Irow))) []) := by
  have hsz := hw.ops
  have eBm : ((befM g.blocks).map Lrow).length = g.blocks.length := by rw [List.length_map, befM_len]
  have i1 : h < (befM g.blocks).length := by rw [befM_len]; exact hh
  have eg : (befM g.blocks)[h] = befL g.blocks h := befM_get i1
  have hbl := bef_len g.blocks h
  have eBl : ((befL g.blocks h).map Irow).length = (befL g.blocks h).length := List.length_map _
  have eA : ((rchL g.blocks (-1)).map Brow).length = g.blocks.length := by rw [List.length_map, rchL_len]
  refine con_intro Try.func29 rfl rfl (Nat.le_of_ble_eq_true rfl) (fun c hc => ?_)
  have hrow : ((befM g.blocks).map Lrow)[h]? = some (Lrow (befL g.blocks h)) := by rw [List.getElem?_map, List.getElem?_eq_getElem i1, eg]; rfl
  refine R_ (o_ r_ (ci_ r_ (fun bx => E_ r_ (T_ (R_ (F_ r_ (L_ 0 r_ (o_ r_ (br_ r_ (fun hlen => o_ r_ (ow_makeSliceBo g.blocks.length rfl rfl rfl rfl rfl g_ g_ (fun V hV fV => E_ r_ (T_ (R_ (E_ r_ (T_ (am_ (R_ ?_))))))))))))))))))
  refine F_ r_ (L_ 1 r_ (M_ r_ (o_ r_ (ow_indexAddrN h r_ r_ r_ hrow r_ b_ (o_ r_ (cb_ r_ r_ (o_ r_ (br_ r_ (fun hlen => M_ r_ (T_ (au_ (jc_ownNil 3 1 g_ ?_))))))))))))
  refine jc_loopS (ι := Nat × Value) [] (fun i => i.1 ≤ (befL g.blocks h).length) (fun i => (23, In .i64 (i.1 : Int)) :: [(21, .cell (.list ((befL g.blocks h).map Irow))), (22, In .i64 (((befL g.blocks h).map Irow).length : Int)), (6, .cell (.val i.2)), (5, .cell (.val V)), (1, In .i64 (h : Int)), (2, Ptr bx)]) (fun i => [.own i.2 3 1 ((((befL g.blocks h).take i.1).filter fun b => dmB g.blocks h b.toNat).map irow), .own V 4 1 ((List.replicate g.blocks.length false).map brow), .blk bx 71 (ShF g)]) (fun i => (befL g.blocks h).length - i.1) (0, .slice none 0 0) (Nat.zero_le _) ?_ ?_ ?_
  · exact bc_ 0 r_ (bc_ 0 r_ (bc_ 0 r_ sub_end))
  · (repeat (first | exact True.intro | refine ⟨rfl, ?_⟩))
  rintro ⟨k, v⟩ hz
  dsimp only at hz ⊢
  obtain hk := hz
  have eLk : ((befL g.blocks h).map Irow).length = (befL g.blocks h).length := List.length_map _
  by_cases hltk : k < (befL g.blocks h).length
  · have hltk2 : (k : Int) < (((befL g.blocks h).map Irow).length : Int) := by omega
    have hfs := filter_snoc (p := fun b => dmB g.blocks h b.toNat) hltk
    have hfl := List.length_filter_le (fun b : Int => dmB g.blocks h b.toNat) ((befL g.blocks h).take k)
    rw [List.length_take] at hfl
    cases hd : dmB g.blocks h ((befL g.blocks h)[k]).toNat with
    | true =>
      have hC := dmC_c g _ h (bef_bnd hltk) hh true hd
      rw [hd, if_pos rfl] at hfs
      refine R_ (o_ r_ (bw_ r_ r_ (T_ (am_ (aq_ r_ u_ (as_ (al_ (B_ (R_ (o_ r_ (cc_ r_ r_ g_ r_ r_ b_ (o_ r_ (cb_ r_ r_ (E_ r_ (T_ (R_ (A_ 2 r_ (M_ r_ ?_))))))))))))))))))
      refine M_ r_ (o_ r_ (bm_ r_ (hC) (T_ (aq_ r_ r_ (an_ (M_ r_ (M_ r_ (o_ r_ (bq_ r_ r_ b_ r_ r_ b_ (o_ r_ (ow_append1 0 ((befL g.blocks h)[k]) rfl rfl rfl rfl rfl rfl rfl (fun _ => rfl) (by show (_ + _) * 8 ≤ _; first | omega | (simp only [List.length_append]; omega)) (by first | omega | (simp only [List.length_append]; omega)) (fun v1 hv1 => E_ r_ (ak_ (ay_ (al_ (an_ (o_ r_ (bj_ r_ r_ g_ (M_ r_ ?_)))))))))))))))))))
      refine ak_ (jq_againS (i := (k, v)) (k + 1, v1) hltk (by dsimp only; omega) ?_ ?_)
      · dsimp only
        rw [hfs]
        exact bc_ 0 r_ (bc_ 0 r_ (bc_ 0 r_ sub_end))
      · (repeat (first | exact True.intro | refine ⟨rfl, ?_⟩))
    | false =>
      have hC := dmC_c g _ h (bef_bnd hltk) hh false hd
      rw [hd, if_neg (by simp), List.append_nil] at hfs
      refine R_ (o_ r_ (bw_ r_ r_ (T_ (am_ (aq_ r_ u_ (as_ (al_ (B_ (R_ (o_ r_ (cc_ r_ r_ g_ r_ r_ b_ (o_ r_ (cb_ r_ r_ (E_ r_ (T_ (R_ (A_ 2 r_ (M_ r_ ?_))))))))))))))))))
      refine M_ r_ (o_ r_ (bm_ r_ (hC) (T_ (ap_ r_ r_ (as_ (ay_ (al_ (an_ (o_ r_ (bj_ r_ r_ g_ (M_ r_ (ak_ (jq_againS (i := (k, v)) (k + 1, v) hltk (by dsimp only; omega) ?_ ?_)))))))))))))
      · dsimp only
        rw [hfs]
        exact bc_ 0 r_ (bc_ 0 r_ (bc_ 0 r_ sub_end))
      · (repeat (first | exact True.intro | refine ⟨rfl, ?_⟩))
  · have hltk2 : ¬ (k : Int) < (((befL g.blocks h).map Irow).length : Int) := by omega
    have ht : ((befL g.blocks h).take k).filter (fun b => dmB g.blocks h b.toNat) = latch g.blocks h := by rw [List.take_of_length_le (by omega)]; rfl
    rw [ht]
    have hll : (latch g.blocks h).length ≤ g.blocks.length := by rw [← ht]; exact Nat.le_trans (List.length_filter_le _ _) (by rw [List.length_take]; omega)
    clear ht
    have eLt : ((latch g.blocks h).map irow).length = (latch g.blocks h).length := List.length_map _
    by_cases hl0 : latch g.blocks h = []
    · have hl1 : (((latch g.blocks h).map irow).length : Int) = 0 := by rw [hl0]; rfl
      have hres : nodesR g.blocks h = [] := if_pos hl0
      refine R_ (o_ r_ (bw_ r_ r_ (T_ (am_ (ap_ r_ w_ (av_ (ax_ (ax_ (ba_ (al_ (am_ (R_ (M_ r_ (o_ r_ (cw_ 0 r_ r_ (fun hlen => o_ r_ (bn_ r_ r_ (T_ ?_))))))))))))))))))
      refine aq_ r_ u_ (R_ (E_ r_ (T_ (ar_ (aw_ (jq_ownNil 3 1 g_ (jq_freeze 4 0 rfl rfl (by rw [hc]; simp [hb]) (jq_ret1 rfl rfl [] rfl (fun K h => by rw [hres] at h; exact h)))))))))
    have hl1 : ¬ (((latch g.blocks h).map irow).length : Int) = 0 := by rw [eLt]; intro q; exact hl0 (List.eq_nil_of_length_eq_zero (by omega))
    have hres : nodesR g.blocks h = nodesF g.blocks h := if_neg hl0
    have eR : ((List.replicate g.blocks.length false).map brow).length = g.blocks.length := by simp
    have erl : (List.replicate g.blocks.length false).length = g.blocks.length := List.length_replicate
    have hini := NP.init (B := g.blocks) hh
    refine R_ (o_ r_ (bw_ r_ r_ (T_ (am_ (ap_ r_ w_ (av_ (ax_ (ax_ (ba_ (al_ (am_ (R_ (M_ r_ (o_ r_ (cw_ 0 r_ r_ (fun hlen => o_ r_ (bn_ r_ r_ (T_ ?_))))))))))))))))))
    refine ap_ r_ w_ (as_ (al_ (R_ (M_ r_ (M_ r_ (o_ r_ (ow_indexBo 1 r_ r_ r_ g_ r_ (ag_ (ow_storeBo 1 r_ r_ r_ g_ r_ (T_ (am_ ?_)))))))))))
    generalize hl0' : (List.replicate g.blocks.length false).set h true = l0 at hini
    have hl0'' : (List.replicate g.blocks.length false).set (h : Int).toNat true = l0 := hl0'
    rw [hl0'']
    have hdW := befW_dW g.blocks l0 hini.len
    have hM : g.blocks.length * (g.blocks.length + 1) ≤ 750 * 751 := Nat.mul_le_mul hsz.2 (by omega)
    clear hl0 hl0' hl0''
    refine jc_toQ 6 1 rfl rfl (au_ ?_)
    refine jc_loopS (ι := List Bool × Value × Nat × List Int) [] (fun i => NP g.blocks h i.1 (i.2.2.2.drop i.2.2.1) ∧ i.2.2.2.length + dW i.1 (befW g.blocks) ≤ 600000) (fun i => [(6, .cell (QC i.2.1 i.2.2.1 1)), (5, .cell (.val V)), (1, In .i64 (h : Int)), (2, Ptr bx)]) (fun i => [.own V 4 1 (i.1.map brow), .own i.2.1 3 1 (i.2.2.2.map irow), .blk bx 71 (ShF g)]) (fun i => dW i.1 (befW g.blocks) + (i.2.2.2.length - i.2.2.1)) (l0, v, 0, latch g.blocks h) ⟨hini, by dsimp only; omega⟩ ?_ ?_ ?_
    · exact bc_ 0 r_ (bc_ 0 r_ (bc_ 0 r_ sub_end))
    · (repeat (first | exact True.intro | refine ⟨rfl, ?_⟩))
    rintro ⟨l, q, m, L⟩ ⟨hP, hLn⟩
    dsimp only at hP hLn ⊢
    have eL : (L.map irow).length = L.length := List.length_map _
    have hll := hP.len
    have eO : (l.map brow).length = l.length := List.length_map _
    by_cases hlt : m < L.length
    · have hlt2 : ((L.map irow).length : Int) - (m : Int) > 0 := by omega
      obtain ⟨x, T, hT⟩ : ∃ x T, L.drop m = x :: T := by
        cases hd : L.drop m with
        | nil => have := congrArg List.length hd; rw [List.length_drop, List.length_nil] at this; omega
        | cons x T => exact ⟨x, T, rfl⟩
      obtain ⟨_, hT2⟩ := drop_lt hT
      rw [hT] at hP
      obtain ⟨hx0, hxl, _⟩ := hP.tv x (by simp)
      have hsk := fun q => NP.skip (t1 := []) hP q
      rw [List.nil_append, ← hT2] at hsk
      have htk := fun q1 q2 => NP.take hP q1 q2
      rw [← hT2] at htk
      have ix : x.toNat < (rchL g.blocks (-1)).length := by rw [rchL_len]; omega
      have ib : x.toNat < (befM g.blocks).length := by rw [befM_len]; omega
      cases c3 : l.getD x.toNat false with
      | true =>
        refine am_ (R_ (M_ r_ (o_ r_ (ow_lenQ 1 rfl rfl (fun _ => o_ r_ (bz_ r_ r_ (T_ (aq_ r_ u_ (as_ (al_ (au_ (R_ (M_ r_ (o_ r_ (ow_indexQ 1 rfl rfl rfl g_ (by rw [List.length_map] ; show m + 0 < _ ; omega) rfl (o_ r_ (ow_loadQI 1 r_ r_ r_ hT (E_ r_ (T_ ?_)))))))))))))))))))
        refine R_ (M_ r_ (o_ r_ (ow_sufQ 1 rfl rfl rfl rfl (by rw [List.length_map] ; omega) rfl (E_ r_ (T_ (am_ (R_ (M_ r_ (M_ r_ (o_ r_ (ow_indexBo 0 r_ r_ r_ g_ r_ (o_ r_ (ow_loadBoE 0 r_ r_ r_ g_ c3 (M_ r_ (ai_ r_ r_ b_ (ai_ r_ r_ b_ (ai_ r_ r_ b_ (ai_ r_ r_ b_ ?_))))))))))))))))))
        refine ai_ r_ r_ b_ (ai_ r_ r_ b_ (o_ r_ (bp_ r_ r_ r_ (T_ (aq_ r_ r_ (av_ (ax_ (ba_ (jq_againS (i := (l, q, m, L)) (l, q, m + 1, L) ⟨hsk (fun _ => getD_tr.1 c3), by dsimp only; omega⟩ (by dsimp only; omega) ?_ ?_)))))))))
        · exact bc_ 0 r_ (bc_ 0 r_ (bc_ 0 r_ sub_end))
        · (repeat (first | exact True.intro | refine ⟨rfl, ?_⟩))
      | false =>
        cases hal : (rchL g.blocks (-1))[x.toNat] with
        | false =>
          have hal2 : (!(rchL g.blocks (-1))[x.toNat]) = true := by rw [hal]; rfl
          have hna : ¬ alB g.blocks x.toNat = true := by rw [← alB_get ix, hal]; simp
          refine am_ (R_ (M_ r_ (o_ r_ (ow_lenQ 1 rfl rfl (fun _ => o_ r_ (bz_ r_ r_ (T_ (aq_ r_ u_ (as_ (al_ (au_ (R_ (M_ r_ (o_ r_ (ow_indexQ 1 rfl rfl rfl g_ (by rw [List.length_map] ; show m + 0 < _ ; omega) rfl (o_ r_ (ow_loadQI 1 r_ r_ r_ hT (E_ r_ (T_ ?_)))))))))))))))))))
          refine R_ (M_ r_ (o_ r_ (ow_sufQ 1 rfl rfl rfl rfl (by rw [List.length_map] ; omega) rfl (E_ r_ (T_ (am_ (R_ (M_ r_ (M_ r_ (o_ r_ (ow_indexBo 0 r_ r_ r_ g_ r_ (o_ r_ (ow_loadBoE 0 r_ r_ r_ g_ c3 (M_ r_ (ah_ r_ r_ b_ (bf_ r_ r_ r_ b_ (ah_ r_ r_ b_ (bg_ 2 r_ r_ r_ r_ (ah_ r_ r_ b_ (bd_ r_ (ah_ r_ r_ b_ (cv_ r_ r_ g_ g_ r_ r_ b_ ?_))))))))))))))))))))))
          refine ah_ r_ r_ b_ (cb_ r_ r_ (ah_ r_ r_ b_ (cd_ r_ (o_ r_ (bv_ r_ r_ r_ (T_ (aq_ r_ h_ (av_ (ax_ (ba_ (jq_againS (i := (l, q, m, L)) (l, q, m + 1, L) ⟨hsk (fun q => absurd q hna), by dsimp only; omega⟩ (by dsimp only; omega) ?_ ?_)))))))))))
          · exact bc_ 0 r_ (bc_ 0 r_ (bc_ 0 r_ sub_end))
          · (repeat (first | exact True.intro | refine ⟨rfl, ?_⟩))
        | true =>
          have hal2 : (!(rchL g.blocks (-1))[x.toNat]) = false := by rw [hal]; rfl
          have ha : alB g.blocks x.toNat = true := by rw [← alB_get ix]; exact hal
          have hp := htk ha (ntr_getD c3)
          have hxlt : x.toNat < l.length := by omega
          have hset := dW_set (l := l) (ws := befW g.blocks) (b := x.toNat) (by rw [befW_length]; omega) hxlt (by rw [List.getD_eq_getElem?_getD, List.getElem?_eq_getElem hxlt] at c3; exact c3)
          rw [befW_get (by omega)] at hset
          have hrx : ((befM g.blocks).map Lrow)[x.toNat]? = some (Lrow (befL g.blocks x.toNat)) := by rw [List.getElem?_map, List.getElem?_eq_getElem ib, befM_get]; rfl
          refine am_ (R_ (M_ r_ (o_ r_ (ow_lenQ 1 rfl rfl (fun _ => o_ r_ (bz_ r_ r_ (T_ (aq_ r_ u_ (as_ (al_ (au_ (R_ (M_ r_ (o_ r_ (ow_indexQ 1 rfl rfl rfl g_ (by rw [List.length_map] ; show m + 0 < _ ; omega) rfl (o_ r_ (ow_loadQI 1 r_ r_ r_ hT (E_ r_ (T_ ?_)))))))))))))))))))
          refine R_ (M_ r_ (o_ r_ (ow_sufQ 1 rfl rfl rfl rfl (by rw [List.length_map] ; omega) rfl (E_ r_ (T_ (am_ (R_ (M_ r_ (M_ r_ (o_ r_ (ow_indexBo 0 r_ r_ r_ g_ r_ (o_ r_ (ow_loadBoE 0 r_ r_ r_ g_ c3 (M_ r_ (ah_ r_ r_ b_ (bf_ r_ r_ r_ b_ (ah_ r_ r_ b_ (bg_ 2 r_ r_ r_ r_ (ah_ r_ r_ b_ (bd_ r_ (ah_ r_ r_ b_ (cv_ r_ r_ g_ g_ r_ r_ b_ ?_))))))))))))))))))))))
          refine ah_ r_ r_ b_ (cb_ r_ r_ (ah_ r_ r_ b_ (cd_ r_ (o_ r_ (bv_ r_ r_ r_ (T_ (ap_ r_ h_ (as_ (al_ (R_ (M_ r_ (M_ r_ (o_ r_ (ow_indexBo 0 r_ r_ r_ g_ r_ (ag_ (ow_storeBo 0 r_ r_ r_ g_ r_ (T_ (an_ (M_ r_ (F_ r_ ?_))))))))))))))))))))
          refine L_ 2 r_ (M_ r_ (o_ r_ (ow_indexAddrN x.toNat r_ r_ g_ hrx r_ b_ (o_ r_ (cb_ r_ r_ (o_ r_ (ow_appendQM 1 (f := irow) (l1 := L) (l2 := befL g.blocks x.toNat) rfl rfl rfl rfl rfl rfl rfl (fun _ => rfl) (by show (_ + _) * 8 ≤ _ ; omega) (by show _ + _ ≤ _ ; omega) (fun q2 m2 L2 hq2 hm2 hL2 hl2 => E_ r_ (ak_ (ay_ ?_))))))))))
          have hlen2 := congrArg List.length hL2
          rw [List.length_append, List.length_drop, List.length_drop] at hlen2
          rw [← hL2] at hp
          refine jq_againS (i := (l, q, m, L)) (l.set x.toNat true, q2, m2, L2) ⟨hp, by dsimp only; omega⟩ (by dsimp only; omega) ?_ ?_
          · exact bc_ 1 r_ (bc_ 0 r_ (bc_ 0 r_ sub_end))
          · (repeat (first | exact True.intro | refine ⟨rfl, ?_⟩))
    · have hlt2 : ¬ ((L.map irow).length : Int) - (m : Int) > 0 := by omega
      rw [List.drop_eq_nil_of_le (by omega)] at hP
      have hfin := hP.fin
      subst hfin
      have hml : (lpL g.blocks h).length = g.blocks.length := hll
      refine am_ (R_ (M_ r_ (o_ r_ (ow_lenQ 1 rfl rfl (fun _ => o_ r_ (bz_ r_ r_ (T_ (ap_ r_ w_ (av_ (ax_ (ax_ (ba_ (al_ (R_ (E_ r_ (T_ (am_ ?_)))))))))))))))))
      refine R_ (M_ r_ (o_ r_ (cw_ 0 r_ r_ (fun hlen => M_ r_ (T_ (au_ (jc_ownNil 3 1 g_ ?_)))))))
      refine jc_loopS (ι := Nat × Value) [] (fun i => i.1 ≤ (lpL g.blocks h).length) (fun i => (74, In .i64 (i.1 : Int)) :: [(72, .cell (.val V)), (73, In .i64 (((lpL g.blocks h).map brow).length : Int)), (10, .cell (.val i.2)), (2, Ptr bx)]) (fun i => [.own i.2 3 1 ((idxT 0 ((lpL g.blocks h).take i.1)).map irow), .own V 4 1 ((lpL g.blocks h).map brow), .blk bx 71 (ShF g)]) (fun i => (lpL g.blocks h).length - i.1) (0, .slice none 0 0) (Nat.zero_le _) ?_ ?_ ?_
      · exact bc_ 0 r_ (bc_ 0 r_ (bc_ 1 r_ sub_end))
      · (repeat (first | exact True.intro | refine ⟨rfl, ?_⟩))
      rintro ⟨k, u⟩ hz
      dsimp only at hz ⊢
      obtain hk := hz
      have eLk : ((lpL g.blocks h).map brow).length = (lpL g.blocks h).length := List.length_map _
      by_cases hltk : k < (lpL g.blocks h).length
      · have hltk2 : (k : Int) < (((lpL g.blocks h).map brow).length : Int) := by omega
        have hil := idxT_len ((lpL g.blocks h).take k) 0
        rw [List.length_take] at hil
        have hsn := idxT_snoc ((lpL g.blocks h).take k) 0 ((lpL g.blocks h)[k])
        rw [← List.take_succ_eq_append_getElem hltk, List.length_take, Nat.min_eq_left (by omega), Nat.zero_add] at hsn
        have hgd : (lpL g.blocks h).getD k false = (lpL g.blocks h)[k] := by rw [List.getD_eq_getElem?_getD, List.getElem?_eq_getElem hltk]; rfl
        cases hd : (lpL g.blocks h)[k] with
        | true =>
          rw [hd] at hgd
          rw [hd, if_pos rfl] at hsn
          refine R_ (o_ r_ (bw_ r_ r_ (T_ (am_ (aq_ r_ u_ (as_ (al_ (B_ (R_ (M_ r_ (o_ r_ (ow_indexBo 1 r_ r_ r_ g_ r_ (o_ r_ (ow_loadBoE 1 r_ r_ r_ g_ hgd (E_ r_ (E_ r_ (T_ (R_ ?_))))))))))))))))))
          refine M_ r_ (T_ (aq_ r_ r_ (an_ (M_ r_ (M_ r_ (o_ r_ (bq_ r_ r_ b_ r_ r_ b_ (o_ r_ (ow_append1 0 ((k : Int)) rfl rfl rfl rfl rfl rfl rfl (fun _ => rfl) (by show (_ + _) * 8 ≤ _; first | omega | (simp only [List.length_append]; omega)) (by first | omega | (simp only [List.length_append]; omega)) (fun v1 hv1 => E_ r_ (ak_ (ay_ (al_ (an_ (o_ r_ (bj_ r_ r_ g_ (M_ r_ (ak_ ?_))))))))))))))))))
          refine jq_againS (i := (k, u)) (k + 1, v1) hltk (by dsimp only; omega) ?_ ?_
          · dsimp only
            rw [hsn]
            exact bc_ 0 r_ (bc_ 0 r_ (bc_ 0 r_ sub_end))
          · (repeat (first | exact True.intro | refine ⟨rfl, ?_⟩))
        | false =>
          rw [hd] at hgd
          rw [hd, if_neg (by simp), List.append_nil] at hsn
          refine R_ (o_ r_ (bw_ r_ r_ (T_ (am_ (aq_ r_ u_ (as_ (al_ (B_ (R_ (M_ r_ (o_ r_ (ow_indexBo 1 r_ r_ r_ g_ r_ (o_ r_ (ow_loadBoE 1 r_ r_ r_ g_ hgd (E_ r_ (E_ r_ (T_ (R_ ?_))))))))))))))))))
          refine M_ r_ (T_ (ap_ r_ r_ (as_ (ay_ (al_ (an_ (o_ r_ (bj_ r_ r_ g_ (M_ r_ (ak_ (jq_againS (i := (k, u)) (k + 1, u) hltk (by dsimp only; omega) ?_ ?_)))))))))))
          · dsimp only
            rw [hsn]
            exact bc_ 0 r_ (bc_ 0 r_ (bc_ 0 r_ sub_end))
          · (repeat (first | exact True.intro | refine ⟨rfl, ?_⟩))
      · have hltk2 : ¬ (k : Int) < (((lpL g.blocks h).map brow).length : Int) := by omega
        have ht : idxT 0 ((lpL g.blocks h).take k) = nodesR g.blocks h := by rw [List.take_of_length_le (by omega), hres, nodes_idx]
        rw [ht]
        refine R_ (o_ r_ (bw_ r_ r_ (T_ (am_ (ap_ r_ w_ (av_ (ax_ (ax_ (ba_ (al_ (R_ (M_ r_ (E_ r_ (T_ (ar_ (jq_freeze 4 0 rfl rfl (by rw [hc]; simp [hb]) ?_))))))))))))))))
        refine jq_ret1 rfl rfl [] rfl (fun K h => h)
      
end Go.Proofs.Ytpolnonbgaolkaa
end

section
namespace Go.Vc
open Go.RowKit
set_option maxHeartbeats 1000000

/-- What is read as a list, wherever it lies. -/
def LstAt (w : World) (A : Nat → Prop) (rows : List (List C)) (x : Value) : Prop := ∃ a cap, x = .slice a rows.length cap ∧ (rows.length = 0 ∨ ∃ b off vs k, a = some ⟨b, off, none⟩ ∧ Cells w b off vs ∧ 0 < k ∧ RdRows w A k rows vs)
section
variable {P : Program} [Gl P] {nt : Nat} {c : Cx P nt} {env : Env} {H : List Ch} {K : S → List Ch → Prop}
variable {d : Option Tmp} {ty t t' : TypeId} {pos : String} {af : Array Edge} {g : Option (Nat × Bool)} {x y : Operand}
theorem ow_append0L {v : Value} {k : Nat} {rows rows2 : List (List C)} {Hr : List Ch} [SL P t] {z : Value} (j : Nat) (hz : (TI.i P (SL.e P t)).zero = some z)
    (hzs : z.cells.size = k) (hsz : (TI.i P (SL.e P t)).size = k) (hx : env.ev x = some (.cell (.val v))) (hy : ∀ a w, St c env H a w → LstAt w (c.av H) rows2 (a.eval y)) (hp : pick [j] H = some ([.own v (SL.e P t) k rows], Hr))
    (hrow : ∀ row ∈ rows2, row.length = k) (hlim : (rows.length + rows2.length) * (TI.i P (SL.e P t)).bytes ≤ 140737488355328) (hlim2 : rows.length + rows2.length ≤ 9223372036854775807)
    (hK : ∀ v', v'.oneCell' = true → (c.Fresh v → c.Fresh v') → K (.cell (.val v')) (.own v' (SL.e P t) k (rows ++ rows2) :: Hr)) :
    OpWp c ⟨d, .call { callee := .builtin .append, args := #[x, y], argTypes := #[t, t] }, ty, pos, af, g⟩ env H K := by
  intro a w h next Q hn
  have hperm := pick_perm hp
  have h' : StW c (.own v (SL.e P t) k rows :: Hr) w := h.heap.perm hperm
  have hav : c.av (.own v (SL.e P t) k rows :: Hr) = c.av H := av_perm c hperm
  obtain ⟨vs, ho, hr, hk⟩ := h'.ok (.own v (SL.e P t) k rows) (by simp)
  have h1x := ev_val h hx
  obtain ⟨ad, cap, hye, hcase⟩ := hy a w h
  -- what a good outcome is
  have fin : ∀ v' w' vs2, (Builtin.append_ #[t, t] ty #[v, a.eval y]).run P w = .ok v' w' → w'.ownsRow 0 (SL.e P t) k v' (rows.length + rows2.length) (vs ++ vs2) → w.grownBy w' v.ownBlock → (∀ b, v'.ownBlock = some b → v.ownBlock = some b ∨ w.heap.size ≤ b) → RdRows w (c.av H) k rows2 vs2 →
      Oper.wp P ⟨d, .call { callee := .builtin .append, args := #[x, y], argTypes := #[t, t] }, ty, pos, af, g⟩ a w next Q := by
    intro v' w' vs2 hrun ho' hg hnew hr2
    have hgr : Grow (hb [.own v (SL.e P t) k rows]) w w' := by
      have := Grow.of_grownBy hg
      simpa [hb, Ch.bs] using this
    have hAold : ∀ b, c.av (.own v' (SL.e P t) k (rows ++ rows2) :: Hr) b → c.av H b ∨ w.heap.size ≤ b := by
      intro b hbm
      rcases hbm with hbm | hbm
      · exact .inl (.inl hbm)
      · simp only [hb_cons, Ch.bs, List.mem_append, Option.mem_toList] at hbm
        rw [← hav]
        rcases hbm with hbm | hbm
        · rcases hnew b hbm with h1 | h1
          · exact .inl (.inr (by simp [hb_cons, Ch.bs, h1]))
          · exact .inr h1
        · exact .inl (.inr (by simp only [hb_cons, List.mem_append]; exact .inr hbm))
    have hupA : Up (c.av H) w w' := by
      refine hgr.up (fun b hbm => ?_)
      rw [← hav]
      exact .inr (by simp only [hb, List.flatMap_cons, List.flatMap_nil, List.append_nil] at hbm; simp only [hb_cons, List.mem_append]; exact .inl hbm)
    obtain ⟨s1, s2⟩ := StW.step (H1 := [.own v (SL.e P t) k rows]) (H1' := [.own v' (SL.e P t) k (rows ++ rows2)]) h' hgr
      (by
        intro b hbm
        simp only [hb, Ch.bs, List.flatMap_cons, List.flatMap_nil, List.append_nil, Option.mem_toList] at hbm ⊢
        exact hnew b hbm)
      (by cases hv : v'.ownBlock <;> simp [hb, Ch.bs, hv])
      (by
        intro ch hch
        simp only [List.mem_singleton] at hch
        subst hch
        refine ⟨vs ++ vs2, ?_, ?_, hk⟩
        · rw [List.length_append]; exact ho'
        · refine rdRows_append (rdRows_up hupA hAold k rows vs (hav ▸ hr)) (rdRows_up hupA hAold k rows2 vs2 hr2))
    unfold Oper.wp
    have hex : (execOp a.eval ⟨d, .call { callee := .builtin .append, args := #[x, y], argTypes := #[t, t] }, ty, pos, af, g⟩).run P w = .ok (.value v') w' := by
      simp only [execOp, resolve, invoke, builtin, Sem.run_bind, Sem.run_pure, Result.andThen_ok, List.map_toArray, List.map_cons, List.map_nil, h1x, hrun]
    rw [hex]
    obtain ⟨al, ac, hv'⟩ := own_len ho'
    have h1' : v'.oneCell' = true := by rw [hv']; rfl
    exact hn _ _ _ _ (hK v' h1' (fun hf b hb => (hnew b hb).elim (hf b) (fun h => Nat.le_trans h'.size h))) s1 ⟨rfl, h1'⟩ (fun s v hs => s2 s v (by rw [List.singleton_append, hav]; exact hs))
  by_cases hzero : rows2.length = 0
  · have h0 : rows2 = [] := List.eq_nil_of_length_eq_zero hzero
    subst h0
    cases ad with
    | none =>
      have hrun : (Builtin.append_ #[t, t] ty #[v, a.eval y]).run P w = .ok v w := by
        obtain ⟨al, ac, hv⟩ := own_len ho
        have hacc : rows.length ≤ ac := by
          rcases ho.2 with ⟨rfl, h0⟩ | ⟨g', cap', cur, rfl, _, _, hle, _⟩
          · simp only [Value.slice.injEq] at hv; omega
          · simp only [Value.slice.injEq] at hv; omega
        rw [hye, hv]
        simp [Builtin.append_, run_elem t, run_sizeOf, Builtin.lenOf, Builtin.firstCells, hacc, storeCells]
        cases al <;> simp
      exact fin v w [] hrun (by simpa using ho) ⟨rfl, rfl, rfl, Nat.le_refl _, fun _ _ _ => rfl⟩ (fun b hb => .inl hb) rfl
    | some ad =>
      obtain ⟨v', w', hrun, ho', hg, _⟩ := run_append_own (P := P) w 0 t ty (SL.e P t) (TI.i P (SL.e P t)) z k _ SL.hs (TI.hi) hz hsz rfl hzs hk v rows.length vs ho ad 0 cap [] (by simp) (by simp) (by simp) (by unfold maxLen; simp at hlim2 ⊢; omega) (by simpa using hlim) (Nat.zero_le _)
      have hye' : a.eval y = .slice (some ad) 0 cap := hye
      rw [← hye'] at hrun
      refine fin v' w' [] hrun (by simpa using ho') hg ?_ rfl
      intro b hb
      by_cases hlt : b < w.heap.size
      · obtain ⟨al, ac, hv⟩ := own_len ho
        have hacc : rows.length ≤ ac := by
          rcases ho.2 with ⟨rfl, h0⟩ | ⟨g', cap', cur, rfl, _, _, hle, _⟩
          · simp only [Value.slice.injEq] at hv; omega
          · simp only [Value.slice.injEq] at hv; omega
        left
        rw [hye', hv] at hrun
        simp [Builtin.append_, run_elem t, run_sizeOf, Builtin.lenOf, Builtin.firstCells, hacc, loadCells, loadCellsFrom] at hrun
        cases al with
        | none =>
          simp at hrun
          rw [← hrun.1] at hb
          simp [Value.ownBlock] at hb
        | some al =>
          simp [storeCells] at hrun
          rw [← hrun.1] at hb
          rw [hv]
          exact hb
      · exact .inr (by omega)
  · rcases hcase with hcase | ⟨b, off, vs2, k2, rfl, hc2, hk2, hr2⟩
    · exact absurd hcase hzero
    · have hk2' : k2 = k := by
        match rows2, hr2, hrow, hzero with
        | r0 :: _, hr2, hrow, _ =>
          obtain ⟨c1, _, _, h1, h2, _⟩ := hr2
          rw [← h1, rdRow_length h2]
          exact hrow r0 (by simp)
      subst hk2'
      obtain ⟨v', w', hrun, ho', hg, _⟩ := run_append_own (P := P) w 0 t ty (SL.e P t) (TI.i P (SL.e P t)) z k2 _ SL.hs (TI.hi) hz hsz rfl hzs hk v rows.length vs ho ⟨b, off, none⟩ rows2.length cap vs2 (rdRows_length hr2) (by intro j u hj; rw [add_at]; exact hc2 j u hj) (rdRows_one hr2) (by unfold maxLen; omega) hlim (Nat.zero_le _)
      rw [← hye] at hrun
      refine fin v' w' vs2 hrun ho' hg ?_ hr2
      intro b' hb'
      by_cases hlt : b' < w.heap.size
      · left
        -- the row of v' is v's own, or new
        rcases ho.2 with ⟨rfl, h0⟩ | ⟨g', cap', cur, rfl, _, hh, hle, hcm, hcs, _⟩
        · exfalso
          have hr' := run_append_nil (P := P) w t ty (SL.e P t) (TI.i P (SL.e P t)) z SL.hs TI.hi hz ⟨b, off, none⟩ rows2.length cap vs2 (by rw [hsz]; exact rdRows_length hr2) (by intro j u hj; rw [add_at]; exact hc2 j u hj) (by omega) (by omega) (by have hbb := hlim; rw [h0] at hbb; simp only [Nat.zero_add] at hbb; omega)
          rw [hye, hr'] at hrun
          simp only [Result.ok.injEq] at hrun
          rw [← hrun.1] at hb'
          simp [Value.ownBlock] at hb'
          omega
        · by_cases hroom : rows.length + rows2.length ≤ cap'
          · have hfit : rows.length * k2 + vs2.length ≤ cur.size := by rw [rdRows_length hr2, hcs, ← Nat.add_mul]; exact Nat.mul_le_mul_right _ hroom
            have hr' := run_append_room (P := P) w t ty (SL.e P t) (TI.i P (SL.e P t)) SL.hs TI.hi g' rows.length cap' cur hh ⟨b, off, none⟩ rows2.length cap vs2 (by rw [hsz]; exact rdRows_length hr2) (by intro j u hj; rw [add_at]; exact hc2 j u hj) (rdRows_one hr2) hroom (by rw [hsz]; exact hfit)
            rw [hye, hr'] at hrun
            simp only [Result.ok.injEq] at hrun
            rw [← hrun.1] at hb'
            exact hb'
          · exfalso
            have holds : ∀ j u, vs[j]? = some u → w.cell? ((⟨g', 0, none⟩ : Addr).add j) = some u := ho.cells (g := g') rfl
            have hr' := run_append_grow (P := P) w t ty (SL.e P t) (TI.i P (SL.e P t)) z SL.hs TI.hi hz ⟨g', 0, none⟩ rows.length cap' vs (by rw [hsz]; exact ho.1) holds ⟨b, off, none⟩ rows2.length cap vs2 (by rw [hsz]; exact rdRows_length hr2) (by intro j u hj; rw [add_at]; exact hc2 j u hj) (by omega) (by omega) (growslice_fits (by omega) hlim)
            rw [hye, hr'] at hrun
            simp only [Result.ok.injEq] at hrun
            rw [← hrun.1] at hb'
            simp [Value.ownBlock] at hb'
            omega
      · exact .inr (by omega)
/-- What lies behind the first m elements of a slice of one's own. -/
theorem lst_suf {w : World} {A : Nat → Prop} {v : Value} {e : TypeId} {k m : Nat} {rows : List (List C)} (h : (Ch.own v e k rows).ok w A) (hm : m ≤ rows.length) : LstAt w A (rows.drop m) (sufV v m k) := by
  obtain ⟨vs, ho, hr, hk⟩ := h
  have hl : (rows.drop m).length = rows.length - m := List.length_drop
  rcases ho.2 with ⟨rfl, h0⟩ | ⟨b, cap, cur, rfl, _, hh, hle, hcm, hcs, htk⟩
  · exact ⟨_, _, by rw [hl, h0]; rfl, .inl (by omega)⟩
  · refine ⟨_, _, by rw [hl]; rfl, ?_⟩
    by_cases hlt : m < rows.length
    · have hcap : cap ≠ m := by omega
      refine .inr ⟨b, m * k, vs.drop (m * k), k, by rw [if_neg hcap]; simp [add_at], ?_, hk, rdRows_drop m hr⟩
      have hc : Cells w b 0 vs := by
        intro j u hj
        have := ho.cells (g := b) rfl j u hj
        rwa [add_at] at this
      have := cells_drop hc (m * k)
      rwa [Nat.zero_add] at this
    · exact .inl (by omega)
theorem ow_appendSuf {v u : Value} {e : TypeId} {k m : Nat} {rows rows2 : List (List C)} {Hr Hr2 : List Ch} [SL P t] {z : Value} (j j2 : Nat) (hx : env.ev x = some (.cell (.val v))) (hp : pick [j] H = some ([.own v e k rows], Hr)) (hy : env.ev y = some (.cell (.val (sufV u m k))))
    (hp2 : pick [j2] H = some ([.own u e k rows2], Hr2)) (hm : m ≤ rows2.length) (he : SL.e P t = e) (hz : (TI.i P (SL.e P t)).zero = some z) (hzs : z.cells.size = k) (hsz : (TI.i P (SL.e P t)).size = k) (hrow : ∀ row ∈ rows2, row.length = k)
    (hlim : (rows.length + (rows2.length - m)) * (TI.i P (SL.e P t)).bytes ≤ 140737488355328) (hlim2 : rows.length + (rows2.length - m) ≤ 1000000000)
    (hK : ∀ v', v'.oneCell' = true → K (.cell (.val v')) (.own v' e k (rows ++ rows2.drop m) :: Hr)) :
    OpWp c ⟨d, .call { callee := .builtin .append, args := #[x, y], argTypes := #[t, t] }, ty, pos, af, g⟩ env H K := by
  subst he
  refine ow_append0L (rows2 := rows2.drop m) j hz hzs hsz hx (fun a w h => ?_) hp (fun row hr => hrow row (List.mem_of_mem_drop hr)) (by rw [List.length_drop]; exact hlim) (by rw [List.length_drop]; omega) (fun v' h1 _ => hK v' h1)
  rw [ev_val h hy]
  exact lst_suf (h.heap.ok (.own u (SL.e P t) k rows2) ((pick_perm hp2).mem_iff.2 (by simp))) hm
theorem lst_own {w : World} {A : Nat → Prop} {v : Value} {e : TypeId} {k : Nat} {rows : List (List C)} (h : (Ch.own v e k rows).ok w A) : LstAt w A rows v := by
  obtain ⟨vs, ho, hr, hk⟩ := h
  rcases ho.2 with ⟨rfl, h0⟩ | ⟨b, cap, cur, rfl, _, hh, hle, hcm, hcs, htk⟩
  · exact ⟨none, 0, by rw [h0], .inl h0⟩
  · refine ⟨_, _, rfl, .inr ⟨b, 0, vs, k, rfl, ?_, hk, hr⟩⟩
    intro j u hj
    have := ho.cells (g := b) rfl j u hj
    rwa [add_at] at this
/-- Put behind the first m elements of a slice: what another one holds. -/
theorem ow_appendTrim {v u : Value} {e : TypeId} {k m : Nat} {rows rows2 : List (List C)} {Hr Hr2 : List Ch} [SL P t] {z : Value} (j j2 : Nat) (hx : env.ev x = some (.cell (.val (trimV v m)))) (hp : pick [j] H = some ([.own v e k rows], Hr)) (hy : env.ev y = some (.cell (.val u)))
    (hp2 : pick [j2] Hr = some ([.own u e k rows2], Hr2)) (hm : m ≤ rows.length) (he : SL.e P t = e) (hz : (TI.i P (SL.e P t)).zero = some z) (hzs : z.cells.size = k) (hsz : (TI.i P (SL.e P t)).size = k) (hrow : ∀ row ∈ rows2, row.length = k)
    (hlim : (m + rows2.length) * (TI.i P (SL.e P t)).bytes ≤ 140737488355328) (hlim2 : m + rows2.length ≤ 1000000000)
    (hK : ∀ v', v'.oneCell' = true → K (.cell (.val v')) (.own v' e k (rows.take m ++ rows2) :: Hr)) :
    OpWp c ⟨d, .call { callee := .builtin .append, args := #[x, y], argTypes := #[t, t] }, ty, pos, af, g⟩ env H K := by
  subst he
  have hl : (rows.take m).length = m := by rw [List.length_take]; omega
  have hav : c.av (.own (trimV v m) (SL.e P t) k (rows.take m) :: Hr) = c.av H := by
    rw [← av_perm c (pick_perm hp)]
    have hob : (trimV v m).ownBlock = v.ownBlock := by
      cases v
      case slice p _ _ => cases p <;> rfl
      all_goals rfl
    funext b
    simp only [Cx.av, hb_cons, Ch.bs, hob, List.singleton_append]
  intro a w hs next Q hn
  refine (?_ : OpWp c _ env (.own (trimV v m) (SL.e P t) k (rows.take m) :: Hr) K) a w (st_trim m hs hp hm) next Q (fun s H' v' w' hK h1 h2 h3 => hn s H' v' w' hK h1 h2 (fun s v h => h3 s v (by rw [hav]; exact h)))
  refine ow_append0L (rows := rows.take m) (rows2 := rows2) (H := .own (trimV v m) (SL.e P t) k (rows.take m) :: Hr) 0 hz hzs hsz hx (fun a w h => ?_) rfl hrow (by rw [hl]; exact hlim) (by rw [hl]; omega) (fun v' h1 _ => hK v' h1)
  rw [ev_val h hy]
  exact lst_own (h.heap.ok (.own u (SL.e P t) k rows2) (List.mem_cons_of_mem _ ((pick_perm hp2).mem_iff.2 (by simp))))
section
variable {Sw : World → Prop}
theorem hok_trim [SL P t] {v : Value} {e : TypeId} {k : Nat} {rows : List (List C)} {Hr : List Ch} {m : Int} (j : Nat) (hx : env.ev x = some (.cell (.val v))) (hp : pick [j] H = some ([.own v e k rows], Hr)) (hy : env.ev y = some (In .i64 m)) (h0 : 0 ≤ m) (hle : m.toNat ≤ rows.length) :
    HOk c Sw env H ⟨d, .slice t x none (some y) none, ty, pos, af, none⟩ (.cell (.val (trimV v m.toNat))) :=
  fun a w h _ => by
    obtain ⟨vs, ho, _, _⟩ := h.heap.ok (.own v e k rows) ((pick_perm hp).mem_iff.2 (by simp))
    have key : ∃ p n cap, v = .slice p n cap ∧ m.toNat ≤ cap := by
      rcases ho.2 with ⟨rfl, h0⟩ | ⟨b, cap, cur, rfl, _, _, h1, _⟩
      · exact ⟨none, 0, 0, rfl, by omega⟩
      · exact ⟨_, _, _, rfl, by omega⟩
    obtain ⟨p, n, cap, rfl, hcap⟩ := key
    refine ⟨.slice p m.toNat cap, fun w' _ => ?_, rfl, rfl⟩
    have hb : 0 ≤ m ∧ m ≤ (cap : Int) := ⟨h0, by omega⟩
    simp [execOp, ev_val h hx, ev_val h hy, Instr.sliceAt, Instr.slice, Instr.sliceBounds, Instr.sliceBound, asIntOf, run_elem t, run_sizeOf, hb]
    intro _
    cases p <;> simp [Addr.add]
theorem hok_sufOwn [SL P t] {v : Value} {e : TypeId} {k : Nat} {rows : List (List C)} {Hr : List Ch} {m : Int} (j : Nat) (hx : env.ev x = some (.cell (.val v))) (hp : pick [j] H = some ([.own v e k rows], Hr)) (hy : env.ev y = some (In .i64 m)) (h0 : 0 ≤ m) (hle : m.toNat ≤ rows.length)
    (hz : (TI.i P (SL.e P t)).size = k) : HOk c Sw env H ⟨d, .slice t x (some y) none none, ty, pos, af, none⟩ (.cell (.val (sufV v m.toNat k))) :=
  fun a w h _ => by
    obtain ⟨vs, ho, _, _⟩ := h.heap.ok (.own v e k rows) ((pick_perm hp).mem_iff.2 (by simp))
    have key : ∃ p cap, v = .slice p rows.length cap := by
      rcases ho.2 with ⟨rfl, h0⟩ | ⟨b, cap, cur, rfl, _, _, h1, _⟩
      · exact ⟨none, 0, by rw [h0]⟩
      · exact ⟨_, _, rfl⟩
    obtain ⟨p, cap, rfl⟩ := key
    refine ⟨sufV (.slice p rows.length cap) m.toNat k, fun w' _ => ?_, rfl, rfl⟩
    have hb : 0 ≤ m ∧ m ≤ (rows.length : Int) := ⟨h0, by omega⟩
    simp [execOp, ev_val h hx, ev_val h hy, Instr.sliceAt, Instr.slice, Instr.sliceBounds, Instr.sliceBound, asIntOf, run_elem t, run_sizeOf, hb, sufV, hz]
end
end
end Go.Vc
end

section
namespace Go.Vc
open Go.RowKit
set_option maxHeartbeats 1000000

section
variable {α : Type}
def famG (f : α → List C) (e : TypeId) (vs : List Value) (Ls : List (List α)) : List FamE := List.zipWith (fun v L => (v, e, 1, L.map f)) vs Ls
theorem famG_len {f : α → List C} {e : TypeId} {vs : List Value} {Ls : List (List α)} (h : vs.length = Ls.length) : (famG f e vs Ls).length = Ls.length := by simp [famG, h]
theorem famG_get {f : α → List C} {e : TypeId} {vs : List Value} {Ls : List (List α)} {i : Nat} (h1 : i < vs.length) (h2 : i < Ls.length) : (famG f e vs Ls)[i]? = some (vs[i], e, 1, (Ls[i]).map f) := by
  unfold famG
  rw [List.getElem?_zipWith, List.getElem?_eq_getElem h1, List.getElem?_eq_getElem h2]
theorem famG_set (f : α → List C) (e : TypeId) (v : Value) (L : List α) : ∀ (vs : List Value) (Ls : List (List α)) (i : Nat), (famG f e vs Ls).set i (v, e, 1, L.map f) = famG f e (vs.set i v) (Ls.set i L)
  | [], Ls, i => by simp [famG]
  | _ :: _, [], i => by simp [famG]
  | a :: vs, A :: Ls, 0 => rfl
  | a :: vs, A :: Ls, i + 1 => by
    have := famG_set f e v L vs Ls i
    simp only [famG, List.set_cons_succ, List.zipWith_cons_cons] at this ⊢
    rw [this]
theorem famG_holds {f : α → List C} {e : TypeId} {vs : List Value} {Ls : List (List α)} (h : vs.length = Ls.length) : Holds1 0 (vs.map vrow) (famG f e vs Ls) := by
  refine ⟨by rw [List.length_map, famG_len h, h], fun i h1 h2 => ?_⟩
  rw [List.length_map] at h1
  have h3 : i < Ls.length := by omega
  have := famG_get (f := f) (e := e) h1 h3
  rw [List.getElem?_eq_getElem h2, Option.some.injEq] at this
  rw [this, List.getElem_map]
  rfl
theorem famG_frz {f : α → List C} {e : TypeId} : ∀ {vs : List Value} {Ls : List (List α)}, vs.length = Ls.length → frz 0 (vs.map vrow) (famG f e vs Ls) = Ls.map fun L => [.list (L.map f)]
  | [], [], _ => rfl
  | [], _ :: _, h => by simp at h
  | _ :: _, [], h => by simp at h
  | v :: vs, L :: Ls, h => by
    have := famG_frz (f := f) (e := e) (vs := vs) (Ls := Ls) (by simpa using h)
    simp only [frz, famG, List.map_cons, List.zipWith_cons_cons] at this ⊢
    rw [this]
    rfl
theorem famG_nil (f : α → List C) (e : TypeId) (n : Nat) : List.replicate n (Value.slice none 0 0, e, 1, ([] : List (List C))) = famG f e (List.replicate n (Value.slice none 0 0)) (List.replicate n []) := by
  unfold famG
  rw [List.zipWith_replicate, Nat.min_self]
  rfl
section
variable {H : List Ch}
theorem famG_out {j : Nat} {f : α → List C} {e : TypeId} {vs : List Value} {Ls : List (List α)} {Hr : List Ch} (i : Nat) (h1 : i < vs.length) (h2 : i < Ls.length) (hp : pick [j] H = some ([.fam (famG f e vs Ls)], Hr)) :
    (flatF H).Perm (flatF (.own vs[i] e 1 ((Ls[i]).map f) :: .fam ((famG f e vs Ls).eraseIdx i) :: Hr)) := fam_out i hp (famG_get h1 h2)
theorem famG_in {f : α → List C} {j j2 : Nat} {v : Value} {e : TypeId} {L : List α} {vs : List Value} {Ls : List (List α)} {Hr : List Ch} (i : Nat) (h1 : i < vs.length) (h2 : i < Ls.length) (hp : pick [j, j2] H = some ([.own v e 1 (L.map f), .fam ((famG f e vs Ls).eraseIdx i)], Hr)) :
    (flatF H).Perm (flatF (.fam (famG f e (vs.set i v) (Ls.set i L)) :: Hr)) := by
  rw [← famG_set]
  refine fam_in i ?_ hp
  simp only [famG, List.length_zipWith]
  omega
theorem famG_inE {f : α → List C} {j j2 : Nat} {v : Value} {e : TypeId} {L : List α} {vs : List Value} {Ls Ls' : List (List α)} {Hr : List Ch} (i : Nat) (h1 : i < vs.length) (h2 : i < Ls.length) (hp : pick [j, j2] H = some ([.own v e 1 (L.map f), .fam ((famG f e vs Ls).eraseIdx i)], Hr)) (hL : Ls' = Ls.set i L) :
    (flatF H).Perm (flatF (.fam (famG f e (vs.set i v) Ls') :: Hr)) := by rw [hL]; exact famG_in i h1 h2 hp
theorem famG_eq {j : Nat} {f : α → List C} {e : TypeId} {vs : List Value} {Ls Ls' : List (List α)} {Hr : List Ch} (hp : pick [j] H = some ([.fam (famG f e vs Ls)], Hr)) (hL : Ls' = Ls) :
    (flatF H).Perm (flatF (.fam (famG f e vs Ls') :: Hr)) := by rw [hL]; exact flat_perm (pick_perm hp)
end
end
end Go.Vc
end

section
namespace Go.Proofs.Ytpolnonbgaolkaa
open Go.Vc
attribute [local irreducible] JL JC JQ OpWp Con ConN HOk
set_option maxHeartbeats 4000000

theorem rHasO_c (v : Value) (e : TypeId) (L : List Int) (n : Int) (b : Bool) (hb : decide (n ∈ L) = b) : Con Try.prog 51 [.cell (.val v), In .i64 n] [.own v e 1 (L.map irow)] (fun K => K (Bl b) [.own v e 1 (L.map irow)]) := by
  subst hb
  exact con_lend2 (rHas_c L n) trivial
theorem inN_yes {n k : Int} (h : 0 ≤ k ∧ k < n) : inN k n = true := by
  unfold inN
  rw [decide_eq_true h.1, decide_eq_true h.2]
  rfl
theorem inN_no {n k : Int} (h : ¬ (0 ≤ k ∧ k < n)) : inN k n = false := by
  unfold inN
  rw [Bool.and_eq_false_iff, decide_eq_false_iff_not, decide_eq_false_iff_not]
  omega
theorem rBefore_c (g : Gh) (hw : GhW g) : Con Try.prog 49 [.row g.row] [] (fun K => K (.cell (.list ((befM g.blocks).map Lrow))) []) := by
  have eB : (g.blocks.map Bk.row).length = g.blocks.length := List.length_map _
  have hsz := hw.ops
  refine con_intro Try.func49 rfl rfl (Nat.le_of_ble_eq_true rfl) (fun c hc => R_ (o_ r_ (ci_ r_ (fun bx => E_ r_ (T_ (R_ (F_ r_ (L_ 0 r_ (o_ r_ (br_ r_ (fun hlen => o_ r_ (ow_makeSliceVs g.blocks.length rfl rfl rfl rfl rfl g_ g_ (fun V hV fV => E_ r_ (T_ (am_ (R_ (E_ r_ (T_ ?_))))))))))))))))))
  refine au_ (jc_famNil 3 1 g.blocks.length (Nat.succ_pos _) ?_)
  rw [famI_nil, ← bPs_zero]
  refine jc_loopS (ι := Nat × List Value) [] (fun i => i.1 ≤ (g.blocks).length ∧ i.2.length = g.blocks.length) (fun i => (4, In .i64 (i.1 : Int)) :: [(3, .cell (.val V)), (1, Ptr bx)]) (fun i => [.own V 33 1 (i.2.map vrow), .fam (famI 3 i.2 (bPs g.blocks i.1 0)), .blk bx 28 g.row]) (fun i => (g.blocks).length - i.1) (0, List.replicate g.blocks.length (.slice none 0 0)) ⟨Nat.zero_le _, List.length_replicate⟩ ?_ ?_ ?_
  · exact bc_ 1 r_ (bc_ 0 r_ (bc_ 0 r_ sub_end))
  · (repeat (first | exact True.intro | refine ⟨rfl, ?_⟩))
  rintro ⟨j, vs⟩ hz
  dsimp only at hz ⊢
  obtain ⟨hj, hvl⟩ := hz
  have eLj : ((g.blocks).map Bk.row).length = (g.blocks).length := List.length_map _
  by_cases hltj : j < (g.blocks).length
  · have hltj2 : (j : Int) < (((g.blocks).map Bk.row).length : Int) := by omega
    have hnx := nx_at hltj
    refine am_ (R_ (M_ r_ (F_ r_ (L_ 2 r_ (o_ r_ (br_ r_ (fun hlen => o_ r_ (bw_ r_ r_ (T_ (aq_ r_ u_ (as_ (al_ (B_ (R_ (E_ r_ (T_ (au_ ?_)))))))))))))))))
    refine jc_loopS (ι := Nat × List Value) [] (fun i => i.1 ≤ ((g.blocks[j]).next).length ∧ i.2.length = g.blocks.length) (fun i => (5, In .i64 (i.1 : Int)) :: [(4, In .i64 (j : Int)), (3, .cell (.val V)), (1, Ptr bx)]) (fun i => [.own V 33 1 (i.2.map vrow), .fam (famI 3 i.2 (bPs g.blocks j i.1)), .blk bx 28 g.row]) (fun i => ((g.blocks[j]).next).length - i.1) (0, vs) ⟨Nat.zero_le _, hvl⟩ ?_ ?_ ?_
    · exact bc_ 0 r_ (bc_ 0 r_ (bc_ 0 r_ sub_end))
    · (repeat (first | exact True.intro | refine ⟨rfl, ?_⟩))
    rintro ⟨k, us⟩ hz
    dsimp only at hz ⊢
    obtain ⟨hk, hul⟩ := hz
    have eLk : (((g.blocks[j]).next).map Irow).length = ((g.blocks[j]).next).length := List.length_map _
    by_cases hltk : k < ((g.blocks[j]).next).length
    · have hltk2 : (k : Int) < ((((g.blocks[j]).next).map Irow).length : Int) := by omega
      have hkn : k < (nxOf g.blocks j).length := by rw [hnx]; exact hltk
      obtain ⟨y, hy⟩ : ∃ y, y = (g.blocks[j]).next[k] := ⟨_, rfl⟩
      have hy2 : (nxOf g.blocks j)[k] = y := by rw [hy]; simp only [hnx]
      have hsame := fun h => bPs_same hkn h
      have hput := fun h0 h1 => bPs_put hkn h0 h1
      rw [hy2] at hsame hput
      have hlen := befP_len g.blocks j k y.toNat
      have eU : (us.map vrow).length = us.length := List.length_map _
      have hB := rIn_c y ((us.map vrow).length : Int)
      by_cases c1 : 0 ≤ y ∧ y < ((us.map vrow).length : Int)
      · have i1 : y.toNat < us.length := by omega
        have i2 : y.toNat < (bPs g.blocks j k).length := by rw [bPs_len]; omega
        rw [inN_yes c1, hy] at hB
        by_cases c2 : (j : Int) ∈ befP g.blocks j k y.toNat
        · have hC := fun v => rHasO_c v 3 ((bPs g.blocks j k)[y.toNat]) (j : Int) true (by rw [bPs_get]; exact decide_eq_true c2)
          rw [hy] at i1 i2
          refine am_ (R_ (M_ r_ (F_ r_ (L_ 2 r_ (M_ r_ (o_ r_ (cc_ r_ r_ g_ r_ r_ b_ (o_ r_ (cf_ r_ r_ r_ b_ r_ b_ (o_ r_ (cb_ r_ r_ (o_ r_ (br_ r_ (fun hlen => o_ r_ (bw_ r_ r_ (T_ (aq_ r_ u_ (as_ (al_ (B_ ?_))))))))))))))))))))
          refine R_ (F_ r_ (L_ 2 r_ (M_ r_ (o_ r_ (cc_ r_ r_ g_ r_ r_ b_ (o_ r_ (cf_ r_ r_ r_ b_ r_ b_ (o_ r_ (cb_ r_ r_ (M_ r_ (o_ r_ (cc_ r_ r_ g_ r_ r_ b_ (o_ r_ (cb_ r_ r_ (E_ r_ (T_ (R_ (M_ r_ (M_ r_ (o_ r_ (cw_ 0 r_ r_ (fun hlen => ?_))))))))))))))))))))))
          refine o_ r_ (bm_ r_ (hB) (M_ r_ (ah_ r_ r_ b_ (bd_ r_ (ah_ r_ r_ b_ (bd_ r_ (ah_ r_ r_ b_ (ow_indexVs 0 r_ r_ r_ g_ r_ (ah_ r_ r_ b_ (ow_loadVs 0 r_ r_ r_ (List.getElem?_eq_getElem i1) ?_))))))))))
          refine ah_ r_ r_ b_ (bd_ r_ (jl_regroup _ (famI_out (j := 1) _ i1 i2 rfl) ?_))
          simp only [hy] at hC
          have hs := hsame (.inl c2)
          refine ah_ r_ r_ b_ (bi_ [0] r_ r_ (hC _) (ah_ r_ r_ b_ (cd_ r_ (o_ r_ (bp_ r_ r_ r_ (T_ (ap_ r_ r_ (as_ (ay_ (al_ (an_ (M_ r_ (o_ r_ (bj_ r_ r_ g_ (E_ r_ (ak_ (jq_regroup _ (famI_backE (j := 0) (j2 := 0) _ i1 i2 rfl hs) (jq_againS (i := (k, us)) (k + 1, us) ⟨hltk, hul⟩ (by dsimp only; omega) ?_ ?_))))))))))))))))))
          · exact bc_ 1 r_ (bc_ 0 r_ (bc_ 0 r_ sub_end))
          · (repeat (first | exact True.intro | refine ⟨rfl, ?_⟩))
        · have hC := fun v => rHasO_c v 3 ((bPs g.blocks j k)[y.toNat]) (j : Int) false (by rw [bPs_get]; exact decide_eq_false c2)
          have hs := hput c1.1 c2
          have hl2 : ((bPs g.blocks j k)[y.toNat]).length ≤ j + 1 := by rw [bPs_get]; exact hlen
          rw [hy] at i1 i2 hs
          refine am_ (R_ (M_ r_ (F_ r_ (L_ 2 r_ (M_ r_ (o_ r_ (cc_ r_ r_ g_ r_ r_ b_ (o_ r_ (cf_ r_ r_ r_ b_ r_ b_ (o_ r_ (cb_ r_ r_ (o_ r_ (br_ r_ (fun hlen => o_ r_ (bw_ r_ r_ (T_ (aq_ r_ u_ (as_ (al_ (B_ ?_))))))))))))))))))))
          refine R_ (F_ r_ (L_ 2 r_ (M_ r_ (o_ r_ (cc_ r_ r_ g_ r_ r_ b_ (o_ r_ (cf_ r_ r_ r_ b_ r_ b_ (o_ r_ (cb_ r_ r_ (M_ r_ (o_ r_ (cc_ r_ r_ g_ r_ r_ b_ (o_ r_ (cb_ r_ r_ (E_ r_ (T_ (R_ (M_ r_ (M_ r_ (o_ r_ (cw_ 0 r_ r_ (fun hlen => ?_))))))))))))))))))))))
          refine o_ r_ (bm_ r_ (hB) (M_ r_ (ah_ r_ r_ b_ (bd_ r_ (ah_ r_ r_ b_ (bd_ r_ (ah_ r_ r_ b_ (ow_indexVs 0 r_ r_ r_ g_ r_ (ah_ r_ r_ b_ (ow_loadVs 0 r_ r_ r_ (List.getElem?_eq_getElem i1) ?_))))))))))
          refine ah_ r_ r_ b_ (bd_ r_ (jl_regroup _ (famI_out (j := 1) _ i1 i2 rfl) ?_))
          simp only [hy] at hC hl2
          refine ah_ r_ r_ b_ (bi_ [0] r_ r_ (hC _) (ah_ r_ r_ b_ (cd_ r_ (o_ r_ (bp_ r_ r_ r_ (T_ (aq_ r_ r_ (an_ (M_ r_ (M_ r_ (M_ r_ (M_ r_ (o_ r_ (ow_indexVs 2 r_ r_ r_ g_ r_ (o_ r_ (ow_loadVs 2 r_ r_ r_ (List.getElem?_eq_getElem i1) ?_))))))))))))))))
          refine M_ r_ (o_ r_ (bq_ r_ r_ b_ r_ r_ b_ (o_ r_ (ow_append1 0 ((j : Int)) rfl rfl rfl rfl rfl rfl rfl (fun _ => rfl) (by show (_ + _) * 8 ≤ _; first | omega | (simp only [List.length_append]; omega)) (by first | omega | (simp only [List.length_append]; omega)) (fun v1 hv1 => o_ r_ (ow_indexVs 2 r_ r_ r_ g_ r_ (ag_ (ow_storeVs 2 r_ r_ r_ i1 r_ (ak_ (ay_ (al_ (an_ (M_ r_ (o_ r_ (bj_ r_ r_ g_ (E_ r_ ?_))))))))))))))))
          refine ak_ (jq_regroup _ (famI_inE (j := 1) (j2 := 1) (Ls' := bPs g.blocks j (k + 1)) _ i1 i2 rfl (by rw [bPs_get]; exact hs)) (jq_againS (i := (k, us)) (k + 1, us.set ((g.blocks[j]).next[k]).toNat v1) ⟨hltk, by dsimp only; rw [List.length_set]; exact hul⟩ (by dsimp only; omega) ?_ ?_))
          · exact bc_ 1 r_ (bc_ 0 r_ (bc_ 0 r_ sub_end))
          · (repeat (first | exact True.intro | refine ⟨rfl, ?_⟩))
      · rw [inN_no c1, hy] at hB
        have hs := hsame (.inr (by omega))
        refine am_ (R_ (M_ r_ (F_ r_ (L_ 2 r_ (M_ r_ (o_ r_ (cc_ r_ r_ g_ r_ r_ b_ (o_ r_ (cf_ r_ r_ r_ b_ r_ b_ (o_ r_ (cb_ r_ r_ (o_ r_ (br_ r_ (fun hlen => o_ r_ (bw_ r_ r_ (T_ (aq_ r_ u_ (as_ (al_ (B_ ?_))))))))))))))))))))
        refine R_ (F_ r_ (L_ 2 r_ (M_ r_ (o_ r_ (cc_ r_ r_ g_ r_ r_ b_ (o_ r_ (cf_ r_ r_ r_ b_ r_ b_ (o_ r_ (cb_ r_ r_ (M_ r_ (o_ r_ (cc_ r_ r_ g_ r_ r_ b_ (o_ r_ (cb_ r_ r_ (E_ r_ (T_ (R_ (M_ r_ (M_ r_ (o_ r_ (cw_ 0 r_ r_ (fun hlen => ?_))))))))))))))))))))))
        refine o_ r_ (bm_ r_ (hB) (M_ r_ (ai_ r_ r_ b_ (ai_ r_ r_ b_ (ai_ r_ r_ b_ (ai_ r_ r_ b_ (ai_ r_ r_ b_ (ai_ r_ r_ b_ (ai_ r_ r_ b_ (o_ r_ (bv_ r_ r_ r_ (T_ (ap_ r_ r_ (as_ (ay_ (al_ (an_ ?_)))))))))))))))))
        refine M_ r_ (o_ r_ (bj_ r_ r_ g_ (E_ r_ (ak_ (jq_regroup _ (famI_eq (j := 1) rfl hs) (jq_againS (i := (k, us)) (k + 1, us) ⟨hltk, hul⟩ (by dsimp only; omega) ?_ ?_))))))
        · exact bc_ 1 r_ (bc_ 0 r_ (bc_ 0 r_ sub_end))
        · (repeat (first | exact True.intro | refine ⟨rfl, ?_⟩))
    · have hltk2 : ¬ (k : Int) < ((((g.blocks[j]).next).map Irow).length : Int) := by omega
      have hs : bPs g.blocks j k = bPs g.blocks (j + 1) 0 := by rw [bPs_next, hnx]; congr 1; omega
      refine am_ (R_ (M_ r_ (F_ r_ (L_ 2 r_ (M_ r_ (o_ r_ (cc_ r_ r_ g_ r_ r_ b_ (o_ r_ (cf_ r_ r_ r_ b_ r_ b_ (o_ r_ (cb_ r_ r_ (o_ r_ (br_ r_ (fun hlen => o_ r_ (bw_ r_ r_ (T_ (ap_ r_ w_ (av_ (ax_ (ax_ ?_))))))))))))))))))))
      refine ba_ (ay_ (al_ (an_ (M_ r_ (o_ r_ (bj_ r_ r_ g_ (E_ r_ (ak_ (jq_regroup _ (famI_eq (j := 1) rfl hs.symm) (jq_againS (i := (j, vs)) (j + 1, us) ⟨hltj, hul⟩ (by dsimp only; omega) ?_ ?_))))))))))
      · exact bc_ 1 r_ (bc_ 0 r_ (bc_ 0 r_ sub_end))
      · (repeat (first | exact True.intro | refine ⟨rfl, ?_⟩))
  · have hltj2 : ¬ (j : Int) < (((g.blocks).map Bk.row).length : Int) := by omega
    have hs : bPs g.blocks j 0 = befM g.blocks := by rw [← bPs_end]; congr 1; omega
    refine am_ (R_ (M_ r_ (F_ r_ (L_ 2 r_ (o_ r_ (br_ r_ (fun hlen => o_ r_ (bw_ r_ r_ (T_ (ap_ r_ w_ (av_ (ax_ (ax_ (ba_ (al_ (R_ (M_ r_ ?_)))))))))))))))))
    refine E_ r_ (T_ (ar_ (jq_regroup _ (famI_eq (j := 1) rfl hs.symm) ?_)))
    have hbl : vs.length = (befM g.blocks).length := by rw [hvl, befM, List.length_map, List.length_range]
    refine jq_freezeFam 1 0 0 rfl (famI_holds hbl) (by rw [hc]; simp [hb]) ?_
    rw [famI_frz hbl]
    refine jq_freeze 2 0 rfl rfl (by rw [hc]; simp [hb]) (jq_ret1 rfl rfl [] rfl (fun K h => h))

theorem RR.bd {B : List Bk} {but x : Int} {l : List Bool} {T : List Int} (h : RR B but l (x :: T)) (h0 : 0 ≤ x) (h1 : x < (B.length : Int)) (h2 : ¬ x = but) (h3 : l.getD x.toNat false = false) :
    RR B but (l.set x.toNat true) (T ++ nxOf B x.toNat) ∧ dW (l.set x.toNat true) (nxW B) + (nxOf B x.toNat).length + 1 = dW l (nxW B) := by
  refine ⟨h.take h0 h1 h2, ?_⟩
  have hl := h.len
  have hlt : x.toNat < l.length := by omega
  have := dW_set (l := l) (ws := nxW B) (b := x.toNat) (by rw [nxW_len]; omega) hlt (by rw [List.getD_eq_getElem?_getD, List.getElem?_eq_getElem hlt] at h3; exact h3)
  rwa [nxW_get] at this
theorem without_c (g : Gh) (hw : GhW g) (but : Int) : Con Try.prog 77 [.row g.row, In .i64 0, In .i64 but] [] (fun K => K (.cell (.list ((rchL g.blocks but).map Brow))) []) := by
  have eB : (g.blocks.map Bk.row).length = g.blocks.length := List.length_map _
  have hsz := hw.ops
  have hszB : szB g.blocks ≤ 1500 := by have := hw.size; unfold szG at this; omega
  have hdW := szB_dW g.blocks
  have hini := RR.init (B := g.blocks) (but := but)
  refine con_intro Try.func77 rfl rfl (Nat.le_of_ble_eq_true rfl) (fun c hc => R_ (o_ r_ (ci_ r_ (fun bx => E_ r_ (T_ (R_ (F_ r_ (L_ 0 r_ (o_ r_ (br_ r_ (fun hlen => o_ r_ (ow_makeSliceBo g.blocks.length rfl rfl rfl rfl rfl g_ g_ (fun V hV fV => E_ r_ (T_ (R_ (M_ r_ (o_ r_ (ow_buildSliceOwn (rows := ([0] : List Int).map irow) rfl rfl b_ rfl rfl b_ (fun q0 hq0 fq0 => E_ r_ ?_)))))))))))))))))))
  refine T_ (am_ ?_)
  generalize List.replicate g.blocks.length false = l0 at hini hdW ⊢
  refine jc_toQ 8 0 rfl rfl (au_ ?_)
  refine jc_loopS (ι := List Bool × Value × Nat × List Int) [] (fun i => RR g.blocks but i.1 (i.2.2.2.drop i.2.2.1) ∧ i.2.2.2.length + dW i.1 (nxW g.blocks) ≤ 1501) (fun i => [(8, .cell (QC i.2.1 i.2.2.1 1)), (7, .cell (.val V)), (2, In .i64 but), (3, Ptr bx)]) (fun i => [.own V 4 1 (i.1.map brow), .own i.2.1 3 1 (i.2.2.2.map irow), .blk bx 28 g.row]) (fun i => dW i.1 (nxW g.blocks) + (i.2.2.2.length - i.2.2.1)) (l0, q0, 0, [0]) ⟨hini, by show 1 + dW l0 (nxW g.blocks) ≤ _; omega⟩ ?_ ?_ ?_
  · exact bc_ 1 r_ (bc_ 0 r_ (bc_ 0 r_ sub_end))
  · (repeat (first | exact True.intro | refine ⟨rfl, ?_⟩))
  rintro ⟨l, q, m, L⟩ ⟨hP, hLn⟩
  dsimp only at hP hLn ⊢
  have eL : (L.map irow).length = L.length := List.length_map _
  have eO : (l.map brow).length = l.length := List.length_map _
  have hll := hP.len
  by_cases hlt : m < L.length
  · have hlt2 : ((L.map irow).length : Int) - (m : Int) > 0 := by omega
    obtain ⟨x, T, hT⟩ : ∃ x T, L.drop m = x :: T := by
      cases hd : L.drop m with
      | nil => have := congrArg List.length hd; rw [List.length_drop, List.length_nil] at this; omega
      | cons x T => exact ⟨x, T, rfl⟩
    obtain ⟨_, hT2⟩ := drop_lt hT
    rw [hT] at hP
    have hsk := fun q => RR.skip hP q
    rw [← hT2] at hsk
    have hB := rIn_c x ((l.map brow).length : Int)
    by_cases c1 : 0 ≤ x ∧ x < ((l.map brow).length : Int)
    case neg =>
      rw [inN_no c1] at hB
      refine am_ (R_ (M_ r_ (o_ r_ (ow_lenQ 1 rfl rfl (fun _ => o_ r_ (bz_ r_ r_ (T_ (aq_ r_ u_ (as_ (al_ (au_ (R_ (M_ r_ (o_ r_ (ow_indexQ 1 rfl rfl rfl g_ (by rw [List.length_map] ; show m + 0 < _ ; omega) rfl (o_ r_ (ow_loadQI 1 r_ r_ r_ hT (E_ r_ (T_ ?_)))))))))))))))))))
      refine R_ (M_ r_ (o_ r_ (ow_sufQ 1 rfl rfl rfl rfl (by rw [List.length_map] ; omega) rfl (E_ r_ (T_ (am_ (R_ (M_ r_ (M_ r_ (o_ r_ (cw_ 0 r_ r_ (fun hlen => o_ r_ (bm_ r_ (hB) (o_ r_ (cd_ r_ (M_ r_ (ai_ r_ r_ b_ (ai_ r_ r_ b_ (ai_ r_ r_ b_ ?_)))))))))))))))))))
      refine ai_ r_ r_ b_ (o_ r_ (bp_ r_ r_ r_ (M_ r_ (ai_ r_ r_ b_ (ai_ r_ r_ b_ (ai_ r_ r_ b_ (o_ r_ (bp_ r_ r_ r_ (T_ (aq_ r_ r_ (av_ (ax_ (ba_ (jq_againS (i := (l, q, m, L)) (l, q, m + 1, L) ⟨hsk (fun h0 h1 _ => absurd ⟨h0, by omega⟩ c1), hLn⟩ (by dsimp only; omega) ?_ ?_))))))))))))))
      · exact bc_ 0 r_ (bc_ 0 r_ (bc_ 0 r_ sub_end))
      · (repeat (first | exact True.intro | refine ⟨rfl, ?_⟩))
    rw [inN_yes c1] at hB
    cases c3 : l.getD x.toNat false with
    | true =>
      refine am_ (R_ (M_ r_ (o_ r_ (ow_lenQ 1 rfl rfl (fun _ => o_ r_ (bz_ r_ r_ (T_ (aq_ r_ u_ (as_ (al_ (au_ (R_ (M_ r_ (o_ r_ (ow_indexQ 1 rfl rfl rfl g_ (by rw [List.length_map] ; show m + 0 < _ ; omega) rfl (o_ r_ (ow_loadQI 1 r_ r_ r_ hT (E_ r_ (T_ ?_)))))))))))))))))))
      refine R_ (M_ r_ (o_ r_ (ow_sufQ 1 rfl rfl rfl rfl (by rw [List.length_map] ; omega) rfl (E_ r_ (T_ (am_ (R_ (M_ r_ (M_ r_ (o_ r_ (cw_ 0 r_ r_ (fun hlen => o_ r_ (bm_ r_ (hB) (o_ r_ (cd_ r_ (M_ r_ (ah_ r_ r_ b_ (bd_ r_ (ah_ r_ r_ b_ (bd_ r_ (ah_ r_ r_ b_ (ow_indexBo 0 r_ r_ r_ g_ r_ ?_))))))))))))))))))))))
      refine ah_ r_ r_ b_ (ow_loadBoE 0 r_ r_ r_ g_ c3 (o_ r_ (bv_ r_ r_ r_ (M_ r_ (ai_ r_ r_ b_ (ai_ r_ r_ b_ (ai_ r_ r_ b_ (o_ r_ (bp_ r_ r_ r_ (T_ (aq_ r_ r_ (av_ (ax_ (ba_ (jq_againS (i := (l, q, m, L)) (l, q, m + 1, L) ⟨hsk (fun _ _ _ => getD_tr.1 c3), hLn⟩ (by dsimp only; omega) ?_ ?_)))))))))))))))
      · exact bc_ 0 r_ (bc_ 0 r_ (bc_ 0 r_ sub_end))
      · (repeat (first | exact True.intro | refine ⟨rfl, ?_⟩))
    | false =>
      by_cases c2 : x = but
      · refine am_ (R_ (M_ r_ (o_ r_ (ow_lenQ 1 rfl rfl (fun _ => o_ r_ (bz_ r_ r_ (T_ (aq_ r_ u_ (as_ (al_ (au_ (R_ (M_ r_ (o_ r_ (ow_indexQ 1 rfl rfl rfl g_ (by rw [List.length_map] ; show m + 0 < _ ; omega) rfl (o_ r_ (ow_loadQI 1 r_ r_ r_ hT (E_ r_ (T_ ?_)))))))))))))))))))
        refine R_ (M_ r_ (o_ r_ (ow_sufQ 1 rfl rfl rfl rfl (by rw [List.length_map] ; omega) rfl (E_ r_ (T_ (am_ (R_ (M_ r_ (M_ r_ (o_ r_ (cw_ 0 r_ r_ (fun hlen => o_ r_ (bm_ r_ (hB) (o_ r_ (cd_ r_ (M_ r_ (ah_ r_ r_ b_ (bd_ r_ (ah_ r_ r_ b_ (bd_ r_ (ah_ r_ r_ b_ (ow_indexBo 0 r_ r_ r_ g_ r_ ?_))))))))))))))))))))))
        refine ah_ r_ r_ b_ (ow_loadBoE 0 r_ r_ r_ g_ c3 (o_ r_ (bv_ r_ r_ r_ (M_ r_ (ah_ r_ r_ b_ (bd_ r_ (ah_ r_ r_ b_ (bd_ r_ (ah_ r_ r_ b_ (bn_ r_ r_ (o_ r_ (bv_ r_ r_ r_ (T_ (aq_ r_ u_ (av_ (ax_ (ba_ (jq_againS (i := (l, q, m, L)) (l, q, m + 1, L) ⟨hsk (fun _ _ h => absurd c2 h), hLn⟩ (by dsimp only; omega) ?_ ?_))))))))))))))))))
        · exact bc_ 0 r_ (bc_ 0 r_ (bc_ 0 r_ sub_end))
        · (repeat (first | exact True.intro | refine ⟨rfl, ?_⟩))
      · have hxl : x.toNat < g.blocks.length := by omega
        have hnx := nx_at hxl
        obtain ⟨hp, hd⟩ := hP.bd c1.1 (by omega) c2 c3
        rw [hnx, ← hT2] at hp
        rw [hnx] at hd
        have eN : ((g.blocks[x.toNat]).next.map Irow).length = (g.blocks[x.toNat]).next.length := List.length_map _
        refine am_ (R_ (M_ r_ (o_ r_ (ow_lenQ 1 rfl rfl (fun _ => o_ r_ (bz_ r_ r_ (T_ (aq_ r_ u_ (as_ (al_ (au_ (R_ (M_ r_ (o_ r_ (ow_indexQ 1 rfl rfl rfl g_ (by rw [List.length_map] ; show m + 0 < _ ; omega) rfl (o_ r_ (ow_loadQI 1 r_ r_ r_ hT (E_ r_ (T_ ?_)))))))))))))))))))
        refine R_ (M_ r_ (o_ r_ (ow_sufQ 1 rfl rfl rfl rfl (by rw [List.length_map] ; omega) rfl (E_ r_ (T_ (am_ (R_ (M_ r_ (M_ r_ (o_ r_ (cw_ 0 r_ r_ (fun hlen => o_ r_ (bm_ r_ (hB) (o_ r_ (cd_ r_ (M_ r_ (ah_ r_ r_ b_ (bd_ r_ (ah_ r_ r_ b_ (bd_ r_ (ah_ r_ r_ b_ (ow_indexBo 0 r_ r_ r_ g_ r_ ?_))))))))))))))))))))))
        refine ah_ r_ r_ b_ (ow_loadBoE 0 r_ r_ r_ g_ c3 (o_ r_ (bv_ r_ r_ r_ (M_ r_ (ah_ r_ r_ b_ (bd_ r_ (ah_ r_ r_ b_ (bd_ r_ (ah_ r_ r_ b_ (bn_ r_ r_ (o_ r_ (bv_ r_ r_ r_ (T_ (ap_ r_ w_ (as_ (al_ (R_ (M_ r_ (M_ r_ (o_ r_ (ow_indexBo 0 r_ r_ r_ g_ r_ (ag_ (ow_storeBo 0 r_ r_ r_ g_ r_ ?_)))))))))))))))))))))))
        refine T_ (an_ (M_ r_ (F_ r_ (L_ 2 r_ (M_ r_ (o_ r_ (cv_ r_ r_ g_ g_ r_ r_ b_ (o_ r_ (cf_ r_ r_ r_ b_ r_ b_ (o_ r_ (cb_ r_ r_ (o_ r_ (ow_appendQM 1 (f := irow) (l1 := L) (l2 := (g.blocks[x.toNat]).next) rfl rfl rfl rfl rfl rfl rfl (fun _ => rfl) (by show (_ + _) * 8 ≤ _ ; omega) (by show _ + _ ≤ _ ; omega) (fun q2 m2 L2 hq2 hm2 hL2 hl2 => E_ r_ (ak_ (ay_ ?_))))))))))))))))
        have hlen2 := congrArg List.length hL2
        rw [List.length_append, List.length_drop, List.length_drop] at hlen2
        rw [← hL2] at hp
        refine jq_againS (i := (l, q, m, L)) (l.set x.toNat true, q2, m2, L2) ⟨hp, by dsimp only; omega⟩ (by dsimp only; omega) ?_ ?_
        · exact bc_ 1 r_ (bc_ 0 r_ (bc_ 0 r_ sub_end))
        · (repeat (first | exact True.intro | refine ⟨rfl, ?_⟩))
  · have hlt2 : ¬ ((L.map irow).length : Int) - (m : Int) > 0 := by omega
    rw [List.drop_eq_nil_of_le (by omega)] at hP
    have hfin := hP.fin
    subst hfin
    refine am_ (R_ (M_ r_ (o_ r_ (ow_lenQ 1 rfl rfl (fun _ => o_ r_ (bz_ r_ r_ (T_ (ap_ r_ w_ (av_ (ax_ (ax_ (ba_ (al_ (R_ (M_ r_ (E_ r_ (T_ ?_)))))))))))))))))
    refine ar_ (jq_freeze 6 0 rfl rfl (by rw [hc]; simp [hb]) (jq_ret1 rfl rfl [] rfl (fun K h => h)))
theorem rReached_c (g : Gh) (hw : GhW g) : Con Try.prog 46 [.row g.row] [] (fun K => K (.cell (.list ((rchL g.blocks (-1)).map Brow))) []) := by
  have h := without_c g hw (-1)
  refine con_intro Try.func46 rfl rfl (Nat.le_of_ble_eq_true rfl) (fun c hc => R_ (o_ r_ (ci_ r_ (fun bx => E_ r_ (T_ (R_ (A_ 0 r_ (o_ r_ (bm_ r_ (h) (E_ r_ (T_ (ar_ (jq_ret1 rfl rfl [] rfl (fun K h => h))))))))))))))
end Go.Proofs.Ytpolnonbgaolkaa
end

section
namespace Go.Proofs.Ytpolnonbgaolkaa
open Go.Vc
attribute [local irreducible] JL JC JQ OpWp Con ConN HOk
set_option maxHeartbeats 4000000

/-- The first rows are known. -/
noncomputable def dmQ (B : List Bk) (d : Nat) : List (List Bool) := (List.range B.length).map fun i => if i < d then (List.range B.length).map (dmB B i) else []
theorem dmQ_len (B : List Bk) (d : Nat) : (dmQ B d).length = B.length := by simp [dmQ]
theorem dmQ_zero (B : List Bk) : dmQ B 0 = List.replicate B.length [] := by
  unfold dmQ
  rw [List.eq_replicate_iff]
  refine ⟨by simp, fun x hx => ?_⟩
  obtain ⟨y, _, rfl⟩ := List.mem_map.1 hx
  simp
theorem dmQ_end (B : List Bk) : dmQ B B.length = domM B := by
  refine List.map_congr_left (fun i hi => ?_)
  rw [if_pos (List.mem_range.1 hi)]
theorem dmQ_step {B : List Bk} {d : Nat} : dmQ B (d + 1) = (dmQ B d).set d ((List.range B.length).map (dmB B d)) := by
  refine List.ext_getElem (by simp [dmQ]) (fun i h1 h2 => ?_)
  rw [List.getElem_set]
  simp only [dmQ, List.getElem_map, List.getElem_range]
  by_cases hi : d = i
  · subst hi
    rw [if_pos (by omega), if_pos rfl]
  · rw [if_neg hi]
    by_cases h3 : i < d
    · rw [if_pos h3, if_pos (by omega)]
    · rw [if_neg h3, if_neg (by omega)]
/-- The first cells of a row are known. -/
noncomputable def dmK (B : List Bk) (d k : Nat) : List Bool := (List.range B.length).map fun b => if b < k then dmB B d b else false
theorem dmK_len (B : List Bk) (d k : Nat) : (dmK B d k).length = B.length := by simp [dmK]
theorem dmK_zero (B : List Bk) (d : Nat) : dmK B d 0 = List.replicate B.length false := by
  unfold dmK
  rw [List.eq_replicate_iff]
  refine ⟨by simp, fun x hx => ?_⟩
  obtain ⟨y, _, rfl⟩ := List.mem_map.1 hx
  simp
theorem dmK_end (B : List Bk) (d : Nat) : dmK B d B.length = (List.range B.length).map (dmB B d) := by
  refine List.map_congr_left (fun i hi => ?_)
  rw [if_pos (List.mem_range.1 hi)]
theorem dmK_step {B : List Bk} {d k : Nat} {b : Bool} (hb : dmB B d k = b) : (dmK B d k).set (k : Int).toNat b = dmK B d (k + 1) := by
  subst hb
  rw [Int.toNat_natCast]
  refine List.ext_getElem (by simp [dmK]) (fun i h1 h2 => ?_)
  rw [List.getElem_set]
  simp only [dmK, List.getElem_map, List.getElem_range]
  by_cases hi : k = i
  · subst hi
    rw [if_pos rfl, if_pos (by omega)]
  · rw [if_neg hi]
    by_cases h3 : i < k
    · rw [if_pos h3, if_pos (by omega)]
    · rw [if_neg h3, if_neg (by omega)]
theorem rDominates_c (g : Gh) (hw : GhW g) : Con Try.prog 47 [.row g.row] [] (fun K => K (.cell (.list ((domM g.blocks).map DRow))) []) := by
  have eB : (g.blocks.map Bk.row).length = g.blocks.length := List.length_map _
  have hsz := hw.ops
  have hR := rReached_c g hw
  have eA : ((rchL g.blocks (-1)).map Brow).length = g.blocks.length := by rw [List.length_map, rchL_len]
  refine con_intro Try.func47 rfl rfl (Nat.le_of_ble_eq_true rfl) (fun c hc => R_ (o_ r_ (ci_ r_ (fun bx => E_ r_ (T_ (R_ (A_ 0 r_ (o_ r_ (bm_ r_ (hR) (E_ r_ (T_ (R_ (F_ r_ (L_ 0 r_ (o_ r_ (br_ r_ (fun hlen => o_ r_ (ow_makeSliceVs g.blocks.length rfl rfl rfl rfl rfl g_ g_ (fun V hV fV => E_ r_ ?_)))))))))))))))))))
  refine T_ (am_ (R_ (E_ r_ (T_ (au_ (jc_famNil 4 1 g.blocks.length (Nat.succ_pos _) ?_))))))
  rw [famG_nil brow, ← dmQ_zero]
  refine jc_loopS (ι := Nat × List Value) [] (fun i => i.1 ≤ (g.blocks).length ∧ i.2.length = g.blocks.length) (fun i => (5, In .i64 (i.1 : Int)) :: [(4, .cell (.val V)), (3, .cell (.list ((rchL g.blocks (-1)).map Brow))), (1, Ptr bx)]) (fun i => [.own V 68 1 (i.2.map vrow), .fam (famG brow 4 i.2 (dmQ g.blocks i.1)), .blk bx 28 g.row]) (fun i => (g.blocks).length - i.1) (0, List.replicate g.blocks.length (.slice none 0 0)) ⟨Nat.zero_le _, List.length_replicate⟩ ?_ ?_ ?_
  · exact bc_ 1 r_ (bc_ 0 r_ (bc_ 0 r_ sub_end))
  · (repeat (first | exact True.intro | refine ⟨rfl, ?_⟩))
  rintro ⟨j, vs⟩ hz
  dsimp only at hz ⊢
  obtain ⟨hj, hvl⟩ := hz
  have eLj : ((g.blocks).map Bk.row).length = (g.blocks).length := List.length_map _
  by_cases hltj : j < (g.blocks).length
  · have hltj2 : (j : Int) < (((g.blocks).map Bk.row).length : Int) := by omega
    have hW := without_c g hw (j : Int)
    have eW : ((rchL g.blocks (j : Int)).map Brow).length = g.blocks.length := by rw [List.length_map, rchL_len]
    have eV : (vs.map vrow).length = vs.length := List.length_map _
    have ivj : j < vs.length := by omega
    have iqj : j < (dmQ g.blocks j).length := by rw [dmQ_len]; exact hltj
    refine am_ (R_ (M_ r_ (F_ r_ (L_ 2 r_ (o_ r_ (br_ r_ (fun hlen => o_ r_ (bw_ r_ r_ (T_ (aq_ r_ u_ (as_ (al_ (B_ (R_ (A_ 2 r_ (M_ r_ (o_ r_ (bm_ r_ (hW) ?_))))))))))))))))))
    refine E_ r_ (T_ (R_ (M_ r_ (M_ r_ (F_ r_ (L_ 2 r_ (o_ r_ (br_ r_ (fun hlen => o_ r_ (ow_makeSliceBo g.blocks.length rfl rfl rfl rfl rfl g_ g_ (fun u hu fu => o_ r_ (ow_indexVs 1 r_ r_ r_ g_ r_ (ag_ (ow_storeVs 1 r_ r_ r_ g_ r_ (T_ (R_ (E_ r_ (T_ (au_ ?_)))))))))))))))))))
    rw [← dmK_zero g.blocks j, Int.toNat_natCast]
    refine jc_loopS (ι := Nat) [] (fun k => k ≤ (g.blocks).length) (fun k => (7, In .i64 (k : Int)) :: [(6, .cell (.list ((rchL g.blocks (j : Int)).map Brow))), (5, In .i64 (j : Int)), (4, .cell (.val V)), (3, .cell (.list ((rchL g.blocks (-1)).map Brow))), (1, Ptr bx)]) (fun k => [.own u 4 1 ((dmK g.blocks j k).map brow), .own V 68 1 ((vs.set j u).map vrow), .fam (famG brow 4 vs (dmQ g.blocks j)), .blk bx 28 g.row]) (fun k => (g.blocks).length - k) 0 (Nat.zero_le _) ?_ ?_ ?_
    · exact bc_ 1 r_ (bc_ 0 r_ (bc_ 0 r_ (bc_ 0 r_ sub_end)))
    · (repeat (first | exact True.intro | refine ⟨rfl, ?_⟩))
    rintro k hk
    have eLk : ((g.blocks).map Bk.row).length = (g.blocks).length := List.length_map _
    by_cases hltk : k < (g.blocks).length
    · have hltk2 : (k : Int) < (((g.blocks).map Bk.row).length : Int) := by omega
      have ek := dmK_len g.blocks j k
      have e2 : ((dmK g.blocks j k).map brow).length = g.blocks.length := by rw [List.length_map, ek]
      have e3 : ((vs.set j u).map vrow).length = g.blocks.length := by rw [List.length_map, List.length_set, hvl]
      have e4 : (vs.set j u).length = g.blocks.length := by rw [List.length_set, hvl]
      have hu0 : (vs.set j u)[(j : Int).toNat]? = some u := by rw [Int.toNat_natCast, List.getElem?_set_self (by omega)]
      have id1 : j < (rchL g.blocks (-1)).length := by rw [rchL_len]; exact hltj
      have ik1 : k < (rchL g.blocks (-1)).length := by rw [rchL_len]; exact hltk
      have ik2 : k < (rchL g.blocks (j : Int)).length := by rw [rchL_len]; exact hltk
      have hdm := dm_ref g.blocks j k ik2
      have hg1 : (rchL g.blocks (-1))[j] = alB g.blocks j := alB_get id1
      have hg2 : (rchL g.blocks (-1))[k] = alB g.blocks k := alB_get ik1
      have hrj : ((rchL g.blocks (-1)).map Brow)[j]? = some (Brow (alB g.blocks j)) := by rw [List.getElem?_map, List.getElem?_eq_getElem id1, hg1]; rfl
      have hrk : ((rchL g.blocks (-1)).map Brow)[k]? = some (Brow (alB g.blocks k)) := by rw [List.getElem?_map, List.getElem?_eq_getElem ik1, hg2]; rfl
      have hst : ∀ b, dmB g.blocks j k = b → (dmK g.blocks j k).set (k : Int).toNat b = dmK g.blocks j (k + 1) := fun b hb => dmK_step hb
      generalize alB g.blocks j = r1 at hdm hrj
      generalize alB g.blocks k = r2 at hdm hrk
      generalize hr3 : (rchL g.blocks (j : Int))[k] = r3 at hdm
      clear hg1 hg2
      have hrw : ((rchL g.blocks (j : Int)).map Brow)[k]? = some (Brow r3) := by rw [List.getElem?_map, List.getElem?_eq_getElem ik2, hr3]; rfl
      refine am_ (R_ (M_ r_ (F_ r_ (L_ 3 r_ (o_ r_ (br_ r_ (fun hlen => o_ r_ (bw_ r_ r_ (T_ (aq_ r_ u_ (as_ (al_ (B_ (jc_anyB 23 none rfl k_ k_ ?_))))))))))))))
      cases r1 with
      | false =>
        have hs := hst false hdm.symm
        refine yM_ r_ (yM_ r_ (aa_ (fun c => ow_indexVs 1 r_ r_ r_ g_ r_ p_) (aa_ (fun c => ow_loadVs 1 r_ r_ r_ hu0 p_) (yM_ r_ (yM_ r_ (yM_ r_ (aa_ (fun c => ow_indexAddrN j r_ r_ r_ hrj r_ b_ p_) (aa_ (fun c => cb_ r_ r_ p_) (yM_ r_ (ac_ r_ r_ (ac_ r_ r_ (ac_ r_ r_ (ac_ r_ r_ (aa_ (fun c => bv_ r_ r_ r_ p_) (yM_ r_ ?_)))))))))))))))
        refine ac_ r_ r_ (ac_ r_ r_ (ac_ r_ r_ (ac_ r_ r_ (ac_ r_ r_ (aa_ (fun c => bv_ r_ r_ r_ p_) (aa_ (fun c => ow_indexBo 0 r_ r_ r_ g_ r_ p_) (ae_ (afin_none (ag_ (ow_storeBo 0 r_ r_ r_ g_ r_ (ak_ (ay_ (al_ (an_ (M_ r_ (o_ r_ (bj_ r_ r_ g_ ?_)))))))))))))))))
        refine E_ r_ (ak_ (jq_againS (i := k) (k + 1) hltk g_ ?_ ?_))
        · rw [← hs]
          exact bc_ 0 r_ (bc_ 0 r_ (bc_ 0 r_ (bc_ 0 r_ sub_end)))
        · (repeat (first | exact True.intro | refine ⟨rfl, ?_⟩))
      | true =>
        cases r2 with
        | false =>
          have hs := hst false hdm.symm
          refine yM_ r_ (yM_ r_ (aa_ (fun c => ow_indexVs 1 r_ r_ r_ g_ r_ p_) (aa_ (fun c => ow_loadVs 1 r_ r_ r_ hu0 p_) (yM_ r_ (yM_ r_ (yM_ r_ (aa_ (fun c => ow_indexAddrN j r_ r_ r_ hrj r_ b_ p_) (aa_ (fun c => cb_ r_ r_ p_) (yM_ r_ (ab_ r_ r_ (fun c => bd_ r_ p_) (ab_ r_ r_ (fun c => bd_ r_ p_) (ab_ r_ r_ (fun c => ow_indexAddrN k r_ r_ r_ hrk r_ b_ p_) (ab_ r_ r_ (fun c => cb_ r_ r_ p_) ?_)))))))))))))
          refine aa_ (fun c => bp_ r_ r_ r_ p_) (yM_ r_ (ac_ r_ r_ (ac_ r_ r_ (ac_ r_ r_ (ac_ r_ r_ (ac_ r_ r_ (aa_ (fun c => bv_ r_ r_ r_ p_) (aa_ (fun c => ow_indexBo 0 r_ r_ r_ g_ r_ p_) (ae_ (afin_none (ag_ (ow_storeBo 0 r_ r_ r_ g_ r_ (ak_ (ay_ (al_ (an_ ?_))))))))))))))))
          refine M_ r_ (o_ r_ (bj_ r_ r_ g_ (E_ r_ (ak_ (jq_againS (i := k) (k + 1) hltk g_ ?_ ?_)))))
          · rw [← hs]
            exact bc_ 0 r_ (bc_ 0 r_ (bc_ 0 r_ (bc_ 0 r_ sub_end)))
          · (repeat (first | exact True.intro | refine ⟨rfl, ?_⟩))
        | true =>
          cases r3 with
          | true =>
            have hs := hst false hdm.symm
            refine yM_ r_ (yM_ r_ (aa_ (fun c => ow_indexVs 1 r_ r_ r_ g_ r_ p_) (aa_ (fun c => ow_loadVs 1 r_ r_ r_ hu0 p_) (yM_ r_ (yM_ r_ (yM_ r_ (aa_ (fun c => ow_indexAddrN j r_ r_ r_ hrj r_ b_ p_) (aa_ (fun c => cb_ r_ r_ p_) (yM_ r_ (ab_ r_ r_ (fun c => bd_ r_ p_) (ab_ r_ r_ (fun c => bd_ r_ p_) (ab_ r_ r_ (fun c => ow_indexAddrN k r_ r_ r_ hrk r_ b_ p_) (ab_ r_ r_ (fun c => cb_ r_ r_ p_) ?_)))))))))))))
            refine aa_ (fun c => bp_ r_ r_ r_ p_) (yM_ r_ (ab_ r_ r_ (fun c => bd_ r_ p_) (ab_ r_ r_ (fun c => bd_ r_ p_) (ab_ r_ r_ (fun c => ow_indexAddrN k r_ r_ r_ hrw r_ b_ p_) (ab_ r_ r_ (fun c => cb_ r_ r_ p_) (ab_ r_ r_ (fun c => cd_ r_ p_) (aa_ (fun c => bp_ r_ r_ r_ p_) (aa_ (fun c => ow_indexBo 0 r_ r_ r_ g_ r_ p_) (ae_ (afin_none (ag_ (ow_storeBo 0 r_ r_ r_ g_ r_ (ak_ (ay_ (al_ (an_ ?_))))))))))))))))
            refine M_ r_ (o_ r_ (bj_ r_ r_ g_ (E_ r_ (ak_ (jq_againS (i := k) (k + 1) hltk g_ ?_ ?_)))))
            · rw [← hs]
              exact bc_ 0 r_ (bc_ 0 r_ (bc_ 0 r_ (bc_ 0 r_ sub_end)))
            · (repeat (first | exact True.intro | refine ⟨rfl, ?_⟩))
          | false =>
            have hs := hst true hdm.symm
            refine yM_ r_ (yM_ r_ (aa_ (fun c => ow_indexVs 1 r_ r_ r_ g_ r_ p_) (aa_ (fun c => ow_loadVs 1 r_ r_ r_ hu0 p_) (yM_ r_ (yM_ r_ (yM_ r_ (aa_ (fun c => ow_indexAddrN j r_ r_ r_ hrj r_ b_ p_) (aa_ (fun c => cb_ r_ r_ p_) (yM_ r_ (ab_ r_ r_ (fun c => bd_ r_ p_) (ab_ r_ r_ (fun c => bd_ r_ p_) (ab_ r_ r_ (fun c => ow_indexAddrN k r_ r_ r_ hrk r_ b_ p_) (ab_ r_ r_ (fun c => cb_ r_ r_ p_) ?_)))))))))))))
            refine aa_ (fun c => bp_ r_ r_ r_ p_) (yM_ r_ (ab_ r_ r_ (fun c => bd_ r_ p_) (ab_ r_ r_ (fun c => bd_ r_ p_) (ab_ r_ r_ (fun c => ow_indexAddrN k r_ r_ r_ hrw r_ b_ p_) (ab_ r_ r_ (fun c => cb_ r_ r_ p_) (ab_ r_ r_ (fun c => cd_ r_ p_) (aa_ (fun c => bp_ r_ r_ r_ p_) (aa_ (fun c => ow_indexBo 0 r_ r_ r_ g_ r_ p_) (ae_ (afin_none (ag_ (ow_storeBo 0 r_ r_ r_ g_ r_ (ak_ (ay_ (al_ (an_ ?_))))))))))))))))
            refine M_ r_ (o_ r_ (bj_ r_ r_ g_ (E_ r_ (ak_ (jq_againS (i := k) (k + 1) hltk g_ ?_ ?_)))))
            · rw [← hs]
              exact bc_ 0 r_ (bc_ 0 r_ (bc_ 0 r_ (bc_ 0 r_ sub_end)))
            · (repeat (first | exact True.intro | refine ⟨rfl, ?_⟩))
    · have hltk2 : ¬ (k : Int) < (((g.blocks).map Bk.row).length : Int) := by omega
      have ekn : k = g.blocks.length := by omega
      rw [ekn, dmK_end]
      refine am_ (R_ (M_ r_ (F_ r_ (L_ 3 r_ (o_ r_ (br_ r_ (fun hlen => o_ r_ (bw_ r_ r_ (T_ (ap_ r_ v_ (av_ (ax_ (ax_ (ba_ (ay_ (al_ (an_ ?_)))))))))))))))))
      refine M_ r_ (o_ r_ (bj_ r_ r_ g_ (E_ r_ (ak_ (jq_regroup _ (famG_out (j := 2) j ivj iqj rfl) (jq_regroup _ (famG_inE (j := 2) (j2 := 1) (v := u) (Ls' := dmQ g.blocks (j + 1)) j ivj iqj rfl dmQ_step) (jq_againS (i := (j, vs)) (j + 1, vs.set j u) ⟨hltj, by dsimp only; rw [List.length_set]; exact hvl⟩ (by dsimp only; omega) ?_ ?_)))))))
      · exact bc_ 2 r_ (bc_ 0 r_ (bc_ 1 r_ sub_end))
      · (repeat (first | exact True.intro | refine ⟨rfl, ?_⟩))
  · have hltj2 : ¬ (j : Int) < (((g.blocks).map Bk.row).length : Int) := by omega
    have hs : dmQ g.blocks j = domM g.blocks := by rw [← dmQ_end]; congr 1; omega
    refine am_ (R_ (M_ r_ (F_ r_ (L_ 2 r_ (o_ r_ (br_ r_ (fun hlen => o_ r_ (bw_ r_ r_ (T_ (ap_ r_ w_ (av_ (ax_ (ax_ (ba_ (al_ (R_ (M_ r_ ?_)))))))))))))))))
    refine E_ r_ (T_ (ar_ (jq_regroup _ (famG_eq (j := 1) rfl hs.symm) ?_)))
    have hbl : vs.length = (domM g.blocks).length := by rw [hvl, domM_len]
    refine jq_freezeFam 1 0 0 rfl (famG_holds hbl) (by rw [hc]; simp [hb]) ?_
    rw [famG_frz hbl]
    refine jq_freeze 2 0 rfl rfl (by rw [hc]; simp [hb]) (jq_ret1 rfl rfl [] rfl (fun K h => h))
end Go.Proofs.Ytpolnonbgaolkaa
end

section
namespace Go.Proofs.Ytpolnonbgaolkaa
open Go.Vc
attribute [local irreducible] JL JC JQ OpWp Con ConN HOk
set_option maxHeartbeats 4000000

noncomputable abbrev domR (B : List Bk) (h : Nat) : List Bool := (List.range B.length).map (dmB B h)
theorem domM_at {B : List Bk} {h : Nat} (hh : h < B.length) : ((domM B).map DRow)[h]? = some (DRow (domR B h)) := by
  rw [List.getElem?_map, List.getElem?_eq_getElem (by rw [domM_len]; exact hh)]
  simp [domM]
theorem domR_at {B : List Bk} {h b : Nat} (hb : b < B.length) {r : Bool} (hr : dmB B h b = r) : ((domR B h).map Brow)[b]? = some (Brow r) := by
  subst hr
  rw [List.getElem?_map, List.getElem?_map, List.getElem?_range hb]
  rfl
theorem rch_at {B : List Bk} {b : Nat} (hb : b < B.length) {r : Bool} (hr : alB B b = r) : ((rchL B (-1)).map Brow)[b]? = some (Brow r) := by
  have h1 : b < (rchL B (-1)).length := by rw [rchL_len]; exact hb
  rw [List.getElem?_map, List.getElem?_eq_getElem h1, alB_get h1, hr]
  rfl
theorem bef_at {B : List Bk} {b : Nat} (hb : b < B.length) : ((befM B).map Lrow)[b]? = some (Lrow (befL B b)) := by
  have h1 : b < (befM B).length := by rw [befM_len]; exact hb
  rw [List.getElem?_map, List.getElem?_eq_getElem h1, befM_get h1]
  rfl
theorem rBody_c (g : Gh) (hw : GhW g) (h : Nat) (hh : h < g.blocks.length) : Con Try.prog 50 [.row g.row, .cell (.list ((rchL g.blocks (-1)).map Brow)), .cell (.list ((domM g.blocks).map DRow)), In .i64 (h : Int)] [] (fun K => K (.cell (.list ((nodesF g.blocks h).map Irow))) []) := by
  have hsz := hw.ops
  have hBf := rBefore_c g hw
  have eB : (g.blocks.map Bk.row).length = g.blocks.length := List.length_map _
  have eBm : ((befM g.blocks).map Lrow).length = g.blocks.length := by rw [List.length_map, befM_len]
  have eD : ((domM g.blocks).map DRow).length = g.blocks.length := by rw [List.length_map, domM_len]
  have eDr : ((domR g.blocks h).map Brow).length = g.blocks.length := by simp
  have eA : ((rchL g.blocks (-1)).map Brow).length = g.blocks.length := by rw [List.length_map, rchL_len]
  have hbl := bef_len g.blocks h
  have eBl : ((befL g.blocks h).map Irow).length = (befL g.blocks h).length := List.length_map _
  have hrow := bef_at hh
  have hdr := domM_at hh
  have eR : ((List.replicate g.blocks.length false).map brow).length = g.blocks.length := by simp
  have erl : (List.replicate g.blocks.length false).length = g.blocks.length := List.length_replicate
  have hini := NP.init (B := g.blocks) hh
  refine con_intro Try.func50 rfl rfl (Nat.le_of_ble_eq_true rfl) (fun c hc => R_ (o_ r_ (ci_ r_ (fun bx => E_ r_ (T_ (R_ (A_ 0 r_ (o_ r_ (bm_ r_ (hBf) (E_ r_ (T_ (R_ (F_ r_ (L_ 0 r_ (o_ r_ (br_ r_ (fun hlen => o_ r_ (ow_makeSliceBo g.blocks.length rfl rfl rfl rfl rfl g_ g_ (fun V hV fV => E_ r_ ?_)))))))))))))))))))
  refine T_ (R_ (M_ r_ (M_ r_ (o_ r_ (ow_indexBo 0 r_ r_ r_ g_ r_ (ag_ (ow_storeBo 0 r_ r_ r_ g_ r_ (T_ (R_ (E_ r_ (T_ (am_ (R_ (E_ r_ (T_ (au_ ?_))))))))))))))))
  generalize hl0' : (List.replicate g.blocks.length false).set h true = l0 at hini
  have hl0'' : (List.replicate g.blocks.length false).set (h : Int).toNat true = l0 := hl0'
  rw [hl0'']
  have hdW := befW_dW g.blocks l0 hini.len
  have hM : g.blocks.length * (g.blocks.length + 1) ≤ 750 * 751 := Nat.mul_le_mul hsz.2 (by omega)
  clear hl0' hl0''
  refine jc_ownNil 3 1 g_ ?_
  refine jc_loopS (ι := Nat × Value) [] (fun i => i.1 ≤ (befL g.blocks h).length) (fun i => (12, In .i64 (i.1 : Int)) :: [(11, .cell (.val i.2)), (10, .cell (.val V)), (9, .cell (.list ((befM g.blocks).map Lrow))), (1, .cell (.list ((rchL g.blocks (-1)).map Brow))), (2, .cell (.list ((domM g.blocks).map DRow))), (3, In .i64 (h : Int)), (4, Ptr bx)]) (fun i => [.own i.2 3 1 ((((befL g.blocks h).take i.1).filter fun b => dmB g.blocks h b.toNat).map irow), .own V 4 1 (l0.map brow), .blk bx 28 g.row]) (fun i => (befL g.blocks h).length - i.1) (0, .slice none 0 0) (Nat.zero_le _) ?_ ?_ ?_
  · exact bc_ 0 r_ (bc_ 0 r_ (bc_ 0 r_ sub_end))
  · (repeat (first | exact True.intro | refine ⟨rfl, ?_⟩))
  rintro ⟨k, v⟩ hz
  dsimp only at hz ⊢
  obtain hk := hz
  have eLk : ((befL g.blocks h).map Irow).length = (befL g.blocks h).length := List.length_map _
  by_cases hltk : k < (befL g.blocks h).length
  · have hltk2 : (k : Int) < (((befL g.blocks h).map Irow).length : Int) := by omega
    have hfs := filter_snoc (p := fun b => dmB g.blocks h b.toNat) hltk
    have hfl := List.length_filter_le (fun b : Int => dmB g.blocks h b.toNat) ((befL g.blocks h).take k)
    rw [List.length_take] at hfl
    have hbd := bef_bnd hltk
    obtain ⟨y, hy⟩ : ∃ y, y = (befL g.blocks h)[k] := ⟨_, rfl⟩
    have hyr : ((befL g.blocks h).map Irow)[k]? = some (Irow y) := by rw [List.getElem?_map, List.getElem?_eq_getElem hltk, hy]; rfl
    rw [← hy] at hfs hbd
    have hyl : y.toNat < g.blocks.length := by omega
    cases hd : dmB g.blocks h y.toNat with
    | true =>
      have ha := rch_at hyl (dm_al hd)
      have hdd := domR_at hyl hd
      rw [hd, if_pos rfl] at hfs
      refine am_ (R_ (M_ r_ (M_ r_ (M_ r_ (o_ r_ (ow_indexAddrN h r_ r_ r_ hrow r_ b_ (o_ r_ (cb_ r_ r_ (o_ r_ (br_ r_ (fun hlen => o_ r_ (bw_ r_ r_ (T_ (aq_ r_ u_ (as_ (al_ (B_ (R_ (M_ r_ ?_)))))))))))))))))))
      refine M_ r_ (o_ r_ (ow_indexAddrN h r_ r_ r_ hrow r_ b_ (o_ r_ (cb_ r_ r_ (M_ r_ (o_ r_ (ow_indexAddrN k r_ r_ r_ hyr r_ b_ (o_ r_ (cb_ r_ r_ (E_ r_ (T_ (R_ (M_ r_ (M_ r_ (o_ r_ (ow_indexAddrN y.toNat r_ r_ g_ ha r_ b_ (o_ r_ (cb_ r_ r_ (M_ r_ (ah_ r_ r_ b_ (bd_ r_ (ah_ r_ r_ b_ (bd_ r_ ?_)))))))))))))))))))))))
      refine ah_ r_ r_ b_ (ow_indexAddrN h r_ r_ r_ hdr r_ b_ (ah_ r_ r_ b_ (cb_ r_ r_ (ah_ r_ r_ b_ (bd_ r_ (ah_ r_ r_ b_ (ow_indexAddrN y.toNat r_ r_ g_ hdd r_ b_ (ah_ r_ r_ b_ (cb_ r_ r_ (o_ r_ (bp_ r_ r_ r_ (T_ (aq_ r_ r_ (an_ (M_ r_ (M_ r_ (o_ r_ (bq_ r_ r_ b_ r_ r_ b_ ?_))))))))))))))))))
      refine o_ r_ (ow_append1 0 (y) rfl rfl rfl rfl rfl rfl rfl (fun _ => rfl) (by show (_ + _) * 8 ≤ _; first | omega | (simp only [List.length_append]; omega)) (by first | omega | (simp only [List.length_append]; omega)) (fun v1 hv1 => E_ r_ (ak_ (ay_ (al_ (an_ (M_ r_ (o_ r_ (bj_ r_ r_ g_ (E_ r_ (ak_ (jq_againS (i := (k, v)) (k + 1, v1) hltk (by dsimp only; omega) ?_ ?_))))))))))))
      · dsimp only
        rw [hfs]
        exact bc_ 0 r_ (bc_ 0 r_ (bc_ 0 r_ sub_end))
      · (repeat (first | exact True.intro | refine ⟨rfl, ?_⟩))
    | false =>
      have hdd := domR_at hyl hd
      rw [hd, if_neg (by simp), List.append_nil] at hfs
      cases hal : alB g.blocks y.toNat with
      | false =>
        have ha := rch_at hyl hal
        refine am_ (R_ (M_ r_ (M_ r_ (M_ r_ (o_ r_ (ow_indexAddrN h r_ r_ r_ hrow r_ b_ (o_ r_ (cb_ r_ r_ (o_ r_ (br_ r_ (fun hlen => o_ r_ (bw_ r_ r_ (T_ (aq_ r_ u_ (as_ (al_ (B_ (R_ (M_ r_ ?_)))))))))))))))))))
        refine M_ r_ (o_ r_ (ow_indexAddrN h r_ r_ r_ hrow r_ b_ (o_ r_ (cb_ r_ r_ (M_ r_ (o_ r_ (ow_indexAddrN k r_ r_ r_ hyr r_ b_ (o_ r_ (cb_ r_ r_ (E_ r_ (T_ (R_ (M_ r_ (M_ r_ (o_ r_ (ow_indexAddrN y.toNat r_ r_ g_ ha r_ b_ (o_ r_ (cb_ r_ r_ (M_ r_ (ai_ r_ r_ b_ (ai_ r_ r_ b_ ?_)))))))))))))))))))))
        refine ai_ r_ r_ b_ (ai_ r_ r_ b_ (ai_ r_ r_ b_ (ai_ r_ r_ b_ (ai_ r_ r_ b_ (o_ r_ (bv_ r_ r_ r_ (T_ (ap_ r_ r_ (as_ (ay_ (al_ (an_ (M_ r_ (o_ r_ (bj_ r_ r_ g_ (E_ r_ (ak_ ?_)))))))))))))))))
        refine jq_againS (i := (k, v)) (k + 1, v) hltk (by dsimp only; omega) ?_ ?_
        · dsimp only
          rw [hfs]
          exact bc_ 0 r_ (bc_ 0 r_ (bc_ 0 r_ sub_end))
        · (repeat (first | exact True.intro | refine ⟨rfl, ?_⟩))
      | true =>
        have ha := rch_at hyl hal
        refine am_ (R_ (M_ r_ (M_ r_ (M_ r_ (o_ r_ (ow_indexAddrN h r_ r_ r_ hrow r_ b_ (o_ r_ (cb_ r_ r_ (o_ r_ (br_ r_ (fun hlen => o_ r_ (bw_ r_ r_ (T_ (aq_ r_ u_ (as_ (al_ (B_ (R_ (M_ r_ ?_)))))))))))))))))))
        refine M_ r_ (o_ r_ (ow_indexAddrN h r_ r_ r_ hrow r_ b_ (o_ r_ (cb_ r_ r_ (M_ r_ (o_ r_ (ow_indexAddrN k r_ r_ r_ hyr r_ b_ (o_ r_ (cb_ r_ r_ (E_ r_ (T_ (R_ (M_ r_ (M_ r_ (o_ r_ (ow_indexAddrN y.toNat r_ r_ g_ ha r_ b_ (o_ r_ (cb_ r_ r_ (M_ r_ (ah_ r_ r_ b_ (bd_ r_ (ah_ r_ r_ b_ (bd_ r_ ?_)))))))))))))))))))))))
        refine ah_ r_ r_ b_ (ow_indexAddrN h r_ r_ r_ hdr r_ b_ (ah_ r_ r_ b_ (cb_ r_ r_ (ah_ r_ r_ b_ (bd_ r_ (ah_ r_ r_ b_ (ow_indexAddrN y.toNat r_ r_ g_ hdd r_ b_ (ah_ r_ r_ b_ (cb_ r_ r_ (o_ r_ (bp_ r_ r_ r_ (T_ (ap_ r_ r_ (as_ (ay_ (al_ (an_ (M_ r_ (o_ r_ (bj_ r_ r_ g_ (E_ r_ (ak_ ?_))))))))))))))))))))))
        refine jq_againS (i := (k, v)) (k + 1, v) hltk (by dsimp only; omega) ?_ ?_
        · dsimp only
          rw [hfs]
          exact bc_ 0 r_ (bc_ 0 r_ (bc_ 0 r_ sub_end))
        · (repeat (first | exact True.intro | refine ⟨rfl, ?_⟩))
  · have hltk2 : ¬ (k : Int) < (((befL g.blocks h).map Irow).length : Int) := by omega
    have ht : ((befL g.blocks h).take k).filter (fun b => dmB g.blocks h b.toNat) = latch g.blocks h := by rw [List.take_of_length_le (by omega)]; rfl
    rw [ht]
    have hll : (latch g.blocks h).length ≤ g.blocks.length := by rw [← ht]; exact Nat.le_trans (List.length_filter_le _ _) (by rw [List.length_take]; omega)
    clear ht
    refine am_ (R_ (M_ r_ (M_ r_ (M_ r_ (o_ r_ (ow_indexAddrN h r_ r_ r_ hrow r_ b_ (o_ r_ (cb_ r_ r_ (o_ r_ (br_ r_ (fun hlen => o_ r_ (bw_ r_ r_ (T_ (ap_ r_ w_ (av_ (ax_ (ax_ (ba_ (al_ ?_)))))))))))))))))))
    refine am_ (jc_toQ 11 0 rfl rfl (au_ ?_))
    refine jc_loopS (ι := List Bool × Value × Nat × List Int) [] (fun i => NP g.blocks h i.1 (i.2.2.2.drop i.2.2.1) ∧ (∀ y ∈ i.2.2.2.drop i.2.2.1, alB g.blocks y.toNat = true) ∧ i.2.2.2.length + dW i.1 (befW g.blocks) ≤ 600000) (fun i => [(11, .cell (QC i.2.1 i.2.2.1 1)), (10, .cell (.val V)), (9, .cell (.list ((befM g.blocks).map Lrow))), (1, .cell (.list ((rchL g.blocks (-1)).map Brow))), (3, In .i64 (h : Int)), (4, Ptr bx)]) (fun i => [.own V 4 1 (i.1.map brow), .own i.2.1 3 1 (i.2.2.2.map irow), .blk bx 28 g.row]) (fun i => dW i.1 (befW g.blocks) + (i.2.2.2.length - i.2.2.1)) (l0, v, 0, latch g.blocks h) ⟨hini, fun y hy => (latch_mem hy).2.2, by dsimp only; omega⟩ ?_ ?_ ?_
    · exact bc_ 1 r_ (bc_ 0 r_ (bc_ 0 r_ sub_end))
    · (repeat (first | exact True.intro | refine ⟨rfl, ?_⟩))
    rintro ⟨l, q, m, L⟩ ⟨hP, hal, hLn⟩
    dsimp only at hP hal hLn ⊢
    have eL : (L.map irow).length = L.length := List.length_map _
    have hll := hP.len
    have eO : (l.map brow).length = l.length := List.length_map _
    by_cases hlt : m < L.length
    · have hlt2 : ((L.map irow).length : Int) - (m : Int) > 0 := by omega
      obtain ⟨x, T, hT⟩ : ∃ x T, L.drop m = x :: T := by
        cases hd : L.drop m with
        | nil => have := congrArg List.length hd; rw [List.length_drop, List.length_nil] at this; omega
        | cons x T => exact ⟨x, T, rfl⟩
      obtain ⟨_, hT2⟩ := drop_lt hT
      rw [hT] at hP
      obtain ⟨hx0, hxl, _⟩ := hP.tv x (by simp)
      have halx : alB g.blocks x.toNat = true := hal x (by rw [hT]; simp)
      have halT : ∀ y ∈ L.drop (m + 1), alB g.blocks y.toNat = true := fun y hy => hal y (by rw [hT]; rw [hT2] at hy; exact List.mem_cons_of_mem _ hy)
      have hsk := fun q => NP.skip (t1 := []) hP q
      rw [List.nil_append, ← hT2] at hsk
      have ib : x.toNat < g.blocks.length := by omega
      cases c3 : l.getD x.toNat false with
      | true =>
        refine am_ (R_ (M_ r_ (o_ r_ (ow_lenQ 1 rfl rfl (fun _ => o_ r_ (bz_ r_ r_ (T_ (aq_ r_ u_ (as_ (al_ (au_ (R_ (M_ r_ (o_ r_ (ow_indexQ 1 rfl rfl rfl g_ (by rw [List.length_map] ; show m + 0 < _ ; omega) rfl (o_ r_ (ow_loadQI 1 r_ r_ r_ hT (E_ r_ (T_ ?_)))))))))))))))))))
        refine R_ (M_ r_ (o_ r_ (ow_sufQ 1 rfl rfl rfl rfl (by rw [List.length_map] ; omega) rfl (E_ r_ (T_ (am_ (R_ (M_ r_ (M_ r_ (o_ r_ (ow_indexBo 0 r_ r_ r_ g_ r_ (o_ r_ (ow_loadBoE 0 r_ r_ r_ g_ c3 (T_ (aq_ r_ r_ (av_ (ax_ (ba_ ?_))))))))))))))))))
        refine jq_againS (i := (l, q, m, L)) (l, q, m + 1, L) ⟨hsk (fun _ => getD_tr.1 c3), halT, by dsimp only; omega⟩ (by dsimp only; omega) ?_ ?_
        · exact bc_ 0 r_ (bc_ 0 r_ (bc_ 0 r_ sub_end))
        · (repeat (first | exact True.intro | refine ⟨rfl, ?_⟩))
      | false =>
        have hp := hP.takeF halx (ntr_getD c3)
        have hxlt : x.toNat < l.length := by omega
        have hset := dW_set (l := l) (ws := befW g.blocks) (b := x.toNat) (by rw [befW_length]; omega) hxlt (by rw [List.getD_eq_getElem?_getD, List.getElem?_eq_getElem hxlt] at c3; exact c3)
        rw [befW_get (by omega)] at hset
        have hrx := bef_at ib
        have hxb := bef_len g.blocks x.toNat
        have hTl := congrArg List.length hT
        rw [List.length_drop, List.length_cons] at hTl
        rw [← hT2] at hTl hp
        rw [List.length_drop] at hTl
        refine am_ (R_ (M_ r_ (o_ r_ (ow_lenQ 1 rfl rfl (fun _ => o_ r_ (bz_ r_ r_ (T_ (aq_ r_ u_ (as_ (al_ (au_ (R_ (M_ r_ (o_ r_ (ow_indexQ 1 rfl rfl rfl g_ (by rw [List.length_map] ; show m + 0 < _ ; omega) rfl (o_ r_ (ow_loadQI 1 r_ r_ r_ hT (E_ r_ (T_ ?_)))))))))))))))))))
        refine R_ (M_ r_ (o_ r_ (ow_sufQ 1 rfl rfl rfl rfl (by rw [List.length_map] ; omega) rfl (E_ r_ (T_ (am_ (R_ (M_ r_ (M_ r_ (o_ r_ (ow_indexBo 0 r_ r_ r_ g_ r_ (o_ r_ (ow_loadBoE 0 r_ r_ r_ g_ c3 (T_ (ap_ r_ r_ (as_ (al_ (R_ ?_))))))))))))))))))
        refine M_ r_ (M_ r_ (o_ r_ (ow_indexBo 0 r_ r_ r_ g_ r_ (ag_ (ow_storeBo 0 r_ r_ r_ g_ r_ (T_ (R_ (E_ r_ (T_ (au_ ?_))))))))))
        refine jc_loopS (ι := Nat × Value × Nat × List Int) [] (fun i => i.1 ≤ (befL g.blocks x.toNat).length ∧ i.2.2.2.drop i.2.2.1 = L.drop (m + 1) ++ ((befL g.blocks x.toNat).take i.1).filter (fun b => alB g.blocks b.toNat) ∧ i.2.2.2.length ≤ L.length + i.1) (fun i => (15, In .i64 (i.1 : Int)) :: [(14, In .i64 x), (11, .cell (QC i.2.1 i.2.2.1 1)), (10, .cell (.val V)), (9, .cell (.list ((befM g.blocks).map Lrow))), (1, .cell (.list ((rchL g.blocks (-1)).map Brow))), (3, In .i64 (h : Int)), (4, Ptr bx)]) (fun i => [.own V 4 1 ((l.set x.toNat true).map brow), .own i.2.1 3 1 (i.2.2.2.map irow), .blk bx 28 g.row]) (fun i => (befL g.blocks x.toNat).length - i.1) (0, q, m + 1, L) ⟨Nat.zero_le _, by simp, Nat.le_refl _⟩ ?_ ?_ ?_
        · exact bc_ 0 r_ (bc_ 0 r_ (bc_ 0 r_ sub_end))
        · (repeat (first | exact True.intro | refine ⟨rfl, ?_⟩))
        rintro ⟨k, q1, m1, L1⟩ hz
        dsimp only at hz ⊢
        obtain ⟨hk, ⟨hD, hL1⟩⟩ := hz
        have eLk : ((befL g.blocks x.toNat).map Irow).length = (befL g.blocks x.toNat).length := List.length_map _
        by_cases hltk : k < (befL g.blocks x.toNat).length
        · have hltk2 : (k : Int) < (((befL g.blocks x.toNat).map Irow).length : Int) := by omega
          have hfs := filter_snoc (p := fun b : Int => alB g.blocks b.toNat) hltk
          have hbd := bef_bnd hltk
          obtain ⟨y, hy⟩ : ∃ y, y = (befL g.blocks x.toNat)[k] := ⟨_, rfl⟩
          have hyr : ((befL g.blocks x.toNat).map Irow)[k]? = some (Irow y) := by rw [List.getElem?_map, List.getElem?_eq_getElem hltk, hy]; rfl
          rw [← hy] at hfs hbd
          have hyl : y.toNat < g.blocks.length := by omega
          cases hay : alB g.blocks y.toNat with
          | true =>
            have ha := rch_at hyl hay
            rw [hay, if_pos rfl] at hfs
            refine am_ (R_ (M_ r_ (M_ r_ (M_ r_ (o_ r_ (ow_indexAddrN x.toNat r_ r_ g_ hrx r_ b_ (o_ r_ (cb_ r_ r_ (o_ r_ (br_ r_ (fun hlen => o_ r_ (bw_ r_ r_ (T_ (aq_ r_ u_ (as_ (al_ (B_ (R_ (M_ r_ ?_)))))))))))))))))))
            refine M_ r_ (M_ r_ (o_ r_ (ow_indexAddrN x.toNat r_ r_ g_ hrx r_ b_ (o_ r_ (cb_ r_ r_ (M_ r_ (o_ r_ (ow_indexAddrN k r_ r_ r_ hyr r_ b_ (o_ r_ (cb_ r_ r_ (o_ r_ (ow_indexAddrN y.toNat r_ r_ g_ ha r_ b_ (o_ r_ (cb_ r_ r_ (T_ (aq_ r_ r_ (an_ (M_ r_ (M_ r_ (M_ r_ (o_ r_ (ow_indexAddrN x.toNat r_ r_ g_ hrx r_ b_ ?_))))))))))))))))))))))
            refine o_ r_ (cb_ r_ r_ (M_ r_ (o_ r_ (ow_indexAddrN k r_ r_ r_ hyr r_ b_ (o_ r_ (cb_ r_ r_ (o_ r_ (bq_ r_ r_ b_ r_ r_ b_ (o_ r_ (ow_appendQM 1 (f := irow) (l1 := L1) (l2 := [y]) rfl rfl rfl rfl rfl rfl rfl (fun _ => rfl) (by show (_ + 1) * 8 ≤ _ ; omega) (by show _ + 1 ≤ _ ; omega) (fun q2 m2 L2 hq2 hm2 hL2 hl2 => E_ r_ (ak_ (ay_ (al_ (an_ (M_ r_ (o_ r_ (bj_ r_ r_ g_ (E_ r_ (ak_ ?_))))))))))))))))))))
            rw [List.length_singleton] at hl2
            refine jq_againS (i := (k, q1, m1, L1)) (k + 1, q2, m2, L2) ⟨hltk, by dsimp only; rw [hL2, hD, hfs, List.append_assoc], by dsimp only; omega⟩ (by dsimp only; omega) ?_ ?_
            · exact bc_ 1 r_ (bc_ 0 r_ (bc_ 0 r_ sub_end))
            · (repeat (first | exact True.intro | refine ⟨rfl, ?_⟩))
          | false =>
            have ha := rch_at hyl hay
            rw [hay, if_neg (by simp), List.append_nil] at hfs
            refine am_ (R_ (M_ r_ (M_ r_ (M_ r_ (o_ r_ (ow_indexAddrN x.toNat r_ r_ g_ hrx r_ b_ (o_ r_ (cb_ r_ r_ (o_ r_ (br_ r_ (fun hlen => o_ r_ (bw_ r_ r_ (T_ (aq_ r_ u_ (as_ (al_ (B_ (R_ (M_ r_ ?_)))))))))))))))))))
            refine M_ r_ (M_ r_ (o_ r_ (ow_indexAddrN x.toNat r_ r_ g_ hrx r_ b_ (o_ r_ (cb_ r_ r_ (M_ r_ (o_ r_ (ow_indexAddrN k r_ r_ r_ hyr r_ b_ (o_ r_ (cb_ r_ r_ (o_ r_ (ow_indexAddrN y.toNat r_ r_ g_ ha r_ b_ (o_ r_ (cb_ r_ r_ (T_ (ap_ r_ r_ (as_ (ay_ (al_ (an_ (M_ r_ ?_)))))))))))))))))))))
            refine o_ r_ (bj_ r_ r_ g_ (E_ r_ (ak_ (jq_againS (i := (k, q1, m1, L1)) (k + 1, q1, m1, L1) ⟨hltk, by dsimp only; rw [hD, hfs], by dsimp only; omega⟩ (by dsimp only; omega) ?_ ?_))))
            · exact bc_ 0 r_ (bc_ 0 r_ (bc_ 0 r_ sub_end))
            · (repeat (first | exact True.intro | refine ⟨rfl, ?_⟩))
        · have hltk2 : ¬ (k : Int) < (((befL g.blocks x.toNat).map Irow).length : Int) := by omega
          rw [List.take_of_length_le (by omega)] at hD
          rw [← hD] at hp
          have hal2 : ∀ y ∈ L1.drop m1, alB g.blocks y.toNat = true := fun y hy => by
            rw [hD] at hy
            rcases List.mem_append.1 hy with hy | hy
            · exact halT y hy
            · exact (List.mem_filter.1 hy).2
          have hD2 := congrArg List.length hD
          rw [List.length_drop, List.length_append, List.length_drop] at hD2
          have hfl := List.length_filter_le (fun b : Int => alB g.blocks b.toNat) (befL g.blocks x.toNat)
          refine am_ (R_ (M_ r_ (M_ r_ (M_ r_ (o_ r_ (ow_indexAddrN x.toNat r_ r_ g_ hrx r_ b_ (o_ r_ (cb_ r_ r_ (o_ r_ (br_ r_ (fun hlen => o_ r_ (bw_ r_ r_ (T_ (ap_ r_ w_ (av_ (ax_ (ax_ (ba_ (ay_ ?_)))))))))))))))))))
          refine jq_againS (i := (l, q, m, L)) (l.set x.toNat true, q1, m1, L1) ⟨hp, hal2, by dsimp only; omega⟩ (by dsimp only; omega) ?_ ?_
          · exact bc_ 0 r_ (bc_ 0 r_ (bc_ 0 r_ sub_end))
          · (repeat (first | exact True.intro | refine ⟨rfl, ?_⟩))
    · have hlt2 : ¬ ((L.map irow).length : Int) - (m : Int) > 0 := by omega
      rw [List.drop_eq_nil_of_le (by omega)] at hP
      have hfin := hP.fin
      subst hfin
      have hml : (lpL g.blocks h).length = g.blocks.length := hll
      refine am_ (R_ (M_ r_ (o_ r_ (ow_lenQ 1 rfl rfl (fun _ => o_ r_ (bz_ r_ r_ (T_ (ap_ r_ w_ (av_ (ax_ (ax_ (ba_ (al_ (R_ (E_ r_ (T_ (am_ ?_)))))))))))))))))
      refine R_ (E_ r_ (T_ (au_ (jc_ownNil 3 1 g_ ?_))))
      refine jc_loopS (ι := Nat × Value) [] (fun i => i.1 ≤ (lpL g.blocks h).length) (fun i => (17, In .i64 (i.1 : Int)) :: [(10, .cell (.val V)), (16, .cell (.val i.2)), (4, Ptr bx)]) (fun i => [.own i.2 3 1 ((idxT 0 ((lpL g.blocks h).take i.1)).map irow), .own V 4 1 ((lpL g.blocks h).map brow), .blk bx 28 g.row]) (fun i => (lpL g.blocks h).length - i.1) (0, .slice none 0 0) (Nat.zero_le _) ?_ ?_ ?_
      · exact bc_ 0 r_ (bc_ 0 r_ (bc_ 1 r_ sub_end))
      · (repeat (first | exact True.intro | refine ⟨rfl, ?_⟩))
      rintro ⟨k, u⟩ hz
      dsimp only at hz ⊢
      obtain hk := hz
      have eLk : ((lpL g.blocks h).map brow).length = (lpL g.blocks h).length := List.length_map _
      by_cases hltk : k < (lpL g.blocks h).length
      · have hltk2 : (k : Int) < (((lpL g.blocks h).map brow).length : Int) := by omega
        have hil := idxT_len ((lpL g.blocks h).take k) 0
        rw [List.length_take] at hil
        have hsn := idxT_snoc ((lpL g.blocks h).take k) 0 ((lpL g.blocks h)[k])
        rw [← List.take_succ_eq_append_getElem hltk, List.length_take, Nat.min_eq_left (by omega), Nat.zero_add] at hsn
        have hgd : (lpL g.blocks h).getD k false = (lpL g.blocks h)[k] := by rw [List.getD_eq_getElem?_getD, List.getElem?_eq_getElem hltk]; rfl
        cases hd : (lpL g.blocks h)[k] with
        | true =>
          rw [hd] at hgd
          rw [hd, if_pos rfl] at hsn
          refine am_ (R_ (M_ r_ (M_ r_ (o_ r_ (cw_ 1 r_ r_ (fun hlen => o_ r_ (bw_ r_ r_ (T_ (aq_ r_ u_ (as_ (al_ (B_ (R_ (M_ r_ (M_ r_ (o_ r_ (ow_indexBo 1 r_ r_ r_ g_ r_ (o_ r_ (ow_loadBoE 1 r_ r_ r_ g_ hgd ?_)))))))))))))))))))
          refine T_ (aq_ r_ r_ (an_ (M_ r_ (M_ r_ (o_ r_ (bq_ r_ r_ b_ r_ r_ b_ (o_ r_ (ow_append1 0 ((k : Int)) rfl rfl rfl rfl rfl rfl rfl (fun _ => rfl) (by show (_ + _) * 8 ≤ _; first | omega | (simp only [List.length_append]; omega)) (by first | omega | (simp only [List.length_append]; omega)) (fun v1 hv1 => E_ r_ (ak_ (ay_ (al_ (an_ (M_ r_ (o_ r_ (bj_ r_ r_ g_ (E_ r_ (ak_ ?_))))))))))))))))))
          refine jq_againS (i := (k, u)) (k + 1, v1) hltk (by dsimp only; omega) ?_ ?_
          · dsimp only
            rw [hsn]
            exact bc_ 0 r_ (bc_ 0 r_ (bc_ 0 r_ sub_end))
          · (repeat (first | exact True.intro | refine ⟨rfl, ?_⟩))
        | false =>
          rw [hd] at hgd
          rw [hd, if_neg (by simp), List.append_nil] at hsn
          refine am_ (R_ (M_ r_ (M_ r_ (o_ r_ (cw_ 1 r_ r_ (fun hlen => o_ r_ (bw_ r_ r_ (T_ (aq_ r_ u_ (as_ (al_ (B_ (R_ (M_ r_ (M_ r_ (o_ r_ (ow_indexBo 1 r_ r_ r_ g_ r_ (o_ r_ (ow_loadBoE 1 r_ r_ r_ g_ hgd ?_)))))))))))))))))))
          refine T_ (ap_ r_ r_ (as_ (ay_ (al_ (an_ (M_ r_ (o_ r_ (bj_ r_ r_ g_ (E_ r_ (ak_ (jq_againS (i := (k, u)) (k + 1, u) hltk (by dsimp only; omega) ?_ ?_)))))))))))
          · dsimp only
            rw [hsn]
            exact bc_ 0 r_ (bc_ 0 r_ (bc_ 0 r_ sub_end))
          · (repeat (first | exact True.intro | refine ⟨rfl, ?_⟩))
      · have hltk2 : ¬ (k : Int) < (((lpL g.blocks h).map brow).length : Int) := by omega
        have ht : idxT 0 ((lpL g.blocks h).take k) = nodesF g.blocks h := by rw [List.take_of_length_le (by omega), nodes_idx]
        rw [ht]
        refine am_ (R_ (M_ r_ (M_ r_ (o_ r_ (cw_ 1 r_ r_ (fun hlen => o_ r_ (bw_ r_ r_ (T_ (ap_ r_ w_ (av_ (ax_ (ax_ (ba_ (al_ (R_ (M_ r_ (E_ r_ ?_)))))))))))))))))
        refine T_ (ar_ (jq_freeze 8 0 rfl rfl (by rw [hc]; simp [hb]) (jq_ret1 rfl rfl [] rfl (fun K h => h))))
end Go.Proofs.Ytpolnonbgaolkaa
end
