import Derived.Test.YtlniadfidfmckaaGreatDoorMp2
import Derived.Lib.AppendStr
import Derived.Lib.AppendZerosOnto
import Derived.Lib.Builder
import Derived.Lib.UnsafeStr
import Derived.Laws.Externs
import Derived.Test.YtlniadfidfmckaaGreatDoorProg
import Derived.Shelf.Strconv.Itoa3
import Derived.Lib.ItoaLen
section
namespace Go.Vc
open Go.RowKit

def know (c : C) (v : Value) : C := match c with
  | .val u => .val u
  | .both u c => .both u c
  | c => .both v c
def knows : C → Option Value
  | .val v => some v
  | .both v _ => some v
  | _ => none
def knowsRow : List C → Option (List Value)
  | [] => some []
  | c :: cs => match knows c, knowsRow cs with
    | some v, some l => some (v :: l)
    | _, _ => none
def unk : C → C
  | .both _ c => c
  | c => c
theorem rd1_know {w : World} {A : Nat → Prop} {c : C} {v : Value} (h : Rd1 w A c v) : Rd1 w A (know c v) v := by
  cases c with
  | val u => exact h
  | both u c => exact h
  | _ => exact ⟨rfl, h⟩
theorem rdRow_know {w : World} {A : Nat → Prop} : ∀ {row : List C} {cs : List Value}, RdRow w A row cs → RdRow w A (List.zipWith know row cs) cs
  | [], _, h => by simp only [RdRow] at h; subst h; rfl
  | c :: row, _, h => by
    obtain ⟨v, r, rfl, h1, h2⟩ := h
    exact ⟨v, r, rfl, rd1_know h1, rdRow_know h2⟩
theorem rd1_knows {w : World} {A : Nat → Prop} {c : C} {u v : Value} (h : Rd1 w A c v) (hk : knows c = some u) : v = u := by
  cases c with
  | val x => obtain rfl := Option.some.inj hk; exact h.1
  | both x c => obtain rfl := Option.some.inj hk; exact h.1
  | _ => cases hk
theorem rdRow_knows {w : World} {A : Nat → Prop} : ∀ {row : List C} {cs us : List Value}, RdRow w A row cs → knowsRow row = some us → cs = us
  | [], _, us, h, hk => by
    simp only [RdRow] at h
    subst h
    simpa [knowsRow] using hk
  | c :: row, _, us, h, hk => by
    obtain ⟨v, r, rfl, h1, h2⟩ := h
    unfold knowsRow at hk
    split at hk
    · rename_i x l e1 e2
      obtain rfl := Option.some.inj hk
      rw [rd1_knows h1 e1, rdRow_knows h2 e2]
    · cases hk
theorem rd1_unk {w : World} {A : Nat → Prop} {c : C} {v : Value} (h : Rd1 w A c v) : Rd1 w A (unk c) v := by
  cases c with
  | both u c => exact h.2
  | _ => exact h
theorem rdRow_unk {w : World} {A : Nat → Prop} : ∀ {row : List C} {cs : List Value}, RdRow w A row cs → RdRow w A (row.map unk) cs
  | [], _, h => h
  | c :: row, _, h => by
    obtain ⟨v, r, rfl, h1, h2⟩ := h
    exact ⟨v, r, rfl, rd1_unk h1, rdRow_unk h2⟩
section
variable {P : Program} [Gl P] {nt : Nat} {c : Cx P nt} {env : Env} {H Hr : List Ch} {ops : Array Oper} {Q : Exit → Act → World → Prop} {Sw : World → Prop} {L : List (Nat × List Value × TypeId)}
variable {m fuel : Nat} {listed : Array Bool} {x : Operand} {t : TypeId} {ty : TypeId} {pos : String} {af : Array Edge}
theorem hp_know {b : Nat} {bt : TypeId} {row : List C} {cs : List Value} (j : Nat) (hp : pick [j] H = some ([.blk b bt row], Hr)) (hm : (b, cs, bt) ∈ L) (h : HP c ops Q (Keep L) m fuel listed env (.blk b bt (List.zipWith know row cs) :: Hr)) : HP c ops Q (Keep L) m fuel listed env H := by
  intro a w hst hS
  obtain ⟨cs', g1, g2⟩ := blk_ok hst hp
  have g3 := hS _ hm
  dsimp only at g3
  rw [g1] at g3
  obtain rfl : cs' = cs := by simpa using g3
  exact h a w (st_row hst hp ⟨cs', g1, rdRow_know g2⟩) hS
theorem keepK {b1 : Nat} {t1 : TypeId} {row : List C} {cs1 : List Value} (j : Nat) (hp : H[j]? = some (.blk b1 t1 row)) (hk : knowsRow row = some cs1) : ∀ w, StW c H w → Keep [(b1, cs1, t1)] w := by
  intro w hw p hp2
  obtain rfl := List.mem_singleton.1 hp2
  obtain ⟨cs, g1, g2⟩ := hw.ok _ (List.mem_of_getElem? hp)
  rw [rdRow_knows g2 hk] at g1
  exact g1
theorem hok_loadK {d : Option Tmp} {b o : Nat} {row : List C} {u : Value} {e : C} {bt : TypeId} {cs : List Value} [TI P t] (j : Nat) (ha : aggB (TI.u P t) = false) (hx : env.ev x = some (.cell (.val (.pointer (some ⟨b, o, none⟩))))) (hp : pick [j] H = some ([.blk b bt row], Hr))
    (hm : (b, cs, bt) ∈ L) (he : row[o]? = some (.both u e)) : HOk c (Keep L) env H ⟨d, .load t x, ty, pos, af, none⟩ (.cell e) :=
  fun a w hst hS => by
    obtain ⟨v, h1, h2⟩ := hok_load (d := d) (ty := ty) (pos := pos) (af := af) j ha hx hp hm he a w hst hS
    exact ⟨v, h1, h2.2⟩
/-- One of several that may come next. -/
def HStep (c : Cx P nt) (ops : Array Oper) (Q : Exit → Act → World → Prop) (Sw : World → Prop) (m fuel : Nat) (listed : Array Bool) (env : Env) (H : List Ch) (i : Nat) (o : Oper) : Prop :=
  OpWp c o env H (fun s H' => (∀ w, StW c H' w → Sw w) ∧ HP c ops Q Sw m fuel (listed.setIfInBounds i true) (putE o.dst s env) H')
theorem hs_v {i d : Nat} {op : Op} (h : OpWp c ⟨some d, op, ty, pos, af, none⟩ env H (fun s H' => (∀ w, StW c H' w → Sw w) ∧ HP c ops Q Sw m fuel (listed.setIfInBounds i true) ((d, s) :: env) H')) : HStep c ops Q Sw m fuel listed env H i ⟨some d, op, ty, pos, af, none⟩ := h
theorem hs_0 {i : Nat} {op : Op} (h : OpWp c ⟨none, op, ty, pos, af, none⟩ env H (fun _ H' => (∀ w, StW c H' w → Sw w) ∧ HP c ops Q Sw m fuel (listed.setIfInBounds i true) env H')) : HStep c ops Q Sw m fuel listed env H i ⟨none, op, ty, pos, af, none⟩ := h
theorem hp_br2 {i j : Nat} {oi oj : Oper} (hi : ops[i]? = some oi) (hj : ops[j]? = some oj) (hr : Region.ready .any ops listed = [i, j]) (hg : ((oi.guard.isNone && okD oi.dst nt) && (oj.guard.isNone && okD oj.dst nt)) = true)
    (h1 : HStep c ops Q Sw m fuel listed env H i oi) (h2 : HStep c ops Q Sw m fuel listed env H j oj) : HP c ops Q Sw m (fuel + 1) listed env H := by
  rw [Bool.and_eq_true] at hg
  refine hp_list _ hr (by simp) (fun q hq => ?_)
  rcases List.mem_cons.1 hq with rfl | hq
  · exact ⟨_, hi, hg.1, h1⟩
  · obtain rfl := List.mem_singleton.1 hq
    exact ⟨_, hj, hg.2, h2⟩
theorem jq_unk {ex : Exit} {b : Nat} {t : TypeId} {row : List C} (cs : List Value) (j : Nat) (hp : pick [j] H = some ([.blk b t row], Hr)) (_hk : knowsRow row = some cs) (h : JQ c Q ex env (.blk b t (row.map unk) :: Hr)) : JQ c Q ex env H :=
  fun a w hs => h a w (st_row hs hp (let ⟨cs, g1, g2⟩ := blk_ok hs hp; ⟨cs, g1, rdRow_unk g2⟩))
end
end Go.Vc
end

section
namespace Go.Vc
open Go.RowKit

section
variable {P : Program} {ops : Array Oper} {Q : Exit → Act → World → Prop} {K : Act → World → Prop}
theorem upon_then {o : Oper} {a : Act} {next : Act → World → Prop} {r : Result Next} (h : o.upon P a next (Exit.then K Q) r) : o.upon P a next Q r := by
  cases r with
  | ok n w' => cases n <;> first | exact h | exact Calls.mono h (fun e w'' he => by cases e <;> exact he)
  | halt x w' => cases x <;> exact h
theorem wpList_app {l2 : List Oper} : ∀ (l1 : List Oper) (a : Act) (w : World), wpList P ops (Exit.then (wpList P ops Q l2) Q) l1 a w → wpList P ops Q (l1 ++ l2) a w
  | [], _, _, h => h
  | o :: l, a, w, h => by
    rw [List.cons_append]
    unfold wpList at h ⊢
    split
    · rename_i hw
      rw [if_pos hw] at h
      rcases h with h | h
      · exact .inl (upon_then (Oper.wp_mono (fun a w => wpList_app l a w) h))
      · exact .inr ⟨h.1, h.2⟩
    · rename_i hw
      rw [if_neg hw] at h
      exact wpList_app l _ _ h
end
section
variable {P : Program} [Gl P] {nt : Nat} {c : Cx P nt} {env : Env} {H : List Ch} {ops : Array Oper} {Q : Exit → Act → World → Prop}
/-- Operations that wait for one and the same, whose results are not known of. -/
def segOk (env : Env) (g : Nat) (want : Bool) (l : List Oper) : Bool := l.all fun o => o.guard == some (g, want) && (match o.dst with | some d => (env.lookup d).isNone | none => false)
def SegQ (c : Cx P nt) (env : Env) (H : List Ch) (y : Operand) (v : Bool) (a : Act) (w : World) : Prop := St c env H a w ∧ a.eval y = .bool v
theorem yield_of {a : Act} {w : World} {g z : Nat} {b : Bool} (hs : St c env H a w) (hgz : (ops[g]?).bind (·.dst) = some z) (hz : env.lookup z = some (Bl b)) : yielded ops a.tmps g = some b := by
  have hv : a.tmps.getD z undef = .bool b := (hs.slots z _ hz).1
  have hlt : z < a.tmps.size := by
    rcases Nat.lt_or_ge z a.tmps.size with h' | h'
    · exact h'
    · rw [Array.getD_eq_getD_getElem?, Array.getElem?_eq_none h'] at hv
      cases hv
  rw [Array.getD_eq_getD_getElem?, Array.getElem?_eq_getElem hlt] at hv
  simp only [Option.getD_some] at hv
  unfold yielded
  simp [hgz, hlt, hv]
theorem st_put_free {a : Act} {w : World} {d : Nat} {v : Value} (hs : St c env H a w) (hn : env.lookup d = none) : St c env H (a.put (some d) v) w := by
  refine ⟨by have := hs.size; simpa [Act.put] using this, hs.defers, fun t s ht => ?_, hs.heap⟩
  have hne : t ≠ d := by intro h; subst h; rw [hn] at ht; cases ht
  have h1 := hs.slots t s ht
  have h2 : (a.put (some d) v).tmps.getD t undef = a.tmps.getD t undef := by simp [Act.put, Array.getD_eq_getD_getElem?, Array.getElem?_setIfInBounds_ne (Ne.symm hne)]
  rw [h2]
  exact h1
theorem seg_skip {g z : Nat} {want : Bool} (hgz : (ops[g]?).bind (·.dst) = some z) (hz : env.lookup z = some (Bl (!want))) {Kl : Act → World → Prop} :
    ∀ (l : List Oper) (a : Act) (w : World), segOk env g want l = true → St c env H a w → (∀ a, St c env H a w → Kl a w) → wpList P ops (Exit.then Kl Q) l a w
  | [], a, w, _, hs, hK => hK a hs
  | o :: l, a, w, hk, hs, hK => by
    obtain ⟨dst, op, ty, pos, af, gd⟩ := o
    simp only [segOk, List.all_cons, Bool.and_eq_true] at hk
    obtain ⟨⟨h1, h2⟩, h3⟩ := hk
    have h1 : gd = some (g, want) := by simpa using h1
    subst h1
    cases dst with
    | none => cases h2
    | some d =>
      have h2 : env.lookup d = none := by simpa using h2
      unfold wpList
      rw [if_neg (by simp [Region.wanted, yield_of hs hgz hz])]
      exact seg_skip hgz hz l _ w h3 (st_put_free hs h2) hK
theorem jl_seg {want b : Bool} {n g z d : Nat} {l rest : List Oper} {px py y : Operand} {v r : Bool} {ty : TypeId} {pos : String} {af : Array Edge}
    (hr : l.drop n = ⟨some d, .pick (.tmp z) px py, ty, pos, af, none⟩ :: rest) (hs : segOk env g want (l.take n) = true) (hgz : (ops[g]?).bind (·.dst) = some z) (hz : env.lookup z = some (Bl b)) (hd : d < nt)
    (h1 : b = want → JL c ops (Exit.then (SegQ c env H y v) Q) (l.take n) env H)
    (hp : ∀ a w, St c env H a w → (b = want → a.eval y = .bool v) → a.eval (if b then px else py) = .bool r)
    (h2 : JL c ops Q rest ((d, Bl r) :: env) H) : JL c ops Q l env H := by
  intro a w hst
  have hpick : ∀ a w, St c env H a w → (b = want → a.eval y = .bool v) → wpList P ops Q (⟨some d, .pick (.tmp z) px py, ty, pos, af, none⟩ :: rest) a w := by
    intro a w hst hy
    refine wpList_plain rfl fun K hK => ?_
    have e1 : a.eval (.tmp z) = .bool b := ev_val (x := .tmp z) hst (by simpa [Env.ev] using hz)
    have e2 := hp a w hst hy
    have hrun : (execOp a.eval ⟨some d, .pick (.tmp z) px py, ty, pos, af, none⟩).run P w = .ok (.value (.bool r)) w := by
      cases b <;> simp_all [execOp, asBool]
    unfold Oper.wp
    rw [hrun, Oper.upon_value]
    exact hK _ _ (h2 _ _ (hst.next hd hst.heap ⟨rfl, rfl⟩ (fun _ _ h => h)))
  rw [← List.take_append_drop n l, hr]
  refine wpList_app _ _ _ ?_
  by_cases hb : b = want
  · have h3 := h1 hb a w hst
    -- what comes behind it
    have mono : ∀ (l : List Oper) (a : Act) (w : World), wpList P ops (Exit.then (SegQ c env H y v) Q) l a w → wpList P ops (Exit.then (wpList P ops Q (⟨some d, .pick (.tmp z) px py, ty, pos, af, none⟩ :: rest)) Q) l a w := by
      intro l
      induction l with
      | nil => intro a w h; exact hpick a w h.1 (fun _ => h.2)
      | cons o l ih =>
        intro a w h
        unfold wpList at h ⊢
        split
        · rename_i hw
          rw [if_pos hw] at h
          rcases h with h | h
          · refine .inl ?_
            have h4 := Oper.wp_mono (fun a w => ih a w) h
            unfold Oper.wp at h4 ⊢
            revert h4
            generalize (execOp a.eval o).run P w = res
            intro h4
            cases res with
            | ok nn w' => cases nn <;> first | exact h4 | exact Calls.mono h4 (fun e w'' he => by cases e <;> exact he)
            | halt x w' => cases x <;> exact h4
          · exact .inr ⟨h.1, h.2⟩
        · rename_i hw
          rw [if_neg hw] at h
          exact ih _ _ h
    exact mono _ _ _ h3
  · have hz' : env.lookup z = some (Bl (!want)) := by rw [hz]; cases b <;> cases want <;> simp_all
    exact seg_skip hgz hz' _ a w hs hst (fun a hst => hpick a w hst (fun h => absurd h hb))
theorem jl_and (n g : Nat) {b : Bool} {z d : Nat} {l rest : List Oper} {y : Operand} {ty : TypeId} {pos : String} {af : Array Edge}
    (hr : l.drop n = ⟨some d, .pick (.tmp z) y (.const (.bool false)), ty, pos, af, none⟩ :: rest) (hs : segOk env g true (l.take n) = true) (hgz : (ops[g]?).bind (·.dst) = some z) (hz : env.lookup z = some (Bl b)) (hd : d < nt)
    (h : ∃ v : Bool, (b = true → JL c ops (Exit.then (SegQ c env H y v) Q) (l.take n) env H) ∧ JL c ops Q rest ((d, Bl (b && v)) :: env) H) : JL c ops Q l env H :=
  let ⟨v, h1, h2⟩ := h
  jl_seg (y := y) (v := v) (r := b && v) hr hs hgz hz hd h1 (fun a w _ hy => by
    cases b with
    | true => rw [if_pos rfl, Bool.true_and]; exact hy rfl
    | false => rfl) h2
theorem jl_or (n g : Nat) {b : Bool} {z d : Nat} {l rest : List Oper} {y : Operand} {ty : TypeId} {pos : String} {af : Array Edge}
    (hr : l.drop n = ⟨some d, .pick (.tmp z) (.const (.bool true)) y, ty, pos, af, none⟩ :: rest) (hs : segOk env g false (l.take n) = true) (hgz : (ops[g]?).bind (·.dst) = some z) (hz : env.lookup z = some (Bl b)) (hd : d < nt)
    (h : ∃ v : Bool, (b = false → JL c ops (Exit.then (SegQ c env H y v) Q) (l.take n) env H) ∧ JL c ops Q rest ((d, Bl (b || v)) :: env) H) : JL c ops Q l env H :=
  let ⟨v, h1, h2⟩ := h
  jl_seg (y := y) (v := v) (r := b || v) hr hs hgz hz hd h1 (fun a w _ hy => by
    cases b with
    | true => rfl
    | false => rw [if_neg (by simp), Bool.false_or]; exact hy rfl) h2
/-- How such a part ends. -/
theorem jq_seg {env1 : Env} {H1 : List Ch} {y : Operand} {v : Bool} (k : Nat) (he : env1.drop k = env) (hk : ((env1.take k).all fun p => (env.lookup p.1).isNone) = true) (hy : env1.ev y = some (Bl v)) (hp : H1.Perm H) :
    JQ c (Exit.then (SegQ c env H y v) Q) .normal env1 H1 := by
  intro a w hst
  have hst1 : St c env1 H a w := hst.perm hp
  refine ⟨⟨hst.size, hst.defers, fun t s ht => hst1.slots t s ?_, hst1.heap⟩, ev_val hst hy⟩
  rw [← List.take_append_drop k env1, he]
  have : ∀ (l : Env), (l.all fun p => (env.lookup p.1).isNone) = true → List.lookup t (l ++ env) = some s := by
    intro l
    induction l with
    | nil => intro _; exact ht
    | cons p l ih =>
      intro h
      obtain ⟨d, u⟩ := p
      simp only [List.all_cons, Bool.and_eq_true] at h
      rw [List.cons_append, List.lookup_cons]
      have hne : (t == d) = false := by
        rw [beq_eq_false_iff_ne]
        intro h1
        subst h1
        rw [ht] at h
        simp at h
      rw [hne]
      exact ih h.2
  exact this _ hk
/-- The same value, said otherwise. -/
theorem st_same {a : Act} {w : World} {j : Nat} {u u' : S} (h : St c env H a w) (hl : env.lookup j = some u) (he : u = u') : St c ((j, u') :: env) H a w := by
  subst he
  refine ⟨h.size, h.defers, fun t s ht => ?_, h.heap⟩
  rcases lookup_cons ht with ⟨rfl, rfl⟩ | ⟨_, ht⟩
  · exact h.slots _ _ hl
  · exact h.slots t s ht
theorem jq_bl {e : Exit} (j : Nat) {b b' : Bool} (hl : env.lookup j = some (Bl b)) (he : b = b') (h : JQ c Q e ((j, Bl b') :: env) H) : JQ c Q e env H := fun a w hs => h a w (st_same hs hl (by rw [he]))
end
end Go.Vc
end

section
namespace Go.Proofs.YtlniadfidfmckaaGreatDoor
open Go.Vc
attribute [local irreducible] JL JC JQ OpWp Con ConN
attribute [local irreducible] byteAt runLen isL isD isName hasW
set_option maxHeartbeats 4000000

def nameB (s : ByteArray) : Bool := isName s && !hasW s
def smallB (n : Int) : Bool := decide (-2147483648 < n) && decide (n < 2147483648)
def plainB (n : Int) : Bool := decide (0 ≤ n) && decide (n < 2147483648)
/-- Whether an expression has its shape, as far as it is looked at. -/
def shpF : Nat → T → Bool
  | 0, _ => true
  | F + 1, t => match t with
    | .nu n => smallB n
    | .nm s => nameB s
    | .ix s x => nameB s && shpF F x
    | .bn o a b => decide (1 ≤ o) && decide (o ≤ 14) && shpF F a && shpF F b
def oneB : List T → Bool
  | [x] => shpF 20 x
  | _ => false
def okOne (rec : List Sm → Bool) (s : Sm) : Bool :=
  if s.kind = 1 then nameB s.name && decide (s.index.length = 0) && oneB s.value && decide (s.max = 0) && decide (s.label = 0) && decide (s.thn.length = 0) && decide (s.els.length = 0)
  else if s.kind = 2 then nameB s.name && oneB s.index && oneB s.value && decide (s.max = 0) && decide (s.label = 0) && decide (s.thn.length = 0) && decide (s.els.length = 0)
  else if s.kind = 3 then decide (s.name = ⟨#[]⟩) && decide (s.index.length = 0) && oneB s.value && decide (s.max = 0) && plainB s.label && rec s.thn && rec s.els
  else if s.kind = 4 then decide (s.name = ⟨#[]⟩) && decide (s.index.length = 0) && oneB s.value && plainB s.max && plainB s.label && rec s.thn && decide (s.els.length = 0)
  else if s.kind = 5 then nameB s.name && decide (s.index.length = 0) && decide (s.value.length = 0) && decide (s.max = 0) && decide (s.label = 0) && rec s.thn && decide (s.els.length = 0)
  else false
def okSs : Nat → List Sm → Bool
  | 0, _ => true
  | F + 1, l => l.all (okOne (okSs F))
theorem rnameB_c (s : ByteArray) : Con Tryz.prog 53 [Str s] [] (fun K => K (Bl (nameB s)) []) := by
  refine con_intro Tryz.func53 rfl rfl (Nat.le_of_ble_eq_true rfl) (fun c hc => R_ (E_ r_ (T_ (R_ (M_ r_ (o_ r_ (bm_ r_ (rName_c _) (M_ r_ (jl_and 3 2 rfl rfl rfl rfl (nb rfl) ?_)))))))))
  apply Exists.intro
  refine ⟨fun hb1 => ?_, ?_⟩
  exact ah_ r_ h_ b_ (bd_ r_ (ah_ r_ h_ b_ (bm_ r_ (RKeyword_c _) (ah_ r_ h_ b_ (cd_ r_ (ak_ (jq_seg 3 rfl rfl rfl (List.Perm.refl _))))))))
  refine E_ r_ (T_ (ar_ (jq_ret1 rfl rfl [] rfl (fun K h => h))))
theorem rsmallB_c (n : Int) : Con Tryz.prog 85 [In .i64 n] [] (fun K => K (Bl (smallB n)) []) := by
  refine con_intro Tryz.func85 rfl rfl (Nat.le_of_ble_eq_true rfl) (fun c hc => R_ (E_ r_ (T_ (R_ (M_ r_ (o_ r_ (bz_ r_ r_ (M_ r_ (jl_and 2 2 rfl rfl rfl rfl (nb rfl) ?_)))))))))
  apply Exists.intro
  refine ⟨fun hb1 => ?_, ?_⟩
  exact ah_ r_ h_ b_ (bd_ r_ (ah_ r_ h_ b_ (bw_ r_ r_ (ak_ (jq_seg 2 rfl rfl rfl (List.Perm.refl _))))))
  refine E_ r_ (T_ (ar_ (jq_ret1 rfl rfl [] rfl (fun K h => h))))
theorem rplainB_c (n : Int) : Con Tryz.prog 54 [In .i64 n] [] (fun K => K (Bl (plainB n)) []) := by
  refine con_intro Tryz.func54 rfl rfl (Nat.le_of_ble_eq_true rfl) (fun c hc => R_ (E_ r_ (T_ (R_ (M_ r_ (o_ r_ (cn_ r_ r_ (M_ r_ (jl_and 2 2 rfl rfl rfl rfl (nb rfl) ?_)))))))))
  apply Exists.intro
  refine ⟨fun hb1 => ?_, ?_⟩
  exact ah_ r_ h_ b_ (bd_ r_ (ah_ r_ h_ b_ (bw_ r_ r_ (ak_ (jq_seg 2 rfl rfl rfl (List.Perm.refl _))))))
  refine E_ r_ (T_ (ar_ (jq_ret1 rfl rfl [] rfl (fun K h => h))))
theorem rshapedB_c : ∀ (F : Nat) (t : T), F ≤ 20 → Con Tryz.prog 133 [.row t.row', In .i64 (21 - (F : Int))] [] (fun K => K (Bl (shpF F t)) []) := by
  intro F
  induction F with
  | zero =>
    intro t _
    refine con_intro Tryz.func133 rfl rfl (Nat.le_of_ble_eq_true rfl) (fun c hc => R_ (o_ r_ (ci_ r_ (fun bx => E_ r_ (T_ (am_ (R_ (M_ r_ (o_ r_ (bz_ r_ r_ (T_ (aq_ r_ r_ (R_ (E_ r_ (T_ (ar_ (aw_ ?_)))))))))))))))))
    refine jq_ret1 rfl rfl [] rfl (fun K h => h)
  | succ F ih =>
    intro t hF
    have hF1 : (21 - ((F + 1 : Nat) : Int) + 1) = 21 - (F : Int) := by omega
    have hF2 : ¬ 20 < (21 - ((F + 1 : Nat) : Int)) := by omega
    have hF3 : 0 ≤ (21 - ((F + 1 : Nat) : Int)) ∧ (21 - ((F + 1 : Nat) : Int)) ≤ 20 := by omega
    generalize (21 - ((F + 1 : Nat) : Int)) = d at hF1 hF2 hF3 ⊢
    cases t with
    | nu n =>
      refine con_intro Tryz.func133 rfl rfl (Nat.le_of_ble_eq_true rfl) (fun c hc => R_ (o_ r_ (ci_ r_ (fun bx => E_ r_ (T_ (am_ (R_ (M_ r_ (o_ r_ (bz_ r_ r_ (T_ (ap_ r_ w_ (as_ (al_ (am_ (R_ (F_ r_ ?_)))))))))))))))))
      refine L_ 0 r_ (T_ (au_ (R_ (o_ r_ (bn_ r_ r_ (E_ r_ (T_ (aq_ r_ x_ (R_ (F_ r_ (L_ 0 r_ (o_ r_ (bm_ r_ (rsmallB_c _) (M_ r_ (jl_and 3 3 rfl rfl rfl rfl (nb rfl) ?_)))))))))))))))
      apply Exists.intro
      refine ⟨fun hb1 => ?_, ?_⟩
      exact ah_ r_ h_ b_ (bf_ r_ r_ r_ b_ (ah_ r_ h_ b_ (bg_ 0 r_ r_ r_ r_ (ah_ r_ h_ b_ (cs_ r_ r_ (ak_ (jq_seg 3 rfl rfl rfl (List.Perm.refl _))))))))
      refine M_ r_ (jl_and 3 8 rfl rfl rfl rfl (nb rfl) ?_)
      apply Exists.intro
      refine ⟨fun hb1 => ?_, ?_⟩
      exact ah_ r_ h_ b_ (bf_ r_ r_ r_ b_ (ah_ r_ h_ b_ (bg_ 0 r_ r_ r_ r_ (ah_ r_ h_ b_ (bn_ r_ r_ (ak_ (jq_seg 3 rfl rfl rfl (List.Perm.refl _))))))))
      refine M_ r_ (jl_and 4 13 rfl rfl rfl rfl (nb rfl) ?_)
      apply Exists.intro
      refine ⟨fun hb1 => ?_, ?_⟩
      exact ah_ r_ h_ b_ (bf_ r_ r_ r_ b_ (ah_ r_ h_ b_ (bg_ 0 r_ r_ r_ r_ (ah_ r_ h_ b_ (br_ r_ (fun hlen => ah_ r_ h_ b_ (bn_ r_ r_ (ak_ (jq_seg 4 rfl rfl rfl (List.Perm.refl _))))))))))
      refine E_ r_ (T_ (ar_ (az_ (aw_ (jq_bl 4 rfl (b' := smallB n) ?_ ?_)))))
      · simp [T.num, T.name, T.op, T.args]
      refine jq_ret1 rfl rfl [] rfl (fun K h => h)
    | nm s =>
      refine con_intro Tryz.func133 rfl rfl (Nat.le_of_ble_eq_true rfl) (fun c hc => R_ (o_ r_ (ci_ r_ (fun bx => E_ r_ (T_ (am_ (R_ (M_ r_ (o_ r_ (bz_ r_ r_ (T_ (ap_ r_ w_ (as_ (al_ (am_ (R_ (F_ r_ ?_)))))))))))))))))
      refine L_ 0 r_ (T_ (au_ (R_ (o_ r_ (bn_ r_ r_ (E_ r_ (T_ (ap_ r_ r_ (R_ (o_ r_ (bn_ r_ r_ (E_ r_ (T_ (aq_ r_ x_ (R_ (F_ r_ (L_ 0 r_ ?_)))))))))))))))))
      refine o_ r_ (bm_ r_ (rnameB_c _) (M_ r_ (jl_and 3 3 rfl rfl rfl rfl (nb rfl) ?_)))
      apply Exists.intro
      refine ⟨fun hb1 => ?_, ?_⟩
      exact ah_ r_ h_ b_ (bf_ r_ r_ r_ b_ (ah_ r_ h_ b_ (bg_ 0 r_ r_ r_ r_ (ah_ r_ h_ b_ (bn_ r_ r_ (ak_ (jq_seg 3 rfl rfl rfl (List.Perm.refl _))))))))
      refine M_ r_ (jl_and 3 8 rfl rfl rfl rfl (nb rfl) ?_)
      apply Exists.intro
      refine ⟨fun hb1 => ?_, ?_⟩
      exact ah_ r_ h_ b_ (bf_ r_ r_ r_ b_ (ah_ r_ h_ b_ (bg_ 0 r_ r_ r_ r_ (ah_ r_ h_ b_ (bn_ r_ r_ (ak_ (jq_seg 3 rfl rfl rfl (List.Perm.refl _))))))))
      refine M_ r_ (jl_and 4 13 rfl rfl rfl rfl (nb rfl) ?_)
      apply Exists.intro
      refine ⟨fun hb1 => ?_, ?_⟩
      exact ah_ r_ h_ b_ (bf_ r_ r_ r_ b_ (ah_ r_ h_ b_ (bg_ 0 r_ r_ r_ r_ (ah_ r_ h_ b_ (br_ r_ (fun hlen => ah_ r_ h_ b_ (bn_ r_ r_ (ak_ (jq_seg 4 rfl rfl rfl (List.Perm.refl _))))))))))
      refine E_ r_ (T_ (ar_ (az_ (aw_ (jq_bl 4 rfl (b' := nameB s) ?_ ?_)))))
      · simp [T.num, T.name, T.op, T.args]
      refine jq_ret1 rfl rfl [] rfl (fun K h => h)
    | ix s t =>
      have hI := ih t (by omega)
      rw [← hF1] at hI
      have e1 : [t].length = 1 := rfl
      show Con _ _ [.row [.val (.int .i64 3), .val (.int .i64 0), .val (.string s), .val (.int .i64 0), .list ([t].map T.row)], In .i64 d] [] _
      refine con_intro Tryz.func133 rfl rfl (Nat.le_of_ble_eq_true rfl) (fun c hc => R_ (o_ r_ (ci_ r_ (fun bx => E_ r_ (T_ (am_ (R_ (M_ r_ (o_ r_ (bz_ r_ r_ (T_ (ap_ r_ w_ (as_ (al_ (am_ (R_ (F_ r_ ?_)))))))))))))))))
      refine L_ 0 r_ (T_ (au_ (R_ (o_ r_ (bn_ r_ r_ (E_ r_ (T_ (ap_ r_ r_ (R_ (o_ r_ (bn_ r_ r_ (E_ r_ (T_ (ap_ r_ r_ (R_ (o_ r_ (bn_ r_ r_ (E_ r_ ?_))))))))))))))))))
      refine T_ (aq_ r_ x_ (R_ (F_ r_ (L_ 0 r_ (o_ r_ (bm_ r_ (rnameB_c _) (M_ r_ (jl_and 3 3 rfl rfl rfl rfl (nb rfl) ?_))))))))
      apply Exists.intro
      refine ⟨fun hb1 => ?_, ?_⟩
      exact ah_ r_ h_ b_ (bf_ r_ r_ r_ b_ (ah_ r_ h_ b_ (bg_ 0 r_ r_ r_ r_ (ah_ r_ h_ b_ (bn_ r_ r_ (ak_ (jq_seg 3 rfl rfl rfl (List.Perm.refl _))))))))
      refine M_ r_ (jl_and 3 8 rfl rfl rfl rfl (nb rfl) ?_)
      apply Exists.intro
      refine ⟨fun hb1 => ?_, ?_⟩
      exact ah_ r_ h_ b_ (bf_ r_ r_ r_ b_ (ah_ r_ h_ b_ (bg_ 0 r_ r_ r_ r_ (ah_ r_ h_ b_ (bn_ r_ r_ (ak_ (jq_seg 3 rfl rfl rfl (List.Perm.refl _))))))))
      refine M_ r_ (jl_and 4 13 rfl rfl rfl rfl (nb rfl) ?_)
      apply Exists.intro
      refine ⟨fun hb1 => ?_, ?_⟩
      exact ah_ r_ h_ b_ (bf_ r_ r_ r_ b_ (ah_ r_ h_ b_ (bg_ 0 r_ r_ r_ r_ (ah_ r_ h_ b_ (br_ r_ (fun hlen => ah_ r_ h_ b_ (bn_ r_ r_ (ak_ (jq_seg 4 rfl rfl rfl (List.Perm.refl _))))))))))
      refine M_ r_ (jl_and 7 19 rfl rfl rfl rfl (nb rfl) ?_)
      apply Exists.intro
      refine ⟨fun hb1 => ?_, ?_⟩
      exact ah_ r_ h_ b_ (bf_ r_ r_ r_ b_ (ah_ r_ h_ b_ (bg_ 0 r_ r_ r_ r_ (ah_ r_ h_ b_ (cv_ r_ r_ g_ g_ (T.row_eq _) r_ b_ (ah_ r_ h_ b_ (cr_ r_ r_ r_ (ah_ r_ h_ b_ (bd_ r_ (ah_ r_ h_ b_ (bj_ r_ r_ g_ (ah_ r_ h_ b_ (bm_ r_ (hI) (ak_ (jq_seg 7 rfl rfl rfl (List.Perm.refl _))))))))))))))))
      refine E_ r_ (T_ (ar_ (az_ (aw_ (jq_bl 4 rfl (b' := nameB s && shpF F t) ?_ ?_)))))
      · simp [T.num, T.name, T.op, T.args]
      refine jq_ret1 rfl rfl [] rfl (fun K h => h)
    | bn o a b =>
      have h1 := ih a (by omega)
      have h2 := ih b (by omega)
      rw [← hF1] at h1 h2
      have e1 : [a, b].length = 2 := rfl
      show Con _ _ [.row [.val (.int .i64 4), .val (.int .i64 0), .val (.string ⟨#[]⟩), .val (.int .i64 o), .list ([a, b].map T.row)], In .i64 d] [] _
      refine con_intro Tryz.func133 rfl rfl (Nat.le_of_ble_eq_true rfl) (fun c hc => R_ (o_ r_ (ci_ r_ (fun bx => E_ r_ (T_ (am_ (R_ (M_ r_ (o_ r_ (bz_ r_ r_ (T_ (ap_ r_ w_ (as_ (al_ (am_ (R_ (F_ r_ ?_)))))))))))))))))
      refine L_ 0 r_ (T_ (au_ (R_ (o_ r_ (bn_ r_ r_ (E_ r_ (T_ (ap_ r_ r_ (R_ (o_ r_ (bn_ r_ r_ (E_ r_ (T_ (ap_ r_ r_ (R_ (o_ r_ (bn_ r_ r_ (E_ r_ ?_))))))))))))))))))
      refine T_ (ap_ r_ r_ (R_ (o_ r_ (bn_ r_ r_ (E_ r_ (T_ (aq_ r_ x_ (R_ (F_ r_ (L_ 0 r_ (o_ r_ (cs_ r_ r_ (M_ r_ (ah_ r_ r_ b_ (bf_ r_ r_ r_ b_ (ah_ r_ r_ b_ (bg_ 0 r_ r_ r_ r_ (ah_ r_ r_ b_ (bn_ r_ r_ (o_ r_ (bp_ r_ x_ r_ ?_)))))))))))))))))))))
      refine M_ r_ (ah_ r_ r_ b_ (bf_ r_ r_ r_ b_ (ah_ r_ r_ b_ (bg_ 0 r_ r_ r_ r_ (ah_ r_ r_ b_ (cn_ r_ r_ (o_ r_ (bp_ r_ x_ r_ (M_ r_ (jl_and 3 13 rfl rfl rfl rfl (nb rfl) ?_))))))))))
      apply Exists.intro
      refine ⟨fun hb1 => ?_, ?_⟩
      exact ah_ r_ h_ b_ (bf_ r_ r_ r_ b_ (ah_ r_ h_ b_ (bg_ 0 r_ r_ r_ r_ (ah_ r_ h_ b_ (cu_ r_ r_ (ak_ (jq_seg 3 rfl rfl rfl (List.Perm.refl _))))))))
      refine M_ r_ (jl_and 4 18 rfl rfl rfl rfl (nb rfl) ?_)
      apply Exists.intro
      refine ⟨fun hb1 => ?_, ?_⟩
      exact ah_ r_ h_ b_ (bf_ r_ r_ r_ b_ (ah_ r_ h_ b_ (bg_ 0 r_ r_ r_ r_ (ah_ r_ h_ b_ (br_ r_ (fun hlen => ah_ r_ h_ b_ (bn_ r_ r_ (ak_ (jq_seg 4 rfl rfl rfl (List.Perm.refl _))))))))))
      refine M_ r_ (jl_and 7 24 rfl rfl rfl rfl (nb rfl) ?_)
      apply Exists.intro
      refine ⟨fun hb1 => ?_, ?_⟩
      exact ah_ r_ h_ b_ (bf_ r_ r_ r_ b_ (ah_ r_ h_ b_ (bg_ 0 r_ r_ r_ r_ (ah_ r_ h_ b_ (cv_ r_ r_ g_ g_ (T.row_eq _) r_ b_ (ah_ r_ h_ b_ (cr_ r_ r_ r_ (ah_ r_ h_ b_ (bd_ r_ (ah_ r_ h_ b_ (bj_ r_ r_ g_ (ah_ r_ h_ b_ (bm_ r_ (h1) (ak_ (jq_seg 7 rfl rfl rfl (List.Perm.refl _))))))))))))))))
      refine M_ r_ (jl_and 7 33 rfl rfl rfl rfl (nb rfl) ?_)
      apply Exists.intro
      refine ⟨fun hb1 => ?_, ?_⟩
      exact ah_ r_ h_ b_ (bf_ r_ r_ r_ b_ (ah_ r_ h_ b_ (bg_ 0 r_ r_ r_ r_ (ah_ r_ h_ b_ (cv_ r_ r_ g_ g_ (T.row_eq _) r_ b_ (ah_ r_ h_ b_ (cr_ r_ r_ r_ (ah_ r_ h_ b_ (bd_ r_ (ah_ r_ h_ b_ (bj_ r_ r_ g_ (ah_ r_ h_ b_ (bm_ r_ (h2) (ak_ (jq_seg 7 rfl rfl rfl (List.Perm.refl _))))))))))))))))
      refine E_ r_ (T_ (ar_ (az_ (aw_ (jq_bl 4 rfl (b' := decide (1 ≤ o) && decide (o ≤ 14) && shpF F a && shpF F b) ?_ ?_)))))
      · simp [T.num, T.name, T.op, T.args]
      refine jq_ret1 rfl rfl [] rfl (fun K h => h)
end Go.Proofs.YtlniadfidfmckaaGreatDoor
end

section
namespace Go.Proofs.YtlniadfidfmckaaGreatDoor
open Go.Vc
attribute [local irreducible] JL JC JQ OpWp Con ConN
attribute [local irreducible] byteAt runLen isL isD isName hasW nameB smallB plainB shpF
set_option maxHeartbeats 4000000

theorem roneB_c (l : List T) : Con Tryz.prog 113 [.cell (.list (l.map T.row))] [] (fun K => K (Bl (oneB l)) []) := by
  match l with
  | [] =>
    refine con_intro Tryz.func113 rfl rfl (Nat.le_of_ble_eq_true rfl) (fun c hc => ?_)
    have e1 : ([] : List T).length = 0 := rfl
    refine R_ (E_ r_ (T_ (R_ (M_ r_ (o_ r_ (br_ r_ (fun hlen => o_ r_ (bn_ r_ r_ (M_ r_ (ai_ r_ r_ b_ (ai_ r_ r_ b_ (ai_ r_ r_ b_ (ai_ r_ r_ b_ (o_ r_ (bv_ r_ r_ r_ (E_ r_ (T_ (ar_ ?_))))))))))))))))))
    refine jq_ret1 rfl rfl [] rfl (fun K h => h)
  | [x] =>
    have e1 : [x].length = 1 := rfl
    have h1 := rshapedB_c 20 x (by omega)
    refine con_intro Tryz.func113 rfl rfl (Nat.le_of_ble_eq_true rfl) (fun c hc => R_ (E_ r_ (T_ (R_ (M_ r_ (o_ r_ (br_ r_ (fun hlen => o_ r_ (bn_ r_ r_ (M_ r_ (ah_ r_ r_ b_ (bd_ r_ (ah_ r_ r_ b_ (cv_ r_ r_ g_ g_ (T.row_eq _) r_ b_ (ah_ r_ r_ b_ (cr_ r_ r_ r_ (ah_ r_ r_ b_ (bm_ r_ (h1) (o_ r_ (bp_ r_ x_ r_ (E_ r_ (T_ ?_))))))))))))))))))))))
    refine ar_ (jq_ret1 rfl rfl [] rfl (fun K h => h))
  | x :: y :: r =>
    have e1 : (((x :: y :: r).map T.row).length : Int) ≠ 1 := by simp; omega
    refine con_intro Tryz.func113 rfl rfl (Nat.le_of_ble_eq_true rfl) (fun c hc => R_ (E_ r_ (T_ (R_ (M_ r_ (o_ r_ (br_ r_ (fun hlen => o_ r_ (bn_ r_ r_ (M_ r_ (ai_ r_ r_ b_ (ai_ r_ r_ b_ (ai_ r_ r_ b_ (ai_ r_ r_ b_ (o_ r_ (bv_ r_ r_ r_ (E_ r_ (T_ ?_))))))))))))))))))
    refine ar_ (jq_ret1 rfl rfl [] rfl (fun K h => h))
theorem all_snoc {α : Type} {p : α → Bool} {l : List α} {k : Nat} (h : k < l.length) (h1 : (l.take k).all p = true) (h2 : p l[k] = true) : (l.take (k + 1)).all p = true := by
  rw [List.take_succ_eq_append_getElem h, List.all_append, h1]
  simp [h2]
theorem all_no {α : Type} {p : α → Bool} {l : List α} {k : Nat} (h : k < l.length) (h2 : p l[k] = false) : l.all p = false := by
  rw [Bool.eq_false_iff]
  intro h3
  have := List.all_eq_true.1 h3 l[k] (List.getElem_mem h)
  rw [h2] at this
  cases this
theorem rstmtsB_c : ∀ (F : Nat) (l : List Sm), F ≤ 20 → Con Tryz.prog 84 [.cell (.list (l.map Sm.row)), In .i64 (21 - (F : Int))] [] (fun K => K (Bl (okSs F l)) []) := by
  intro F
  induction F with
  | zero =>
    intro l _
    refine con_intro Tryz.func84 rfl rfl (Nat.le_of_ble_eq_true rfl) (fun c hc => R_ (E_ r_ (T_ (am_ (R_ (E_ r_ (T_ (au_ (jc_loopS (ι := Unit) [] (fun _ => True) (fun _ => [(0, .cell (.list (l.map Sm.row))), (1, In .i64 (21 - ((0 : Nat) : Int))), (5, In .i64 0)]) (fun _ => []) (fun _ => 0) () trivial ?_ ?_ ?_)))))))))
    · exact sub_end
    · (repeat (first | exact True.intro | refine ⟨rfl, ?_⟩))
    intro _ _
    refine am_ (R_ (M_ r_ (M_ r_ (o_ r_ (br_ r_ (fun hlen => o_ r_ (bw_ r_ r_ (M_ r_ (jl_and 2 4 rfl rfl rfl rfl (nb rfl) ?_)))))))))
    apply Exists.intro
    refine ⟨fun hb1 => ?_, ?_⟩
    exact ah_ r_ h_ b_ (bd_ r_ (ah_ r_ h_ b_ (cu_ r_ r_ (ak_ (jq_seg 2 rfl rfl rfl (List.Perm.refl _))))))
    refine T_ (jc_cond rfl (fun h => by simp at h) (fun _ => av_ (ax_ (ax_ (ba_ (al_ (R_ (E_ r_ (T_ (ar_ (jq_ret1 rfl rfl [] rfl (fun K h => h))))))))))))
  | succ F ih =>
    intro l hF
    have hF1 : (21 - ((F + 1 : Nat) : Int) + 1) = 21 - (F : Int) := by omega
    have hF3 : 0 ≤ (21 - ((F + 1 : Nat) : Int)) ∧ (21 - ((F + 1 : Nat) : Int)) ≤ 20 := by omega
    generalize (21 - ((F + 1 : Nat) : Int)) = d at hF1 hF3 ⊢
    have hI := fun m => ih m (by omega)
    rw [← hF1] at hI
    clear ih
    have eL : (l.map Sm.row).length = l.length := List.length_map _
    refine con_intro Tryz.func84 rfl rfl (Nat.le_of_ble_eq_true rfl) (fun c hc => R_ (E_ r_ (T_ (am_ (R_ (E_ r_ (T_ (au_ (jc_loopS (ι := Nat) [] (fun k => k ≤ l.length ∧ (l.take k).all (okOne (okSs F)) = true) (fun k => [(0, .cell (.list (l.map Sm.row))), (1, In .i64 d), (5, In .i64 (k : Int))]) (fun _ => []) (fun k => l.length - k) 0 ⟨Nat.zero_le _, rfl⟩ ?_ ?_ ?_)))))))))
    · exact sub_end
    · (repeat (first | exact True.intro | refine ⟨rfl, ?_⟩))
    rintro k ⟨hk, hall⟩
    by_cases hlt : k < l.length
    · have hlt2 : (k : Int) < ((l.map Sm.row).length : Int) := by omega
      have hd20 : d ≤ 20 := hF3.2
      refine am_ (R_ (M_ r_ (M_ r_ (o_ r_ (br_ r_ (fun hlen => o_ r_ (bw_ r_ r_ (M_ r_ (ah_ r_ u_ b_ (bd_ r_ (ah_ r_ u_ b_ (cu_ r_ r_ (o_ r_ (bp_ r_ u_ r_ (T_ (aq_ r_ u_ (as_ (al_ (B_ (R_ ?_))))))))))))))))))))
      refine M_ r_ (M_ r_ (o_ r_ (cc_ r_ r_ g_ (Sm.row_eq _) r_ b_ (o_ r_ (cr_ r_ r_ r_ (o_ r_ (bl_ r_ r_ (fun bl => S_ 0 r_ (T_ (R_ (E_ r_ (T_ (am_ (jc_cut (ι := Unit) [] (fun _ => True) (fun _ => (7, Bl (okOne (okSs F) l[k])) :: [(0, .cell (.list (l.map Sm.row))), (1, In .i64 d), (5, In .i64 (k : Int))]) (fun _ => [.blk bl 51 (l[k]).row']) ?_ ?_))))))))))))))
      · have eI : (l[k].index.map T.row).length = l[k].index.length := List.length_map _
        have eV : (l[k].value.map T.row).length = l[k].value.length := List.length_map _
        by_cases h1 : l[k].kind = 1
        · refine R_ (F_ r_ (L_ 0 r_ (T_ (au_ (R_ (o_ r_ (bn_ r_ r_ (E_ r_ (T_ (aq_ r_ u_ (an_ (F_ r_ (L_ 0 r_ (o_ r_ (bm_ r_ (rnameB_c _) (M_ r_ (jl_and 4 3 rfl rfl rfl rfl (nb rfl) ?_)))))))))))))))))
          apply Exists.intro
          refine ⟨fun hb1 => ?_, ?_⟩
          exact ah_ r_ h_ b_ (bf_ r_ r_ r_ b_ (ah_ r_ h_ b_ (bg_ 0 r_ r_ r_ r_ (ah_ r_ h_ b_ (br_ r_ (fun hlen => ah_ r_ h_ b_ (bn_ r_ r_ (ak_ (jq_seg 4 rfl rfl rfl (List.Perm.refl _))))))))))
          refine M_ r_ (jl_and 3 9 rfl rfl rfl rfl (nb rfl) ?_)
          apply Exists.intro
          refine ⟨fun hb1 => ?_, ?_⟩
          exact ah_ r_ h_ b_ (bf_ r_ r_ r_ b_ (ah_ r_ h_ b_ (bg_ 0 r_ r_ r_ r_ (ah_ r_ h_ b_ (bm_ r_ (roneB_c _) (ak_ (jq_seg 3 rfl rfl rfl (List.Perm.refl _))))))))
          refine M_ r_ (jl_and 3 14 rfl rfl rfl rfl (nb rfl) ?_)
          apply Exists.intro
          refine ⟨fun hb1 => ?_, ?_⟩
          exact ah_ r_ h_ b_ (bf_ r_ r_ r_ b_ (ah_ r_ h_ b_ (bg_ 0 r_ r_ r_ r_ (ah_ r_ h_ b_ (bn_ r_ r_ (ak_ (jq_seg 3 rfl rfl rfl (List.Perm.refl _))))))))
          refine M_ r_ (jl_and 3 19 rfl rfl rfl rfl (nb rfl) ?_)
          apply Exists.intro
          refine ⟨fun hb1 => ?_, ?_⟩
          exact ah_ r_ h_ b_ (bf_ r_ r_ r_ b_ (ah_ r_ h_ b_ (bg_ 0 r_ r_ r_ r_ (ah_ r_ h_ b_ (bn_ r_ r_ (ak_ (jq_seg 3 rfl rfl rfl (List.Perm.refl _))))))))
          refine M_ r_ (jl_and 4 24 rfl rfl rfl rfl (nb rfl) ?_)
          apply Exists.intro
          refine ⟨fun hb1 => ?_, ?_⟩
          exact ah_ r_ h_ b_ (bf_ r_ r_ r_ b_ (ah_ r_ h_ b_ (bg_ 0 r_ r_ r_ r_ (ah_ r_ h_ b_ (br_ r_ (fun hlen => ah_ r_ h_ b_ (bn_ r_ r_ (ak_ (jq_seg 4 rfl rfl rfl (List.Perm.refl _))))))))))
          refine M_ r_ (jl_and 4 30 rfl rfl rfl rfl (nb rfl) ?_)
          apply Exists.intro
          refine ⟨fun hb1 => ?_, ?_⟩
          exact ah_ r_ h_ b_ (bf_ r_ r_ r_ b_ (ah_ r_ h_ b_ (bg_ 0 r_ r_ r_ r_ (ah_ r_ h_ b_ (br_ r_ (fun hlen => ah_ r_ h_ b_ (bn_ r_ r_ (ak_ (jq_seg 4 rfl rfl rfl (List.Perm.refl _))))))))))
          refine E_ r_ (ak_ (ay_ (jq_bl 7 rfl (b' := okOne (okSs F) l[k]) (by simp [okOne, h1]) (jq_cutS () trivial ?_ ?_))))
          · exact bc_ 0 r_ sub_end
          · (repeat (first | exact True.intro | refine ⟨rfl, ?_⟩))
        by_cases h2 : l[k].kind = 2
        · refine R_ (F_ r_ (L_ 0 r_ (T_ (au_ (R_ (o_ r_ (bn_ r_ r_ (E_ r_ (T_ (ap_ r_ w_ (R_ (o_ r_ (bn_ r_ r_ (E_ r_ (T_ (aq_ r_ u_ (an_ ?_)))))))))))))))))
          refine F_ r_ (L_ 0 r_ (o_ r_ (bm_ r_ (rnameB_c _) (M_ r_ (jl_and 3 3 rfl rfl rfl rfl (nb rfl) ?_)))))
          apply Exists.intro
          refine ⟨fun hb1 => ?_, ?_⟩
          exact ah_ r_ h_ b_ (bf_ r_ r_ r_ b_ (ah_ r_ h_ b_ (bg_ 0 r_ r_ r_ r_ (ah_ r_ h_ b_ (bm_ r_ (roneB_c _) (ak_ (jq_seg 3 rfl rfl rfl (List.Perm.refl _))))))))
          refine M_ r_ (jl_and 3 8 rfl rfl rfl rfl (nb rfl) ?_)
          apply Exists.intro
          refine ⟨fun hb1 => ?_, ?_⟩
          exact ah_ r_ h_ b_ (bf_ r_ r_ r_ b_ (ah_ r_ h_ b_ (bg_ 0 r_ r_ r_ r_ (ah_ r_ h_ b_ (bm_ r_ (roneB_c _) (ak_ (jq_seg 3 rfl rfl rfl (List.Perm.refl _))))))))
          refine M_ r_ (jl_and 3 13 rfl rfl rfl rfl (nb rfl) ?_)
          apply Exists.intro
          refine ⟨fun hb1 => ?_, ?_⟩
          exact ah_ r_ h_ b_ (bf_ r_ r_ r_ b_ (ah_ r_ h_ b_ (bg_ 0 r_ r_ r_ r_ (ah_ r_ h_ b_ (bn_ r_ r_ (ak_ (jq_seg 3 rfl rfl rfl (List.Perm.refl _))))))))
          refine M_ r_ (jl_and 3 18 rfl rfl rfl rfl (nb rfl) ?_)
          apply Exists.intro
          refine ⟨fun hb1 => ?_, ?_⟩
          exact ah_ r_ h_ b_ (bf_ r_ r_ r_ b_ (ah_ r_ h_ b_ (bg_ 0 r_ r_ r_ r_ (ah_ r_ h_ b_ (bn_ r_ r_ (ak_ (jq_seg 3 rfl rfl rfl (List.Perm.refl _))))))))
          refine M_ r_ (jl_and 4 23 rfl rfl rfl rfl (nb rfl) ?_)
          apply Exists.intro
          refine ⟨fun hb1 => ?_, ?_⟩
          exact ah_ r_ h_ b_ (bf_ r_ r_ r_ b_ (ah_ r_ h_ b_ (bg_ 0 r_ r_ r_ r_ (ah_ r_ h_ b_ (br_ r_ (fun hlen => ah_ r_ h_ b_ (bn_ r_ r_ (ak_ (jq_seg 4 rfl rfl rfl (List.Perm.refl _))))))))))
          refine M_ r_ (jl_and 4 29 rfl rfl rfl rfl (nb rfl) ?_)
          apply Exists.intro
          refine ⟨fun hb1 => ?_, ?_⟩
          exact ah_ r_ h_ b_ (bf_ r_ r_ r_ b_ (ah_ r_ h_ b_ (bg_ 0 r_ r_ r_ r_ (ah_ r_ h_ b_ (br_ r_ (fun hlen => ah_ r_ h_ b_ (bn_ r_ r_ (ak_ (jq_seg 4 rfl rfl rfl (List.Perm.refl _))))))))))
          refine E_ r_ (ak_ (ay_ (jq_bl 7 rfl (b' := okOne (okSs F) l[k]) (by simp [okOne, h2]) (jq_cutS () trivial ?_ ?_))))
          · exact bc_ 0 r_ sub_end
          · (repeat (first | exact True.intro | refine ⟨rfl, ?_⟩))
        by_cases h3 : l[k].kind = 3
        · refine R_ (F_ r_ (L_ 0 r_ (T_ (au_ (R_ (o_ r_ (bn_ r_ r_ (E_ r_ (T_ (ap_ r_ w_ (R_ (o_ r_ (bn_ r_ r_ (E_ r_ (T_ (ap_ r_ w_ (R_ ?_)))))))))))))))))
          refine o_ r_ (bn_ r_ r_ (E_ r_ (T_ (aq_ r_ u_ (an_ (F_ r_ (L_ 0 r_ (o_ r_ (cs_ r_ r_ (M_ r_ (jl_and 4 3 rfl rfl rfl rfl (nb rfl) ?_)))))))))))
          apply Exists.intro
          refine ⟨fun hb1 => ?_, ?_⟩
          exact ah_ r_ h_ b_ (bf_ r_ r_ r_ b_ (ah_ r_ h_ b_ (bg_ 0 r_ r_ r_ r_ (ah_ r_ h_ b_ (br_ r_ (fun hlen => ah_ r_ h_ b_ (bn_ r_ r_ (ak_ (jq_seg 4 rfl rfl rfl (List.Perm.refl _))))))))))
          refine M_ r_ (jl_and 3 9 rfl rfl rfl rfl (nb rfl) ?_)
          apply Exists.intro
          refine ⟨fun hb1 => ?_, ?_⟩
          exact ah_ r_ h_ b_ (bf_ r_ r_ r_ b_ (ah_ r_ h_ b_ (bg_ 0 r_ r_ r_ r_ (ah_ r_ h_ b_ (bm_ r_ (roneB_c _) (ak_ (jq_seg 3 rfl rfl rfl (List.Perm.refl _))))))))
          refine M_ r_ (jl_and 3 14 rfl rfl rfl rfl (nb rfl) ?_)
          apply Exists.intro
          refine ⟨fun hb1 => ?_, ?_⟩
          exact ah_ r_ h_ b_ (bf_ r_ r_ r_ b_ (ah_ r_ h_ b_ (bg_ 0 r_ r_ r_ r_ (ah_ r_ h_ b_ (bn_ r_ r_ (ak_ (jq_seg 3 rfl rfl rfl (List.Perm.refl _))))))))
          refine M_ r_ (jl_and 3 19 rfl rfl rfl rfl (nb rfl) ?_)
          apply Exists.intro
          refine ⟨fun hb1 => ?_, ?_⟩
          exact ah_ r_ h_ b_ (bf_ r_ r_ r_ b_ (ah_ r_ h_ b_ (bg_ 0 r_ r_ r_ r_ (ah_ r_ h_ b_ (bm_ r_ (rplainB_c _) (ak_ (jq_seg 3 rfl rfl rfl (List.Perm.refl _))))))))
          refine M_ r_ (jl_and 5 24 rfl rfl rfl rfl (nb rfl) ?_)
          apply Exists.intro
          refine ⟨fun hb1 => ?_, ?_⟩
          exact ah_ r_ h_ b_ (bf_ r_ r_ r_ b_ (ah_ r_ h_ b_ (bg_ 0 r_ r_ r_ r_ (ah_ r_ h_ b_ (bd_ r_ (ah_ r_ h_ b_ (bj_ r_ r_ g_ (ah_ r_ h_ b_ (bm_ r_ (hI _) (ak_ (jq_seg 5 rfl rfl rfl (List.Perm.refl _))))))))))))
          refine M_ r_ (jl_and 5 31 rfl rfl rfl rfl (nb rfl) ?_)
          apply Exists.intro
          refine ⟨fun hb1 => ?_, ?_⟩
          exact ah_ r_ h_ b_ (bf_ r_ r_ r_ b_ (ah_ r_ h_ b_ (bg_ 0 r_ r_ r_ r_ (ah_ r_ h_ b_ (bd_ r_ (ah_ r_ h_ b_ (bj_ r_ r_ g_ (ah_ r_ h_ b_ (bm_ r_ (hI _) (ak_ (jq_seg 5 rfl rfl rfl (List.Perm.refl _))))))))))))
          refine E_ r_ (ak_ (ay_ (jq_bl 7 rfl (b' := okOne (okSs F) l[k]) (by simp [okOne, h3]) (jq_cutS () trivial ?_ ?_))))
          · exact bc_ 0 r_ sub_end
          · (repeat (first | exact True.intro | refine ⟨rfl, ?_⟩))
        by_cases h4 : l[k].kind = 4
        · refine R_ (F_ r_ (L_ 0 r_ (T_ (au_ (R_ (o_ r_ (bn_ r_ r_ (E_ r_ (T_ (ap_ r_ w_ (R_ (o_ r_ (bn_ r_ r_ (E_ r_ (T_ (ap_ r_ w_ (R_ ?_)))))))))))))))))
          refine o_ r_ (bn_ r_ r_ (E_ r_ (T_ (ap_ r_ w_ (R_ (o_ r_ (bn_ r_ r_ (E_ r_ (T_ (aq_ r_ u_ (an_ (F_ r_ (L_ 0 r_ (o_ r_ (cs_ r_ r_ (M_ r_ (jl_and 4 3 rfl rfl rfl rfl (nb rfl) ?_)))))))))))))))))
          apply Exists.intro
          refine ⟨fun hb1 => ?_, ?_⟩
          exact ah_ r_ h_ b_ (bf_ r_ r_ r_ b_ (ah_ r_ h_ b_ (bg_ 0 r_ r_ r_ r_ (ah_ r_ h_ b_ (br_ r_ (fun hlen => ah_ r_ h_ b_ (bn_ r_ r_ (ak_ (jq_seg 4 rfl rfl rfl (List.Perm.refl _))))))))))
          refine M_ r_ (jl_and 3 9 rfl rfl rfl rfl (nb rfl) ?_)
          apply Exists.intro
          refine ⟨fun hb1 => ?_, ?_⟩
          exact ah_ r_ h_ b_ (bf_ r_ r_ r_ b_ (ah_ r_ h_ b_ (bg_ 0 r_ r_ r_ r_ (ah_ r_ h_ b_ (bm_ r_ (roneB_c _) (ak_ (jq_seg 3 rfl rfl rfl (List.Perm.refl _))))))))
          refine M_ r_ (jl_and 3 14 rfl rfl rfl rfl (nb rfl) ?_)
          apply Exists.intro
          refine ⟨fun hb1 => ?_, ?_⟩
          exact ah_ r_ h_ b_ (bf_ r_ r_ r_ b_ (ah_ r_ h_ b_ (bg_ 0 r_ r_ r_ r_ (ah_ r_ h_ b_ (bm_ r_ (rplainB_c _) (ak_ (jq_seg 3 rfl rfl rfl (List.Perm.refl _))))))))
          refine M_ r_ (jl_and 3 19 rfl rfl rfl rfl (nb rfl) ?_)
          apply Exists.intro
          refine ⟨fun hb1 => ?_, ?_⟩
          exact ah_ r_ h_ b_ (bf_ r_ r_ r_ b_ (ah_ r_ h_ b_ (bg_ 0 r_ r_ r_ r_ (ah_ r_ h_ b_ (bm_ r_ (rplainB_c _) (ak_ (jq_seg 3 rfl rfl rfl (List.Perm.refl _))))))))
          refine M_ r_ (jl_and 5 24 rfl rfl rfl rfl (nb rfl) ?_)
          apply Exists.intro
          refine ⟨fun hb1 => ?_, ?_⟩
          exact ah_ r_ h_ b_ (bf_ r_ r_ r_ b_ (ah_ r_ h_ b_ (bg_ 0 r_ r_ r_ r_ (ah_ r_ h_ b_ (bd_ r_ (ah_ r_ h_ b_ (bj_ r_ r_ g_ (ah_ r_ h_ b_ (bm_ r_ (hI _) (ak_ (jq_seg 5 rfl rfl rfl (List.Perm.refl _))))))))))))
          refine M_ r_ (jl_and 4 31 rfl rfl rfl rfl (nb rfl) ?_)
          apply Exists.intro
          refine ⟨fun hb1 => ?_, ?_⟩
          exact ah_ r_ h_ b_ (bf_ r_ r_ r_ b_ (ah_ r_ h_ b_ (bg_ 0 r_ r_ r_ r_ (ah_ r_ h_ b_ (br_ r_ (fun hlen => ah_ r_ h_ b_ (bn_ r_ r_ (ak_ (jq_seg 4 rfl rfl rfl (List.Perm.refl _))))))))))
          refine E_ r_ (ak_ (ay_ (jq_bl 7 rfl (b' := okOne (okSs F) l[k]) (by simp [okOne, h4]) (jq_cutS () trivial ?_ ?_))))
          · exact bc_ 0 r_ sub_end
          · (repeat (first | exact True.intro | refine ⟨rfl, ?_⟩))
        by_cases h5 : l[k].kind = 5
        · refine R_ (F_ r_ (L_ 0 r_ (T_ (au_ (R_ (o_ r_ (bn_ r_ r_ (E_ r_ (T_ (ap_ r_ w_ (R_ (o_ r_ (bn_ r_ r_ (E_ r_ (T_ (ap_ r_ w_ (R_ ?_)))))))))))))))))
          refine o_ r_ (bn_ r_ r_ (E_ r_ (T_ (ap_ r_ w_ (R_ (o_ r_ (bn_ r_ r_ (E_ r_ (T_ (ap_ r_ w_ (R_ (o_ r_ (bn_ r_ r_ (E_ r_ (T_ (aq_ r_ u_ (an_ (F_ r_ ?_))))))))))))))))))
          refine L_ 0 r_ (o_ r_ (bm_ r_ (rnameB_c _) (M_ r_ (jl_and 4 3 rfl rfl rfl rfl (nb rfl) ?_))))
          apply Exists.intro
          refine ⟨fun hb1 => ?_, ?_⟩
          exact ah_ r_ h_ b_ (bf_ r_ r_ r_ b_ (ah_ r_ h_ b_ (bg_ 0 r_ r_ r_ r_ (ah_ r_ h_ b_ (br_ r_ (fun hlen => ah_ r_ h_ b_ (bn_ r_ r_ (ak_ (jq_seg 4 rfl rfl rfl (List.Perm.refl _))))))))))
          refine M_ r_ (jl_and 4 9 rfl rfl rfl rfl (nb rfl) ?_)
          apply Exists.intro
          refine ⟨fun hb1 => ?_, ?_⟩
          exact ah_ r_ h_ b_ (bf_ r_ r_ r_ b_ (ah_ r_ h_ b_ (bg_ 0 r_ r_ r_ r_ (ah_ r_ h_ b_ (br_ r_ (fun hlen => ah_ r_ h_ b_ (bn_ r_ r_ (ak_ (jq_seg 4 rfl rfl rfl (List.Perm.refl _))))))))))
          refine M_ r_ (jl_and 3 15 rfl rfl rfl rfl (nb rfl) ?_)
          apply Exists.intro
          refine ⟨fun hb1 => ?_, ?_⟩
          exact ah_ r_ h_ b_ (bf_ r_ r_ r_ b_ (ah_ r_ h_ b_ (bg_ 0 r_ r_ r_ r_ (ah_ r_ h_ b_ (bn_ r_ r_ (ak_ (jq_seg 3 rfl rfl rfl (List.Perm.refl _))))))))
          refine M_ r_ (jl_and 3 20 rfl rfl rfl rfl (nb rfl) ?_)
          apply Exists.intro
          refine ⟨fun hb1 => ?_, ?_⟩
          exact ah_ r_ h_ b_ (bf_ r_ r_ r_ b_ (ah_ r_ h_ b_ (bg_ 0 r_ r_ r_ r_ (ah_ r_ h_ b_ (bn_ r_ r_ (ak_ (jq_seg 3 rfl rfl rfl (List.Perm.refl _))))))))
          refine M_ r_ (jl_and 5 25 rfl rfl rfl rfl (nb rfl) ?_)
          apply Exists.intro
          refine ⟨fun hb1 => ?_, ?_⟩
          exact ah_ r_ h_ b_ (bf_ r_ r_ r_ b_ (ah_ r_ h_ b_ (bg_ 0 r_ r_ r_ r_ (ah_ r_ h_ b_ (bd_ r_ (ah_ r_ h_ b_ (bj_ r_ r_ g_ (ah_ r_ h_ b_ (bm_ r_ (hI _) (ak_ (jq_seg 5 rfl rfl rfl (List.Perm.refl _))))))))))))
          refine M_ r_ (jl_and 4 32 rfl rfl rfl rfl (nb rfl) ?_)
          apply Exists.intro
          refine ⟨fun hb1 => ?_, ?_⟩
          exact ah_ r_ h_ b_ (bf_ r_ r_ r_ b_ (ah_ r_ h_ b_ (bg_ 0 r_ r_ r_ r_ (ah_ r_ h_ b_ (br_ r_ (fun hlen => ah_ r_ h_ b_ (bn_ r_ r_ (ak_ (jq_seg 4 rfl rfl rfl (List.Perm.refl _))))))))))
          refine E_ r_ (ak_ (ay_ (jq_bl 7 rfl (b' := okOne (okSs F) l[k]) (by simp [okOne, h5]) (jq_cutS () trivial ?_ ?_))))
          · exact bc_ 0 r_ sub_end
          · (repeat (first | exact True.intro | refine ⟨rfl, ?_⟩))
        · refine R_ (F_ r_ (L_ 0 r_ (T_ (au_ (R_ (o_ r_ (bn_ r_ r_ (E_ r_ (T_ (ap_ r_ w_ (R_ (o_ r_ (bn_ r_ r_ (E_ r_ (T_ (ap_ r_ w_ (R_ ?_)))))))))))))))))
          refine o_ r_ (bn_ r_ r_ (E_ r_ (T_ (ap_ r_ w_ (R_ (o_ r_ (bn_ r_ r_ (E_ r_ (T_ (ap_ r_ w_ (R_ (o_ r_ (bn_ r_ r_ (E_ r_ (T_ (ap_ r_ w_ (as_ (ay_ ?_))))))))))))))))))
          refine jq_bl 7 rfl (b' := okOne (okSs F) l[k]) (by simp [okOne, h1, h2, h3, h4, h5]) (jq_cutS () trivial ?_ ?_)
          · exact bc_ 0 r_ sub_end
          · (repeat (first | exact True.intro | refine ⟨rfl, ?_⟩))
      intro _ _
      by_cases hok : okOne (okSs F) l[k] = true
      · have hokN : (!okOne (okSs F) l[k]) = false := by rw [hok]; rfl
        refine R_ (M_ r_ (o_ r_ (cd_ r_ (T_ (ap_ r_ h_ (as_ (ay_ (al_ (an_ (M_ r_ (o_ r_ (bj_ r_ r_ g_ (E_ r_ (ak_ (jq_againS (k + 1) ⟨hlt, all_snoc hlt hall hok⟩ g_ ?_ ?_)))))))))))))))
        · exact sub_end
        · (repeat (first | exact True.intro | refine ⟨rfl, ?_⟩))
      · have hok : okOne (okSs F) l[k] = false := by simpa using hok
        have hno : okSs (F + 1) l = false := all_no hlt hok
        have hokN : (!okOne (okSs F) l[k]) = true := by rw [hok]; rfl
        refine R_ (M_ r_ (o_ r_ (cd_ r_ (T_ (aq_ r_ h_ (R_ (E_ r_ (T_ (ar_ (az_ (aw_ (aw_ (az_ (aw_ (jq_ret1 rfl rfl [] rfl (fun K h => by rw [hno] at h; exact h))))))))))))))))
    · have hlt2 : ¬ (k : Int) < ((l.map Sm.row).length : Int) := by omega
      have hyes : okSs (F + 1) l = true := by rw [List.take_of_length_le (by omega)] at hall; exact hall
      refine am_ (R_ (M_ r_ (M_ r_ (o_ r_ (br_ r_ (fun hlen => o_ r_ (bw_ r_ r_ (M_ r_ (ai_ r_ w_ b_ (ai_ r_ w_ b_ (o_ r_ (bv_ r_ w_ r_ (T_ (ap_ r_ r_ (av_ (ax_ (ax_ (ba_ ?_))))))))))))))))))
      refine al_ (R_ (E_ r_ (T_ (ar_ (jq_ret1 rfl rfl [] rfl (fun K h => by rw [hyes] at h; exact h))))))
end Go.Proofs.YtlniadfidfmckaaGreatDoor
end

section
namespace Go.Proofs.YtlniadfidfmckaaGreatDoor
open Go.Vc
attribute [local irreducible] JL JC JQ OpWp Con ConN
attribute [local irreducible] byteAt runLen isL isD isName hasW nameB smallB plainB shpF
set_option maxHeartbeats 4000000

def inB (x : Inp) : Bool := nameB x.1 && smallB x.2.1 && smallB x.2.2
def arB (x : Arr) : Bool := nameB x.1 && plainB x.2
def mdB (x : Md) : Bool := nameB x.1 && nameB x.2.1 && smallB x.2.2.1 && smallB x.2.2.2
def clB (x : Clm) : Bool := plainB x.1 && plainB x.2
def shB (x : Shd) : Bool := nameB x.1 && plainB x.2.1 && nameB x.2.2
def hdB (t : Tk) : Bool := nameB t.name && plainB t.period && plainB t.deadline && plainB t.priority && plainB t.jitter
def okTk (t : Tk) : Bool := hdB t && okSs 20 t.body && t.inputs.all inB && t.vars.all nameB && t.arrays.all arB && t.modes.all mdB && t.claims.all clB
def okPg (p : Pg) : Bool := p.res.all nameB && p.shared.all shB && p.tasks.all okTk
theorem rtaskB_c (t : Tk) : Con Tryz.prog 55 [.row t.row] [] (fun K => K (Bl (okTk t)) []) := by
  have hS := rstmtsB_c 20 t.body (by omega)
  refine con_intro Tryz.func55 rfl rfl (Nat.le_of_ble_eq_true rfl) (fun c hc => R_ (o_ r_ (ci_ r_ (fun bx => E_ r_ (T_ (am_ (R_ (F_ r_ (L_ 0 r_ (o_ r_ (bm_ r_ (rnameB_c _) (o_ r_ (cd_ r_ (M_ r_ (jl_or 4 4 rfl rfl rfl rfl (nb rfl) ?_)))))))))))))))
  apply Exists.intro
  refine ⟨fun hb1 => ?_, ?_⟩
  exact ah_ r_ h_ b_ (bf_ r_ r_ r_ b_ (ah_ r_ h_ b_ (bg_ 0 r_ r_ r_ r_ (ah_ r_ h_ b_ (bm_ r_ (rplainB_c _) (ah_ r_ h_ b_ (cd_ r_ (ak_ (jq_seg 4 rfl rfl rfl (List.Perm.refl _))))))))))
  refine M_ r_ (jl_or 4 10 rfl rfl rfl rfl (nb rfl) ?_)
  apply Exists.intro
  refine ⟨fun hb1 => ?_, ?_⟩
  exact ah_ r_ h_ b_ (bf_ r_ r_ r_ b_ (ah_ r_ h_ b_ (bg_ 0 r_ r_ r_ r_ (ah_ r_ h_ b_ (bm_ r_ (rplainB_c _) (ah_ r_ h_ b_ (cd_ r_ (ak_ (jq_seg 4 rfl rfl rfl (List.Perm.refl _))))))))))
  refine M_ r_ (jl_or 4 16 rfl rfl rfl rfl (nb rfl) ?_)
  apply Exists.intro
  refine ⟨fun hb1 => ?_, ?_⟩
  exact ah_ r_ h_ b_ (bf_ r_ r_ r_ b_ (ah_ r_ h_ b_ (bg_ 0 r_ r_ r_ r_ (ah_ r_ h_ b_ (bm_ r_ (rplainB_c _) (ah_ r_ h_ b_ (cd_ r_ (ak_ (jq_seg 4 rfl rfl rfl (List.Perm.refl _))))))))))
  refine M_ r_ (jl_or 4 22 rfl rfl rfl rfl (nb rfl) ?_)
  apply Exists.intro
  refine ⟨fun hb1 => ?_, ?_⟩
  exact ah_ r_ h_ b_ (bf_ r_ r_ r_ b_ (ah_ r_ h_ b_ (bg_ 0 r_ r_ r_ r_ (ah_ r_ h_ b_ (bm_ r_ (rplainB_c _) (ah_ r_ h_ b_ (cd_ r_ (ak_ (jq_seg 4 rfl rfl rfl (List.Perm.refl _))))))))))
  refine M_ r_ (jl_or 4 28 rfl rfl rfl rfl (nb rfl) ?_)
  apply Exists.intro
  refine ⟨fun hb1 => ?_, ?_⟩
  exact ah_ r_ h_ b_ (bf_ r_ r_ r_ b_ (ah_ r_ h_ b_ (bg_ 0 r_ r_ r_ r_ (ah_ r_ h_ b_ (bm_ r_ (hS) (ah_ r_ h_ b_ (cd_ r_ (ak_ (jq_seg 4 rfl rfl rfl (List.Perm.refl _))))))))))
  refine T_ (jc_cond rfl (fun hn => ?_) (fun hy => ?_))
  · have hp : (hdB t && okSs 20 t.body) = false := by
      cases hcs : (hdB t && okSs 20 t.body) with
      | false => rfl
      | true =>
        exfalso
        simp only [hdB, Bool.and_eq_true] at hcs
        simp [hcs] at hn
    have hres : okTk t = false := by unfold okTk; rw [hp]; rfl
    refine R_ (E_ r_ (T_ (ar_ (aw_ (jq_ret1 rfl rfl [] rfl (fun K h => by rw [hres] at h; exact h))))))
  have h0 : (hdB t && okSs 20 t.body) = true := by simpa [hdB, and_assoc] using hy
  clear hy
  refine as_ (al_ (am_ (jc_cut (ι := Unit) [] (fun _ => (t.inputs).all inB = true) (fun _ => [(1, .cell (.val (.pointer (some ⟨bx, 0, none⟩))))]) (fun _ => [.blk bx 41 t.row]) ?_ ?_)))
  · refine R_ (E_ r_ (T_ (au_ (jc_loopS (ι := Nat) [] (fun k => k ≤ (t.inputs).length ∧ ((t.inputs).take k).all inB = true) (fun k => (3, In .i64 (k : Int)) :: [(1, .cell (.val (.pointer (some ⟨bx, 0, none⟩))))]) (fun _ => [.blk bx 41 t.row]) (fun k => (t.inputs).length - k) 0 ⟨Nat.zero_le _, rfl⟩ ?_ ?_ ?_))))
    · exact bc_ 0 r_ sub_end
    · (repeat (first | exact True.intro | refine ⟨rfl, ?_⟩))
    rintro k ⟨hk, hall⟩
    have eL : ((t.inputs).map InRow).length = (t.inputs).length := List.length_map _
    by_cases hlt : k < (t.inputs).length
    · have hlt2 : (k : Int) < (((t.inputs).map InRow).length : Int) := by omega
      refine am_ (R_ (M_ r_ (F_ r_ (L_ 0 r_ (o_ r_ (br_ r_ (fun hlen => o_ r_ (bw_ r_ r_ (T_ (aq_ r_ u_ (as_ (al_ (B_ (R_ (F_ r_ (L_ 0 r_ (M_ r_ ?_)))))))))))))))))
      refine o_ r_ (cc_ r_ r_ g_ r_ r_ b_ (o_ r_ (cf_ r_ r_ r_ b_ r_ b_ (o_ r_ (cb_ r_ r_ (o_ r_ (bm_ r_ (rnameB_c _) (o_ r_ (cd_ r_ (M_ r_ (jl_or 8 8 rfl rfl rfl rfl (nb rfl) ?_)))))))))))
      apply Exists.intro
      refine ⟨fun hb1 => ?_, ?_⟩
      exact ah_ r_ h_ b_ (bf_ r_ r_ r_ b_ (ah_ r_ h_ b_ (bg_ 0 r_ r_ r_ r_ (ah_ r_ h_ b_ (bd_ r_ (ah_ r_ h_ b_ (cc_ r_ r_ g_ r_ r_ b_ (ah_ r_ h_ b_ (cf_ r_ r_ r_ b_ r_ b_ (ah_ r_ h_ b_ (cb_ r_ r_ (ah_ r_ h_ b_ (bm_ r_ (rsmallB_c _) (ah_ r_ h_ b_ (cd_ r_ (ak_ (jq_seg 8 rfl rfl rfl (List.Perm.refl _))))))))))))))))))
      refine M_ r_ (jl_or 8 18 rfl rfl rfl rfl (nb rfl) ?_)
      apply Exists.intro
      refine ⟨fun hb1 => ?_, ?_⟩
      exact ah_ r_ h_ b_ (bf_ r_ r_ r_ b_ (ah_ r_ h_ b_ (bg_ 0 r_ r_ r_ r_ (ah_ r_ h_ b_ (bd_ r_ (ah_ r_ h_ b_ (cc_ r_ r_ g_ r_ r_ b_ (ah_ r_ h_ b_ (cf_ r_ r_ r_ b_ r_ b_ (ah_ r_ h_ b_ (cb_ r_ r_ (ah_ r_ h_ b_ (bm_ r_ (rsmallB_c _) (ah_ r_ h_ b_ (cd_ r_ (ak_ (jq_seg 8 rfl rfl rfl (List.Perm.refl _))))))))))))))))))
      refine T_ (jc_cond rfl (fun hn => ?_) (fun hy => ?_))
      · have hp : inB (t.inputs)[k] = false := by
          cases hcs : inB (t.inputs)[k] with
          | false => rfl
          | true =>
            exfalso
            try simp only [inB, Bool.and_eq_true] at hcs
            simp [hcs] at hn
        have hno : (t.inputs).all inB = false := all_no hlt hp
        have hres : okTk t = false := by unfold okTk; simp [hno]
        refine R_ (E_ r_ (T_ (ar_ (az_ (aw_ (aw_ (az_ (aw_ (jq_ret1 rfl rfl [] rfl (fun K h => by rw [hres] at h; exact h))))))))))
      · have hp : inB (t.inputs)[k] = true := by simpa [inB, and_assoc] using hy
        refine as_ (ay_ (al_ (an_ (M_ r_ (o_ r_ (bj_ r_ r_ g_ (E_ r_ (ak_ (jq_againS (k + 1) ⟨hlt, all_snoc hlt hall hp⟩ g_ ?_ ?_)))))))))
        · exact bc_ 0 r_ sub_end
        · (repeat (first | exact True.intro | refine ⟨rfl, ?_⟩))
    · have hlt2 : ¬ (k : Int) < (((t.inputs).map InRow).length : Int) := by omega
      refine am_ (R_ (M_ r_ (F_ r_ (L_ 0 r_ (o_ r_ (br_ r_ (fun hlen => o_ r_ (bw_ r_ r_ (T_ (ap_ r_ w_ (av_ (ax_ (ax_ (ba_ (jq_cutS () (by rw [List.take_of_length_le g_] at hall; exact hall) ?_ ?_)))))))))))))))
      · exact bc_ 0 r_ sub_end
      · (repeat (first | exact True.intro | refine ⟨rfl, ?_⟩))
  intro _ h1
  refine am_ (jc_cut (ι := Unit) [] (fun _ => (t.vars).all nameB = true) (fun _ => [(1, .cell (.val (.pointer (some ⟨bx, 0, none⟩))))]) (fun _ => [.blk bx 41 t.row]) ?_ ?_)
  · refine R_ (E_ r_ (T_ (au_ (jc_loopS (ι := Nat) [] (fun k => k ≤ (t.vars).length ∧ ((t.vars).take k).all nameB = true) (fun k => (4, In .i64 (k : Int)) :: [(1, .cell (.val (.pointer (some ⟨bx, 0, none⟩))))]) (fun _ => [.blk bx 41 t.row]) (fun k => (t.vars).length - k) 0 ⟨Nat.zero_le _, rfl⟩ ?_ ?_ ?_))))
    · exact bc_ 0 r_ sub_end
    · (repeat (first | exact True.intro | refine ⟨rfl, ?_⟩))
    rintro k ⟨hk, hall⟩
    have eL : ((t.vars).map Wrow).length = (t.vars).length := List.length_map _
    by_cases hlt : k < (t.vars).length
    · have hlt2 : (k : Int) < (((t.vars).map Wrow).length : Int) := by omega
      refine am_ (R_ (M_ r_ (F_ r_ (L_ 0 r_ (o_ r_ (br_ r_ (fun hlen => o_ r_ (bw_ r_ r_ (T_ (aq_ r_ u_ (as_ (al_ (B_ (R_ (F_ r_ (L_ 0 r_ (M_ r_ ?_)))))))))))))))))
      refine o_ r_ (cc_ r_ r_ g_ r_ r_ b_ (o_ r_ (cb_ r_ r_ (o_ r_ (bm_ r_ (rnameB_c _) (o_ r_ (cd_ r_ (T_ (jc_cond rfl (fun hn => ?_) (fun hy => ?_))))))))))
      · have hp : nameB (t.vars)[k] = false := by
          cases hcs : nameB (t.vars)[k] with
          | false => rfl
          | true =>
            exfalso
            skip
            simp [hcs] at hn
        have hno : (t.vars).all nameB = false := all_no hlt hp
        have hres : okTk t = false := by unfold okTk; simp [hno]
        refine R_ (E_ r_ (T_ (ar_ (az_ (aw_ (aw_ (az_ (aw_ (jq_ret1 rfl rfl [] rfl (fun K h => by rw [hres] at h; exact h))))))))))
      · have hp : nameB (t.vars)[k] = true := by simpa [and_assoc] using hy
        refine as_ (ay_ (al_ (an_ (M_ r_ (o_ r_ (bj_ r_ r_ g_ (E_ r_ (ak_ (jq_againS (k + 1) ⟨hlt, all_snoc hlt hall hp⟩ g_ ?_ ?_)))))))))
        · exact bc_ 0 r_ sub_end
        · (repeat (first | exact True.intro | refine ⟨rfl, ?_⟩))
    · have hlt2 : ¬ (k : Int) < (((t.vars).map Wrow).length : Int) := by omega
      refine am_ (R_ (M_ r_ (F_ r_ (L_ 0 r_ (o_ r_ (br_ r_ (fun hlen => o_ r_ (bw_ r_ r_ (T_ (ap_ r_ w_ (av_ (ax_ (ax_ (ba_ (jq_cutS () (by rw [List.take_of_length_le g_] at hall; exact hall) ?_ ?_)))))))))))))))
      · exact bc_ 0 r_ sub_end
      · (repeat (first | exact True.intro | refine ⟨rfl, ?_⟩))
  intro _ h2
  refine am_ (jc_cut (ι := Unit) [] (fun _ => (t.arrays).all arB = true) (fun _ => [(1, .cell (.val (.pointer (some ⟨bx, 0, none⟩))))]) (fun _ => [.blk bx 41 t.row]) ?_ ?_)
  · refine R_ (E_ r_ (T_ (au_ (jc_loopS (ι := Nat) [] (fun k => k ≤ (t.arrays).length ∧ ((t.arrays).take k).all arB = true) (fun k => (5, In .i64 (k : Int)) :: [(1, .cell (.val (.pointer (some ⟨bx, 0, none⟩))))]) (fun _ => [.blk bx 41 t.row]) (fun k => (t.arrays).length - k) 0 ⟨Nat.zero_le _, rfl⟩ ?_ ?_ ?_))))
    · exact bc_ 0 r_ sub_end
    · (repeat (first | exact True.intro | refine ⟨rfl, ?_⟩))
    rintro k ⟨hk, hall⟩
    have eL : ((t.arrays).map ArRow).length = (t.arrays).length := List.length_map _
    by_cases hlt : k < (t.arrays).length
    · have hlt2 : (k : Int) < (((t.arrays).map ArRow).length : Int) := by omega
      refine am_ (R_ (M_ r_ (F_ r_ (L_ 0 r_ (o_ r_ (br_ r_ (fun hlen => o_ r_ (bw_ r_ r_ (T_ (aq_ r_ u_ (as_ (al_ (B_ (R_ (F_ r_ (L_ 0 r_ (M_ r_ ?_)))))))))))))))))
      refine o_ r_ (cc_ r_ r_ g_ r_ r_ b_ (o_ r_ (cf_ r_ r_ r_ b_ r_ b_ (o_ r_ (cb_ r_ r_ (o_ r_ (bm_ r_ (rnameB_c _) (o_ r_ (cd_ r_ (M_ r_ (jl_or 8 8 rfl rfl rfl rfl (nb rfl) ?_)))))))))))
      apply Exists.intro
      refine ⟨fun hb1 => ?_, ?_⟩
      exact ah_ r_ h_ b_ (bf_ r_ r_ r_ b_ (ah_ r_ h_ b_ (bg_ 0 r_ r_ r_ r_ (ah_ r_ h_ b_ (bd_ r_ (ah_ r_ h_ b_ (cc_ r_ r_ g_ r_ r_ b_ (ah_ r_ h_ b_ (cf_ r_ r_ r_ b_ r_ b_ (ah_ r_ h_ b_ (cb_ r_ r_ (ah_ r_ h_ b_ (bm_ r_ (rplainB_c _) (ah_ r_ h_ b_ (cd_ r_ (ak_ (jq_seg 8 rfl rfl rfl (List.Perm.refl _))))))))))))))))))
      refine T_ (jc_cond rfl (fun hn => ?_) (fun hy => ?_))
      · have hp : arB (t.arrays)[k] = false := by
          cases hcs : arB (t.arrays)[k] with
          | false => rfl
          | true =>
            exfalso
            try simp only [arB, Bool.and_eq_true] at hcs
            simp [hcs] at hn
        have hno : (t.arrays).all arB = false := all_no hlt hp
        have hres : okTk t = false := by unfold okTk; simp [hno]
        refine R_ (E_ r_ (T_ (ar_ (az_ (aw_ (aw_ (az_ (aw_ (jq_ret1 rfl rfl [] rfl (fun K h => by rw [hres] at h; exact h))))))))))
      · have hp : arB (t.arrays)[k] = true := by simpa [arB, and_assoc] using hy
        refine as_ (ay_ (al_ (an_ (M_ r_ (o_ r_ (bj_ r_ r_ g_ (E_ r_ (ak_ (jq_againS (k + 1) ⟨hlt, all_snoc hlt hall hp⟩ g_ ?_ ?_)))))))))
        · exact bc_ 0 r_ sub_end
        · (repeat (first | exact True.intro | refine ⟨rfl, ?_⟩))
    · have hlt2 : ¬ (k : Int) < (((t.arrays).map ArRow).length : Int) := by omega
      refine am_ (R_ (M_ r_ (F_ r_ (L_ 0 r_ (o_ r_ (br_ r_ (fun hlen => o_ r_ (bw_ r_ r_ (T_ (ap_ r_ w_ (av_ (ax_ (ax_ (ba_ (jq_cutS () (by rw [List.take_of_length_le g_] at hall; exact hall) ?_ ?_)))))))))))))))
      · exact bc_ 0 r_ sub_end
      · (repeat (first | exact True.intro | refine ⟨rfl, ?_⟩))
  intro _ h3
  refine am_ (jc_cut (ι := Unit) [] (fun _ => (t.modes).all mdB = true) (fun _ => [(1, .cell (.val (.pointer (some ⟨bx, 0, none⟩))))]) (fun _ => [.blk bx 41 t.row]) ?_ ?_)
  · refine R_ (E_ r_ (T_ (au_ (jc_loopS (ι := Nat) [] (fun k => k ≤ (t.modes).length ∧ ((t.modes).take k).all mdB = true) (fun k => (6, In .i64 (k : Int)) :: [(1, .cell (.val (.pointer (some ⟨bx, 0, none⟩))))]) (fun _ => [.blk bx 41 t.row]) (fun k => (t.modes).length - k) 0 ⟨Nat.zero_le _, rfl⟩ ?_ ?_ ?_))))
    · exact bc_ 0 r_ sub_end
    · (repeat (first | exact True.intro | refine ⟨rfl, ?_⟩))
    rintro k ⟨hk, hall⟩
    have eL : ((t.modes).map MdRow).length = (t.modes).length := List.length_map _
    by_cases hlt : k < (t.modes).length
    · have hlt2 : (k : Int) < (((t.modes).map MdRow).length : Int) := by omega
      refine am_ (R_ (M_ r_ (F_ r_ (L_ 0 r_ (o_ r_ (br_ r_ (fun hlen => o_ r_ (bw_ r_ r_ (T_ (aq_ r_ u_ (as_ (al_ (B_ (R_ (F_ r_ (L_ 0 r_ (M_ r_ ?_)))))))))))))))))
      refine o_ r_ (cc_ r_ r_ g_ r_ r_ b_ (o_ r_ (cr_ r_ r_ r_ (o_ r_ (bl_ r_ r_ (fun bl => S_ 0 r_ (T_ (R_ (F_ r_ (L_ 0 r_ (o_ r_ (bm_ r_ (rnameB_c _) (o_ r_ (cd_ r_ (M_ r_ (jl_or 4 4 rfl rfl rfl rfl (nb rfl) ?_))))))))))))))))
      apply Exists.intro
      refine ⟨fun hb1 => ?_, ?_⟩
      exact ah_ r_ h_ b_ (bf_ r_ r_ r_ b_ (ah_ r_ h_ b_ (bg_ 0 r_ r_ r_ r_ (ah_ r_ h_ b_ (bm_ r_ (rnameB_c _) (ah_ r_ h_ b_ (cd_ r_ (ak_ (jq_seg 4 rfl rfl rfl (List.Perm.refl _))))))))))
      refine M_ r_ (jl_or 4 10 rfl rfl rfl rfl (nb rfl) ?_)
      apply Exists.intro
      refine ⟨fun hb1 => ?_, ?_⟩
      exact ah_ r_ h_ b_ (bf_ r_ r_ r_ b_ (ah_ r_ h_ b_ (bg_ 0 r_ r_ r_ r_ (ah_ r_ h_ b_ (bm_ r_ (rsmallB_c _) (ah_ r_ h_ b_ (cd_ r_ (ak_ (jq_seg 4 rfl rfl rfl (List.Perm.refl _))))))))))
      refine M_ r_ (jl_or 4 16 rfl rfl rfl rfl (nb rfl) ?_)
      apply Exists.intro
      refine ⟨fun hb1 => ?_, ?_⟩
      exact ah_ r_ h_ b_ (bf_ r_ r_ r_ b_ (ah_ r_ h_ b_ (bg_ 0 r_ r_ r_ r_ (ah_ r_ h_ b_ (bm_ r_ (rsmallB_c _) (ah_ r_ h_ b_ (cd_ r_ (ak_ (jq_seg 4 rfl rfl rfl (List.Perm.refl _))))))))))
      refine T_ (jc_cond rfl (fun hn => ?_) (fun hy => ?_))
      · have hp : mdB (t.modes)[k] = false := by
          cases hcs : mdB (t.modes)[k] with
          | false => rfl
          | true =>
            exfalso
            try simp only [mdB, Bool.and_eq_true] at hcs
            simp [hcs] at hn
        have hno : (t.modes).all mdB = false := all_no hlt hp
        have hres : okTk t = false := by unfold okTk; simp [hno]
        refine R_ (E_ r_ (T_ (ar_ (az_ (aw_ (aw_ (az_ (aw_ (jq_ret1 rfl rfl [] rfl (fun K h => by rw [hres] at h; exact h))))))))))
      · have hp : mdB (t.modes)[k] = true := by simpa [mdB, and_assoc] using hy
        refine as_ (ay_ (al_ (an_ (M_ r_ (o_ r_ (bj_ r_ r_ g_ (E_ r_ (ak_ (jq_againS (k + 1) ⟨hlt, all_snoc hlt hall hp⟩ g_ ?_ ?_)))))))))
        · exact bc_ 1 r_ sub_end
        · (repeat (first | exact True.intro | refine ⟨rfl, ?_⟩))
    · have hlt2 : ¬ (k : Int) < (((t.modes).map MdRow).length : Int) := by omega
      refine am_ (R_ (M_ r_ (F_ r_ (L_ 0 r_ (o_ r_ (br_ r_ (fun hlen => o_ r_ (bw_ r_ r_ (T_ (ap_ r_ w_ (av_ (ax_ (ax_ (ba_ (jq_cutS () (by rw [List.take_of_length_le g_] at hall; exact hall) ?_ ?_)))))))))))))))
      · exact bc_ 0 r_ sub_end
      · (repeat (first | exact True.intro | refine ⟨rfl, ?_⟩))
  intro _ h4
  refine am_ (jc_cut (ι := Unit) [] (fun _ => (t.claims).all clB = true) (fun _ => [(1, .cell (.val (.pointer (some ⟨bx, 0, none⟩))))]) (fun _ => [.blk bx 41 t.row]) ?_ ?_)
  · refine R_ (E_ r_ (T_ (au_ (jc_loopS (ι := Nat) [] (fun k => k ≤ (t.claims).length ∧ ((t.claims).take k).all clB = true) (fun k => (8, In .i64 (k : Int)) :: [(1, .cell (.val (.pointer (some ⟨bx, 0, none⟩))))]) (fun _ => [.blk bx 41 t.row]) (fun k => (t.claims).length - k) 0 ⟨Nat.zero_le _, rfl⟩ ?_ ?_ ?_))))
    · exact bc_ 0 r_ sub_end
    · (repeat (first | exact True.intro | refine ⟨rfl, ?_⟩))
    rintro k ⟨hk, hall⟩
    have eL : ((t.claims).map ClRow).length = (t.claims).length := List.length_map _
    by_cases hlt : k < (t.claims).length
    · have hlt2 : (k : Int) < (((t.claims).map ClRow).length : Int) := by omega
      refine am_ (R_ (M_ r_ (F_ r_ (L_ 0 r_ (o_ r_ (br_ r_ (fun hlen => o_ r_ (bw_ r_ r_ (T_ (aq_ r_ u_ (as_ (al_ (B_ (R_ (F_ r_ (L_ 0 r_ (M_ r_ ?_)))))))))))))))))
      refine o_ r_ (cc_ r_ r_ g_ r_ r_ b_ (o_ r_ (cf_ r_ r_ r_ b_ r_ b_ (o_ r_ (cb_ r_ r_ (o_ r_ (bm_ r_ (rplainB_c _) (o_ r_ (cd_ r_ (M_ r_ (jl_or 8 8 rfl rfl rfl rfl (nb rfl) ?_)))))))))))
      apply Exists.intro
      refine ⟨fun hb1 => ?_, ?_⟩
      exact ah_ r_ h_ b_ (bf_ r_ r_ r_ b_ (ah_ r_ h_ b_ (bg_ 0 r_ r_ r_ r_ (ah_ r_ h_ b_ (bd_ r_ (ah_ r_ h_ b_ (cc_ r_ r_ g_ r_ r_ b_ (ah_ r_ h_ b_ (cf_ r_ r_ r_ b_ r_ b_ (ah_ r_ h_ b_ (cb_ r_ r_ (ah_ r_ h_ b_ (bm_ r_ (rplainB_c _) (ah_ r_ h_ b_ (cd_ r_ (ak_ (jq_seg 8 rfl rfl rfl (List.Perm.refl _))))))))))))))))))
      refine T_ (jc_cond rfl (fun hn => ?_) (fun hy => ?_))
      · have hp : clB (t.claims)[k] = false := by
          cases hcs : clB (t.claims)[k] with
          | false => rfl
          | true =>
            exfalso
            try simp only [clB, Bool.and_eq_true] at hcs
            simp [hcs] at hn
        have hno : (t.claims).all clB = false := all_no hlt hp
        have hres : okTk t = false := by unfold okTk; simp [hno]
        refine R_ (E_ r_ (T_ (ar_ (az_ (aw_ (aw_ (az_ (aw_ (jq_ret1 rfl rfl [] rfl (fun K h => by rw [hres] at h; exact h))))))))))
      · have hp : clB (t.claims)[k] = true := by simpa [clB, and_assoc] using hy
        refine as_ (ay_ (al_ (an_ (M_ r_ (o_ r_ (bj_ r_ r_ g_ (E_ r_ (ak_ (jq_againS (k + 1) ⟨hlt, all_snoc hlt hall hp⟩ g_ ?_ ?_)))))))))
        · exact bc_ 0 r_ sub_end
        · (repeat (first | exact True.intro | refine ⟨rfl, ?_⟩))
    · have hlt2 : ¬ (k : Int) < (((t.claims).map ClRow).length : Int) := by omega
      refine am_ (R_ (M_ r_ (F_ r_ (L_ 0 r_ (o_ r_ (br_ r_ (fun hlen => o_ r_ (bw_ r_ r_ (T_ (ap_ r_ w_ (av_ (ax_ (ax_ (ba_ (jq_cutS () (by rw [List.take_of_length_le g_] at hall; exact hall) ?_ ?_)))))))))))))))
      · exact bc_ 0 r_ sub_end
      · (repeat (first | exact True.intro | refine ⟨rfl, ?_⟩))
  intro _ h5
  have hres : okTk t = true := by unfold okTk; rw [h0, h1, h2, h3, h4, h5]; rfl
  refine R_ (E_ r_ (T_ (ar_ (jq_ret1 rfl rfl [] rfl (fun K h => by rw [hres] at h; exact h)))))
theorem rprintableB_c (p : Pg) : Con Tryz.prog 26 [.row p.row] [] (fun K => K (Bl (okPg p)) []) := by
  refine con_intro Tryz.func26 rfl rfl (Nat.le_of_ble_eq_true rfl) (fun c hc => ?_)
  skip
  refine R_ (o_ r_ (ci_ r_ (fun bx => E_ r_ (T_ (am_ (jc_cut (ι := Unit) [] (fun _ => (p.res).all nameB = true) (fun _ => [(1, .cell (.val (.pointer (some ⟨bx, 0, none⟩))))]) (fun _ => [.blk bx 31 p.row]) ?_ ?_))))))
  · refine R_ (E_ r_ (T_ (au_ (jc_loopS (ι := Nat) [] (fun k => k ≤ (p.res).length ∧ ((p.res).take k).all nameB = true) (fun k => (3, In .i64 (k : Int)) :: [(1, .cell (.val (.pointer (some ⟨bx, 0, none⟩))))]) (fun _ => [.blk bx 31 p.row]) (fun k => (p.res).length - k) 0 ⟨Nat.zero_le _, rfl⟩ ?_ ?_ ?_))))
    · exact bc_ 0 r_ sub_end
    · (repeat (first | exact True.intro | refine ⟨rfl, ?_⟩))
    rintro k ⟨hk, hall⟩
    have eL : ((p.res).map Wrow).length = (p.res).length := List.length_map _
    by_cases hlt : k < (p.res).length
    · have hlt2 : (k : Int) < (((p.res).map Wrow).length : Int) := by omega
      refine am_ (R_ (M_ r_ (F_ r_ (L_ 0 r_ (o_ r_ (br_ r_ (fun hlen => o_ r_ (bw_ r_ r_ (T_ (aq_ r_ u_ (as_ (al_ (B_ (R_ (F_ r_ (L_ 0 r_ (M_ r_ ?_)))))))))))))))))
      refine o_ r_ (cc_ r_ r_ g_ r_ r_ b_ (o_ r_ (cb_ r_ r_ (o_ r_ (bm_ r_ (rnameB_c _) (o_ r_ (cd_ r_ (T_ (jc_cond rfl (fun hn => ?_) (fun hy => ?_))))))))))
      · have hp : nameB (p.res)[k] = false := by
          cases hcs : nameB (p.res)[k] with
          | false => rfl
          | true =>
            exfalso
            skip
            simp [hcs] at hn
        have hno : (p.res).all nameB = false := all_no hlt hp
        have hres : okPg p = false := by unfold okPg; simp [hno]
        refine R_ (E_ r_ (T_ (ar_ (az_ (aw_ (aw_ (az_ (aw_ (jq_ret1 rfl rfl [] rfl (fun K h => by rw [hres] at h; exact h))))))))))
      · have hp : nameB (p.res)[k] = true := by simpa [and_assoc] using hy
        refine as_ (ay_ (al_ (an_ (M_ r_ (o_ r_ (bj_ r_ r_ g_ (E_ r_ (ak_ (jq_againS (k + 1) ⟨hlt, all_snoc hlt hall hp⟩ g_ ?_ ?_)))))))))
        · exact bc_ 0 r_ sub_end
        · (repeat (first | exact True.intro | refine ⟨rfl, ?_⟩))
    · have hlt2 : ¬ (k : Int) < (((p.res).map Wrow).length : Int) := by omega
      refine am_ (R_ (M_ r_ (F_ r_ (L_ 0 r_ (o_ r_ (br_ r_ (fun hlen => o_ r_ (bw_ r_ r_ (T_ (ap_ r_ w_ (av_ (ax_ (ax_ (ba_ (jq_cutS () (by rw [List.take_of_length_le g_] at hall; exact hall) ?_ ?_)))))))))))))))
      · exact bc_ 0 r_ sub_end
      · (repeat (first | exact True.intro | refine ⟨rfl, ?_⟩))
  intro _ h1
  refine am_ (jc_cut (ι := Unit) [] (fun _ => (p.shared).all shB = true) (fun _ => [(1, .cell (.val (.pointer (some ⟨bx, 0, none⟩))))]) (fun _ => [.blk bx 31 p.row]) ?_ ?_)
  · refine R_ (E_ r_ (T_ (au_ (jc_loopS (ι := Nat) [] (fun k => k ≤ (p.shared).length ∧ ((p.shared).take k).all shB = true) (fun k => (4, In .i64 (k : Int)) :: [(1, .cell (.val (.pointer (some ⟨bx, 0, none⟩))))]) (fun _ => [.blk bx 31 p.row]) (fun k => (p.shared).length - k) 0 ⟨Nat.zero_le _, rfl⟩ ?_ ?_ ?_))))
    · exact bc_ 0 r_ sub_end
    · (repeat (first | exact True.intro | refine ⟨rfl, ?_⟩))
    rintro k ⟨hk, hall⟩
    have eL : ((p.shared).map ShRow).length = (p.shared).length := List.length_map _
    by_cases hlt : k < (p.shared).length
    · have hlt2 : (k : Int) < (((p.shared).map ShRow).length : Int) := by omega
      refine am_ (R_ (M_ r_ (F_ r_ (L_ 0 r_ (o_ r_ (br_ r_ (fun hlen => o_ r_ (bw_ r_ r_ (T_ (aq_ r_ u_ (as_ (al_ (B_ (R_ (F_ r_ (L_ 0 r_ (M_ r_ ?_)))))))))))))))))
      refine o_ r_ (cc_ r_ r_ g_ r_ r_ b_ (o_ r_ (cr_ r_ r_ r_ (o_ r_ (bl_ r_ r_ (fun bl => S_ 0 r_ (T_ (R_ (F_ r_ (F_ r_ (L_ 0 r_ (o_ r_ (bm_ r_ (rnameB_c _) (o_ r_ (cd_ r_ (M_ r_ (jl_or 5 5 rfl rfl rfl rfl (nb rfl) ?_)))))))))))))))))
      apply Exists.intro
      refine ⟨fun hb1 => ?_, ?_⟩
      exact ah_ r_ h_ b_ (bf_ r_ r_ r_ b_ (ah_ r_ h_ b_ (bf_ r_ r_ r_ b_ (ah_ r_ h_ b_ (bg_ 0 r_ r_ r_ r_ (ah_ r_ h_ b_ (bm_ r_ (rplainB_c _) (ah_ r_ h_ b_ (cd_ r_ (ak_ (jq_seg 5 rfl rfl rfl (List.Perm.refl _))))))))))))
      refine M_ r_ (jl_or 4 12 rfl rfl rfl rfl (nb rfl) ?_)
      apply Exists.intro
      refine ⟨fun hb1 => ?_, ?_⟩
      exact ah_ r_ h_ b_ (bf_ r_ r_ r_ b_ (ah_ r_ h_ b_ (bg_ 0 r_ r_ r_ r_ (ah_ r_ h_ b_ (bm_ r_ (rnameB_c _) (ah_ r_ h_ b_ (cd_ r_ (ak_ (jq_seg 4 rfl rfl rfl (List.Perm.refl _))))))))))
      refine T_ (jc_cond rfl (fun hn => ?_) (fun hy => ?_))
      · have hp : shB (p.shared)[k] = false := by
          cases hcs : shB (p.shared)[k] with
          | false => rfl
          | true =>
            exfalso
            try simp only [shB, Bool.and_eq_true] at hcs
            simp [hcs] at hn
        have hno : (p.shared).all shB = false := all_no hlt hp
        have hres : okPg p = false := by unfold okPg; simp [hno]
        refine R_ (E_ r_ (T_ (ar_ (az_ (aw_ (aw_ (az_ (aw_ (jq_ret1 rfl rfl [] rfl (fun K h => by rw [hres] at h; exact h))))))))))
      · have hp : shB (p.shared)[k] = true := by simpa [shB, and_assoc] using hy
        refine as_ (ay_ (al_ (an_ (M_ r_ (o_ r_ (bj_ r_ r_ g_ (E_ r_ (ak_ (jq_againS (k + 1) ⟨hlt, all_snoc hlt hall hp⟩ g_ ?_ ?_)))))))))
        · exact bc_ 1 r_ sub_end
        · (repeat (first | exact True.intro | refine ⟨rfl, ?_⟩))
    · have hlt2 : ¬ (k : Int) < (((p.shared).map ShRow).length : Int) := by omega
      refine am_ (R_ (M_ r_ (F_ r_ (L_ 0 r_ (o_ r_ (br_ r_ (fun hlen => o_ r_ (bw_ r_ r_ (T_ (ap_ r_ w_ (av_ (ax_ (ax_ (ba_ (jq_cutS () (by rw [List.take_of_length_le g_] at hall; exact hall) ?_ ?_)))))))))))))))
      · exact bc_ 0 r_ sub_end
      · (repeat (first | exact True.intro | refine ⟨rfl, ?_⟩))
  intro _ h2
  refine am_ (jc_cut (ι := Unit) [] (fun _ => (p.tasks).all okTk = true) (fun _ => [(1, .cell (.val (.pointer (some ⟨bx, 0, none⟩))))]) (fun _ => [.blk bx 31 p.row]) ?_ ?_)
  · refine R_ (E_ r_ (T_ (au_ (jc_loopS (ι := Nat) [] (fun k => k ≤ (p.tasks).length ∧ ((p.tasks).take k).all okTk = true) (fun k => (6, In .i64 (k : Int)) :: [(1, .cell (.val (.pointer (some ⟨bx, 0, none⟩))))]) (fun _ => [.blk bx 31 p.row]) (fun k => (p.tasks).length - k) 0 ⟨Nat.zero_le _, rfl⟩ ?_ ?_ ?_))))
    · exact bc_ 0 r_ sub_end
    · (repeat (first | exact True.intro | refine ⟨rfl, ?_⟩))
    rintro k ⟨hk, hall⟩
    have eL : ((p.tasks).map Tk.row).length = (p.tasks).length := List.length_map _
    by_cases hlt : k < (p.tasks).length
    · have hlt2 : (k : Int) < (((p.tasks).map Tk.row).length : Int) := by omega
      refine am_ (R_ (M_ r_ (F_ r_ (L_ 0 r_ (o_ r_ (br_ r_ (fun hlen => o_ r_ (bw_ r_ r_ (T_ (aq_ r_ u_ (as_ (al_ (B_ (R_ (F_ r_ (L_ 0 r_ (M_ r_ ?_)))))))))))))))))
      refine o_ r_ (cc_ r_ r_ g_ r_ r_ b_ (o_ r_ (cr_ r_ r_ r_ (o_ r_ (bm_ r_ (rtaskB_c _) (o_ r_ (cd_ r_ (T_ (jc_cond rfl (fun hn => ?_) (fun hy => ?_))))))))))
      · have hp : okTk (p.tasks)[k] = false := by
          cases hcs : okTk (p.tasks)[k] with
          | false => rfl
          | true =>
            exfalso
            skip
            simp [hcs] at hn
        have hno : (p.tasks).all okTk = false := all_no hlt hp
        have hres : okPg p = false := by unfold okPg; simp [hno]
        refine R_ (E_ r_ (T_ (ar_ (az_ (aw_ (aw_ (az_ (aw_ (jq_ret1 rfl rfl [] rfl (fun K h => by rw [hres] at h; exact h))))))))))
      · have hp : okTk (p.tasks)[k] = true := by simpa [and_assoc] using hy
        refine as_ (ay_ (al_ (an_ (M_ r_ (o_ r_ (bj_ r_ r_ g_ (E_ r_ (ak_ (jq_againS (k + 1) ⟨hlt, all_snoc hlt hall hp⟩ g_ ?_ ?_)))))))))
        · exact bc_ 0 r_ sub_end
        · (repeat (first | exact True.intro | refine ⟨rfl, ?_⟩))
    · have hlt2 : ¬ (k : Int) < (((p.tasks).map Tk.row).length : Int) := by omega
      refine am_ (R_ (M_ r_ (F_ r_ (L_ 0 r_ (o_ r_ (br_ r_ (fun hlen => o_ r_ (bw_ r_ r_ (T_ (ap_ r_ w_ (av_ (ax_ (ax_ (ba_ (jq_cutS () (by rw [List.take_of_length_le g_] at hall; exact hall) ?_ ?_)))))))))))))))
      · exact bc_ 0 r_ sub_end
      · (repeat (first | exact True.intro | refine ⟨rfl, ?_⟩))
  intro _ h3
  have hres : okPg p = true := by unfold okPg; rw [h1, h2, h3]; rfl
  refine R_ (E_ r_ (T_ (ar_ (jq_ret1 rfl rfl [] rfl (fun K h => by rw [hres] at h; exact h)))))
end Go.Proofs.YtlniadfidfmckaaGreatDoor
end

section
namespace Go.Proofs.YtlniadfidfmckaaGreatDoor
open Go.Vc
attribute [local irreducible] JL JC JQ OpWp Con ConN
attribute [local irreducible] byteAt runLen isL isD isName hasW
set_option maxHeartbeats 4000000

def nmOk (s : ByteArray) : Prop := isName s = true ∧ hasW s = false
theorem named_c (s : ByteArray) (h : nmOk s) : Con Tryz.prog 40 [Str s] [] (fun K => K (Bl true) []) := by
  have h1 := Name_c s
  have h2 := Keyword_c s
  rw [h.1] at h1
  rw [h.2] at h2
  refine con_intro Tryz.func40 rfl rfl (Nat.le_of_ble_eq_true rfl) (fun c hc => R_ (E_ r_ (T_ (R_ (M_ r_ (o_ r_ (bm_ r_ (h1) (M_ r_ (ah_ r_ r_ b_ (bd_ r_ (ah_ r_ r_ b_ (bm_ r_ (h2) (ah_ r_ r_ b_ (cd_ r_ (o_ r_ (bp_ r_ r_ r_ (E_ r_ (T_ (ar_ (jq_ret1 rfl rfl [] rfl (fun K h => h)))))))))))))))))))))
theorem signed_c (n : Int) (h : -2147483647 ≤ n ∧ n ≤ 2147483647) : Con Tryz.prog 68 [.cell (.list ([n].map Irow))] [] (fun K => K (Bl true) []) := by
  refine con_intro Tryz.func68 rfl rfl (Nat.le_of_ble_eq_true rfl) (fun c hc => R_ (E_ r_ (T_ (am_ (R_ (M_ r_ (o_ r_ (br_ r_ (fun hlen => M_ r_ (T_ (au_ (jc_loopS [] (fun k : Nat => k ≤ 1) (fun k => [(5, .cell (.list ([n].map Irow))), (6, In .i64 1), (7, In .i64 (k : Int))]) (fun _ => []) (fun k => 1 - k) 0 (Nat.zero_le _) ?_ ?_ ?_))))))))))))
  · exact sub_end
  · (repeat (first | exact True.intro | refine ⟨rfl, ?_⟩))
  · intro k hk
    refine jc_reset [(5, .cell (.list ([n].map Irow))), (6, In .i64 1), (7, In .i64 (k : Int))] [] ?_ ⟨[], [], rfl⟩ ?_
    · (repeat (first | exact True.intro | refine ⟨rfl, ?_⟩))
    have e1 : [n].length = 1 := rfl
    refine R_ (o_ r_ (bw_ r_ r_ (T_ (am_ (jc_condd rfl (fun hlt => ?_) (fun hge => ?_))))))
    · obtain rfl : k = 0 := by omega
      have h0 : ¬ n < -2147483647 := by omega
      refine as_ (al_ (B_ (R_ (o_ r_ (cc_ r_ r_ g_ r_ r_ b_ (o_ r_ (cb_ r_ r_ (E_ r_ (T_ (R_ (M_ r_ (o_ r_ (bw_ r_ r_ (M_ r_ (ah_ r_ w_ b_ (bd_ r_ (ah_ r_ w_ b_ (bz_ r_ r_ (o_ r_ (bv_ r_ w_ r_ (T_ ?_)))))))))))))))))))))
      refine jc_condd rfl (fun h2 => by simp at h2; omega) (fun _ => as_ (ay_ (al_ (an_ (o_ r_ (bj_ r_ r_ g_ (M_ r_ (ak_ (jq_againS 1 g_ g_ ?_ ?_)))))))))
      · exact sub_end
      · (repeat (first | exact True.intro | refine ⟨rfl, ?_⟩))
    · refine av_ (ax_ (ax_ (ba_ (al_ (R_ (E_ r_ (T_ (ar_ (jq_ret1 rfl rfl [] rfl (fun K h => h))))))))))
def T.ok : T → Prop
  | .nu n => -2147483647 ≤ n ∧ n ≤ 2147483647
  | .nm s => nmOk s
  | .ix s t => nmOk s ∧ t.ok
  | .bn o a b => (1 ≤ o ∧ o ≤ 14) ∧ a.ok ∧ b.ok
theorem T.ok_args {t : T} (h : t.ok) : ∀ a ∈ t.args, a.ok := by
  intro a ha
  cases t with
  | nu n => cases ha
  | nm s => cases ha
  | ix s t => rw [List.mem_singleton.1 ha]; exact h.2
  | bn o x y =>
    rcases List.mem_cons.1 ha with rfl | ha
    · exact h.2.1
    · rw [List.mem_singleton.1 ha]; exact h.2.2
end Go.Proofs.YtlniadfidfmckaaGreatDoor
end

section
namespace Go.Proofs.YtlniadfidfmckaaGreatDoor
open Go.Vc
attribute [local irreducible] JL JC JQ OpWp Con ConN
attribute [local irreducible] byteAt runLen isL isD isName hasW
set_option maxHeartbeats 4000000

theorem str_ne {o : Int} (h : 1 ≤ o ∧ o ≤ 14) : ¬ signT o = ⟨#[]⟩ := by
  intro e
  have := congrArg ByteArray.size e
  rcases op14 h with rfl | rfl | rfl | rfl | rfl | rfl | rfl | rfl | rfl | rfl | rfl | rfl | rfl | rfl <;> exact absurd this (by decide)
theorem shaped_c : ∀ (F : Nat) (t : T), F ≤ 20 → t.ok → Con Tryz.prog 36 [.row t.row', In .i64 (21 - (F : Int))] [] (fun K => K (Bl true) []) := by
  intro F
  induction F with
  | zero =>
    intro t _ _
    refine con_intro Tryz.func36 rfl rfl (Nat.le_of_ble_eq_true rfl) (fun c hc => R_ (o_ r_ (ci_ r_ (fun bx => E_ r_ (T_ (am_ (R_ (M_ r_ (o_ r_ (bz_ r_ r_ (T_ (jc_condd rfl (fun _ => R_ (E_ r_ (T_ (ar_ (aw_ ?_))))) (fun h => by omega)))))))))))))
    refine jq_ret1 rfl rfl [] rfl (fun K h => h)
  | succ F ih =>
    intro t hF hok
    have eA : (t.args.map T.row).length = t.args.length := List.length_map _
    have hargs := T.ok_args hok
    refine con_intro Tryz.func36 rfl rfl (Nat.le_of_ble_eq_true rfl) (fun c hc => R_ (o_ r_ (ci_ r_ (fun bx => E_ r_ (T_ (am_ (R_ (M_ r_ (o_ r_ (bz_ r_ r_ (T_ (jc_condd rfl (fun h => by omega) (fun _ => as_ (al_ (am_ ?_)))))))))))))))
    refine jc_cut (ι := Unit) [] (fun _ => True) (fun _ => [(1, In .i64 (21 - ((F + 1 : Nat) : Int))), (2, .cell (.val (.pointer (some ⟨bx, 0, none⟩)))), (5, Bl (decide (t.num = 0) && decide (t.op = 0)))]) (fun _ => [.blk bx 53 t.row']) ?_ ?_
    · by_cases hn : t.num = 0
      · refine an_ (F_ r_ (L_ 0 r_ (o_ r_ (bn_ r_ r_ (M_ r_ (ah_ r_ u_ b_ (bf_ r_ r_ r_ b_ (ah_ r_ u_ b_ (bg_ 0 r_ r_ r_ r_ (ah_ r_ u_ b_ (bn_ r_ r_ (o_ r_ (bp_ r_ u_ r_ (E_ r_ (ak_ (jq_cutS () trivial ?_ ?_))))))))))))))))
        · exact bc_ 0 r_ sub_end
        · rw [decide_eq_true hn, Bool.true_and]
          (repeat (first | exact True.intro | refine ⟨rfl, ?_⟩))
      · refine an_ (F_ r_ (L_ 0 r_ (o_ r_ (bn_ r_ r_ (M_ r_ (ai_ r_ w_ b_ (ai_ r_ w_ b_ (ai_ r_ w_ b_ (o_ r_ (bv_ r_ w_ r_ (E_ r_ (ak_ (jq_cutS () trivial ?_ ?_)))))))))))))
        · exact bc_ 0 r_ sub_end
        · rw [decide_eq_false hn, Bool.false_and]
          (repeat (first | exact True.intro | refine ⟨rfl, ?_⟩))
    · intro _ _
      refine R_ (E_ r_ (T_ (am_ (R_ (F_ r_ (L_ 0 r_ (T_ (jc_cut (ι := Unit) [] (fun _ => True) (fun _ => [(1, In .i64 (21 - ((F + 1 : Nat) : Int))), (2, .cell (.val (.pointer (some ⟨bx, 0, none⟩)))), (6, Bl true)]) (fun _ => [.blk bx 53 t.row']) ?_ ?_))))))))
      · clear ih hargs eA
        cases t with
        | nu n =>
          have hS := signed_c n hok
          refine au_ (R_ (o_ r_ (bn_ r_ r_ (E_ r_ (T_ (jc_condd rfl (fun _ => an_ (F_ r_ (L_ 0 r_ (o_ r_ (bq_ r_ r_ b_ r_ r_ b_ (o_ r_ (bm_ r_ (hS) (M_ r_ (ah_ r_ r_ b_ (bf_ r_ r_ r_ b_ (ah_ r_ r_ b_ (bg_ 0 r_ r_ r_ r_ (ah_ r_ r_ b_ (cs_ r_ r_ (o_ r_ (bp_ r_ r_ r_ ?_)))))))))))))))) (fun h => absurd rfl h)))))))
          refine M_ r_ (ah_ r_ r_ b_ (bf_ r_ r_ r_ b_ (ah_ r_ r_ b_ (bg_ 0 r_ r_ r_ r_ (ah_ r_ r_ b_ (bn_ r_ r_ (o_ r_ (bp_ r_ x_ r_ (M_ r_ (ah_ r_ r_ b_ (bf_ r_ r_ r_ b_ (ah_ r_ r_ b_ (bg_ 0 r_ r_ r_ r_ (ah_ r_ r_ b_ (br_ r_ (fun hlen => ah_ r_ r_ b_ (bn_ r_ r_ (o_ r_ (bp_ r_ x_ r_ (E_ r_ (ak_ (ay_ (jq_cutS () trivial ?_ ?_)))))))))))))))))))))))
          · exact bc_ 0 r_ sub_end
          · (repeat (first | exact True.intro | refine ⟨rfl, ?_⟩))
        | nm s =>
          have hS := named_c s hok
          refine au_ (R_ (o_ r_ (bn_ r_ r_ (E_ r_ (T_ (jc_condd rfl (fun h => by cases h) (fun _ => R_ (o_ r_ (bn_ r_ r_ (E_ r_ (T_ (jc_condd rfl (fun _ => an_ (F_ r_ (L_ 0 r_ (o_ r_ (bm_ r_ (hS) (M_ r_ ?_)))))) (fun h => absurd rfl h)))))))))))))
          refine ah_ r_ r_ b_ (bd_ r_ (o_ r_ (bp_ r_ r_ r_ (M_ r_ (ah_ r_ r_ b_ (bf_ r_ r_ r_ b_ (ah_ r_ r_ b_ (bg_ 0 r_ r_ r_ r_ (ah_ r_ r_ b_ (br_ r_ (fun hlen => ah_ r_ r_ b_ (bn_ r_ r_ (o_ r_ (bp_ r_ r_ r_ (E_ r_ (ak_ (ay_ (jq_cutS () trivial ?_ ?_))))))))))))))))))
          · exact bc_ 0 r_ sub_end
          · (repeat (first | exact True.intro | refine ⟨rfl, ?_⟩))
        | ix s t =>
          have hS := named_c s hok.1
          refine au_ (R_ (o_ r_ (bn_ r_ r_ (E_ r_ (T_ (jc_condd rfl (fun h => by cases h) (fun _ => R_ (o_ r_ (bn_ r_ r_ (E_ r_ (T_ (jc_condd rfl (fun h => by cases h) (fun _ => R_ (o_ r_ (bn_ r_ r_ (E_ r_ (T_ (jc_condd rfl (fun _ => ?_) (fun h => absurd rfl h)))))))))))))))))))
          refine an_ (F_ r_ (L_ 0 r_ (o_ r_ (bm_ r_ (hS) (M_ r_ (ah_ r_ r_ b_ (bd_ r_ (o_ r_ (bp_ r_ r_ r_ (M_ r_ (ah_ r_ r_ b_ (bf_ r_ r_ r_ b_ (ah_ r_ r_ b_ (bg_ 0 r_ r_ r_ r_ (ah_ r_ r_ b_ (br_ r_ (fun hlen => ah_ r_ r_ b_ (bn_ r_ r_ (o_ r_ (bp_ r_ r_ r_ (E_ r_ (ak_ (ay_ ?_)))))))))))))))))))))))
          refine jq_cutS () trivial ?_ ?_
          · exact bc_ 0 r_ sub_end
          · (repeat (first | exact True.intro | refine ⟨rfl, ?_⟩))
        | bn o a b =>
          have hS := Sign_c o hok.1
          have hne := str_ne hok.1
          refine au_ (R_ (o_ r_ (bn_ r_ r_ (E_ r_ (T_ (jc_condd rfl (fun h => by cases h) (fun _ => R_ (o_ r_ (bn_ r_ r_ (E_ r_ (T_ (jc_condd rfl (fun h => by cases h) (fun _ => R_ (o_ r_ (bn_ r_ r_ (E_ r_ (T_ (jc_condd rfl (fun h => by cases h) (fun _ => ?_)))))))))))))))))))
          refine R_ (o_ r_ (bn_ r_ r_ (E_ r_ (T_ (jc_condd rfl (fun _ => an_ (F_ r_ (L_ 0 r_ (o_ r_ (bm_ r_ (hS) (o_ r_ (ct_ r_ r_ (M_ r_ (ah_ r_ u_ b_ (bf_ r_ r_ r_ b_ (ah_ r_ u_ b_ (bg_ 0 r_ r_ r_ r_ (ah_ r_ u_ b_ (bn_ r_ r_ (o_ r_ (bp_ r_ u_ r_ (M_ r_ ?_))))))))))))))))) (fun h => absurd rfl h))))))
          refine ah_ r_ r_ b_ (bf_ r_ r_ r_ b_ (ah_ r_ r_ b_ (bg_ 0 r_ r_ r_ r_ (ah_ r_ r_ b_ (cs_ r_ r_ (o_ r_ (bp_ r_ x_ r_ (M_ r_ (ah_ r_ r_ b_ (bf_ r_ r_ r_ b_ (ah_ r_ r_ b_ (bg_ 0 r_ r_ r_ r_ (ah_ r_ r_ b_ (br_ r_ (fun hlen => ah_ r_ r_ b_ (bn_ r_ r_ (o_ r_ (bp_ r_ x_ r_ (E_ r_ (ak_ (ay_ (jq_cutS () trivial ?_ ?_))))))))))))))))))))))
          · exact bc_ 0 r_ sub_end
          · (repeat (first | exact True.intro | refine ⟨rfl, ?_⟩))
      · intro _ _
        refine am_ (R_ (F_ r_ (L_ 0 r_ (o_ r_ (br_ r_ (fun hlen => M_ r_ (T_ (au_ (jc_loopS (ι := Nat) [] (fun k => k ≤ t.args.length) (fun k => [(1, In .i64 (21 - ((F + 1 : Nat) : Int))), (6, Bl true), (94, .cell (.list (t.args.map T.row))), (95, In .i64 ((t.args.map T.row).length : Int)), (96, In .i64 (k : Int))]) (fun _ => []) (fun k => t.args.length - k) 0 (Nat.zero_le _) ?_ ?_ ?_)))))))))
        · exact sub_end
        · (repeat (first | exact True.intro | refine ⟨rfl, ?_⟩))
        · intro k hk
          refine jc_reset [(1, In .i64 (21 - ((F + 1 : Nat) : Int))), (6, Bl true), (94, .cell (.list (t.args.map T.row))), (95, In .i64 ((t.args.map T.row).length : Int)), (96, In .i64 (k : Int))] [] ?_ ⟨[], [], rfl⟩ ?_
          · (repeat (first | exact True.intro | refine ⟨rfl, ?_⟩))
          refine R_ (o_ r_ (bw_ r_ r_ (T_ (am_ (jc_condd rfl (fun hlt => ?_) (fun hge => ?_))))))
          · have hlt' : k < t.args.length := by omega
            have hI : Con Tryz.prog 36 [.row (t.args[k]).row', In .i64 (21 - ((F + 1 : Nat) : Int) + 1)] [] (fun K => K (Bl true) []) := by
              rw [show (21 - ((F + 1 : Nat) : Int) + 1) = 21 - (F : Int) by omega]
              exact ih _ g_ (hargs _ (List.getElem_mem hlt'))
            refine as_ (al_ (B_ (R_ (o_ r_ (cc_ r_ r_ g_ (T.row_eq _) r_ b_ (o_ r_ (cr_ r_ r_ r_ (o_ r_ (bl_ r_ r_ (fun bl => S_ 0 r_ (T_ (an_ (M_ r_ (M_ r_ (ah_ r_ r_ b_ (bs_ 0 r_ r_ r_ r_ (ah_ r_ r_ b_ (bd_ r_ (ah_ r_ r_ b_ (bj_ r_ r_ g_ (ah_ r_ r_ b_ (bm_ r_ (hI) ?_))))))))))))))))))))))
            refine o_ r_ (bp_ r_ r_ r_ (E_ r_ (ak_ (ay_ (al_ (an_ (o_ r_ (bj_ r_ r_ g_ (M_ r_ (ak_ (jq_againS (k + 1) g_ g_ ?_ ?_)))))))))))
            · exact sub_end
            · (repeat (first | exact True.intro | refine ⟨rfl, ?_⟩))
          · refine av_ (ax_ (ax_ (ba_ (al_ (R_ (M_ r_ (E_ r_ (T_ (ar_ (jq_ret1 rfl rfl [] rfl (fun K h => h)))))))))))
end Go.Proofs.YtlniadfidfmckaaGreatDoor
end

section
namespace Go.Proofs.YtlniadfidfmckaaGreatDoor
open Go.Vc
attribute [local irreducible] JL JC JQ OpWp Con ConN
attribute [local irreducible] byteAt runLen isL isD isName hasW
set_option maxHeartbeats 4000000

theorem namedB_c (s : ByteArray) : Con Tryz.prog 40 [Str s] [] (fun K => K (Bl (nameB s)) []) := by
  refine con_intro Tryz.func40 rfl rfl (Nat.le_of_ble_eq_true rfl) (fun c hc => R_ (E_ r_ (T_ (R_ (M_ r_ (o_ r_ (bm_ r_ (Name_c _) (M_ r_ (jl_and 3 2 rfl rfl rfl rfl (nb rfl) ?_)))))))))
  apply Exists.intro
  refine ⟨fun hb1 => ?_, ?_⟩
  exact ah_ r_ h_ b_ (bd_ r_ (ah_ r_ h_ b_ (bm_ r_ (Keyword_c _) (ah_ r_ h_ b_ (cd_ r_ (ak_ (jq_seg 3 rfl rfl rfl (List.Perm.refl _))))))))
  refine E_ r_ (T_ (ar_ (jq_ret1 rfl rfl [] rfl (fun K h => h))))
theorem plainL_c (l : List Int) : Con Tryz.prog 41 [.cell (.list (l.map Irow))] [] (fun K => K (Bl (l.all plainB)) []) := by
  have eL : (l.map Irow).length = l.length := List.length_map _
  refine con_intro Tryz.func41 rfl rfl (Nat.le_of_ble_eq_true rfl) (fun c hc => R_ (E_ r_ (T_ (am_ (R_ (M_ r_ (o_ r_ (br_ r_ (fun hlen => M_ r_ (T_ (au_ (jc_loopS (ι := Nat) [] (fun k => k ≤ l.length ∧ (l.take k).all plainB = true) (fun k => [(5, .cell (.list (l.map Irow))), (6, In .i64 ((l.map Irow).length : Int)), (7, In .i64 (k : Int))]) (fun _ => []) (fun k => l.length - k) 0 ⟨Nat.zero_le _, rfl⟩ ?_ ?_ ?_))))))))))))
  · exact sub_end
  · (repeat (first | exact True.intro | refine ⟨rfl, ?_⟩))
  rintro k ⟨hk, hall⟩
  by_cases hlt : k < l.length
  · have hlt2 : (k : Int) < ((l.map Irow).length : Int) := by omega
    refine R_ (o_ r_ (bw_ r_ r_ (T_ (am_ (aq_ r_ u_ (as_ (al_ (B_ (R_ (o_ r_ (cc_ r_ r_ g_ r_ r_ b_ (o_ r_ (cb_ r_ r_ (E_ r_ (T_ (R_ (M_ r_ (o_ r_ (bw_ r_ r_ ?_)))))))))))))))))))
    refine M_ r_ (jl_or 2 2 rfl rfl rfl rfl (nb rfl) ?_)
    apply Exists.intro
    refine ⟨fun hb1 => ?_, ?_⟩
    exact ah_ r_ h_ b_ (bd_ r_ (ah_ r_ h_ b_ (bz_ r_ r_ (ak_ (jq_seg 2 rfl rfl rfl (List.Perm.refl _))))))
    refine T_ (jc_cond rfl (fun hn => ?_) (fun hy => ?_))
    · have hp : plainB l[k] = false := by
        unfold plainB
        simp only [Bool.or_eq_true, decide_eq_true_eq] at hn
        simp only [Bool.and_eq_false_iff, decide_eq_false_iff_not]
        omega
      have hno := all_no hlt hp
      refine R_ (E_ r_ (T_ (ar_ (az_ (aw_ (aw_ (az_ (aw_ (jq_ret1 rfl rfl [] rfl (fun K h => by rw [hno] at h; exact h))))))))))
    · have hp : plainB l[k] = true := by
        unfold plainB
        simp only [Bool.or_eq_false_iff, decide_eq_false_iff_not] at hy
        simp only [Bool.and_eq_true, decide_eq_true_eq]
        omega
      refine as_ (ay_ (al_ (an_ (o_ r_ (bj_ r_ r_ g_ (M_ r_ (ak_ (jq_againS (k + 1) ⟨hlt, all_snoc hlt hall hp⟩ g_ ?_ ?_))))))))
      · exact sub_end
      · (repeat (first | exact True.intro | refine ⟨rfl, ?_⟩))
  · have hlt2 : ¬ (k : Int) < ((l.map Irow).length : Int) := by omega
    rw [List.take_of_length_le (by omega)] at hall
    refine R_ (o_ r_ (bw_ r_ r_ (T_ (am_ (ap_ r_ w_ (av_ (ax_ (ax_ (ba_ (al_ (R_ (E_ r_ (T_ (ar_ (jq_ret1 rfl rfl [] rfl (fun K h => by rw [hall] at h; exact h))))))))))))))))
theorem signedL_c (l : List Int) : Con Tryz.prog 68 [.cell (.list (l.map Irow))] [] (fun K => K (Bl (l.all smallB)) []) := by
  have eL : (l.map Irow).length = l.length := List.length_map _
  refine con_intro Tryz.func68 rfl rfl (Nat.le_of_ble_eq_true rfl) (fun c hc => R_ (E_ r_ (T_ (am_ (R_ (M_ r_ (o_ r_ (br_ r_ (fun hlen => M_ r_ (T_ (au_ (jc_loopS (ι := Nat) [] (fun k => k ≤ l.length ∧ (l.take k).all smallB = true) (fun k => [(5, .cell (.list (l.map Irow))), (6, In .i64 ((l.map Irow).length : Int)), (7, In .i64 (k : Int))]) (fun _ => []) (fun k => l.length - k) 0 ⟨Nat.zero_le _, rfl⟩ ?_ ?_ ?_))))))))))))
  · exact sub_end
  · (repeat (first | exact True.intro | refine ⟨rfl, ?_⟩))
  rintro k ⟨hk, hall⟩
  by_cases hlt : k < l.length
  · have hlt2 : (k : Int) < ((l.map Irow).length : Int) := by omega
    refine R_ (o_ r_ (bw_ r_ r_ (T_ (am_ (aq_ r_ u_ (as_ (al_ (B_ (R_ (o_ r_ (cc_ r_ r_ g_ r_ r_ b_ (o_ r_ (cb_ r_ r_ (E_ r_ (T_ (R_ (M_ r_ (o_ r_ (bw_ r_ r_ ?_)))))))))))))))))))
    refine M_ r_ (jl_or 2 2 rfl rfl rfl rfl (nb rfl) ?_)
    apply Exists.intro
    refine ⟨fun hb1 => ?_, ?_⟩
    exact ah_ r_ h_ b_ (bd_ r_ (ah_ r_ h_ b_ (bz_ r_ r_ (ak_ (jq_seg 2 rfl rfl rfl (List.Perm.refl _))))))
    refine T_ (jc_cond rfl (fun hn => ?_) (fun hy => ?_))
    · have hp : smallB l[k] = false := by
        unfold smallB
        simp only [Bool.or_eq_true, decide_eq_true_eq] at hn
        simp only [Bool.and_eq_false_iff, decide_eq_false_iff_not]
        omega
      have hno := all_no hlt hp
      refine R_ (E_ r_ (T_ (ar_ (az_ (aw_ (aw_ (az_ (aw_ (jq_ret1 rfl rfl [] rfl (fun K h => by rw [hno] at h; exact h))))))))))
    · have hp : smallB l[k] = true := by
        unfold smallB
        simp only [Bool.or_eq_false_iff, decide_eq_false_iff_not] at hy
        simp only [Bool.and_eq_true, decide_eq_true_eq]
        omega
      refine as_ (ay_ (al_ (an_ (o_ r_ (bj_ r_ r_ g_ (M_ r_ (ak_ (jq_againS (k + 1) ⟨hlt, all_snoc hlt hall hp⟩ g_ ?_ ?_))))))))
      · exact sub_end
      · (repeat (first | exact True.intro | refine ⟨rfl, ?_⟩))
  · have hlt2 : ¬ (k : Int) < ((l.map Irow).length : Int) := by omega
    rw [List.take_of_length_le (by omega)] at hall
    refine R_ (o_ r_ (bw_ r_ r_ (T_ (am_ (ap_ r_ w_ (av_ (ax_ (ax_ (ba_ (al_ (R_ (E_ r_ (T_ (ar_ (jq_ret1 rfl rfl [] rfl (fun K h => by rw [hall] at h; exact h))))))))))))))))
/-- The sign of an operator, or none. -/
def signA (o : Int) : ByteArray := if 1 ≤ o ∧ o ≤ 14 then signT o else ⟨#[]⟩
theorem signA_c (o : Int) : Con Tryz.prog 69 [In .i64 o] [] (fun K => K (Str (signA o)) []) := by
  by_cases h : 1 ≤ o ∧ o ≤ 14
  · have := Sign_c o h
    unfold signA
    rw [if_pos h]
    exact this
  · have e : signA o = ⟨#[]⟩ := by unfold signA; rw [if_neg h]
    refine con_intro Tryz.func69 rfl rfl (Nat.le_of_ble_eq_true rfl) (fun c hc => ?_)
    by_cases h1 : o < 1
    · refine R_ (E_ r_ (T_ (am_ (R_ (M_ r_ (o_ r_ (bw_ r_ r_ (M_ r_ (ai_ r_ u_ b_ (ai_ r_ u_ b_ (o_ r_ (bp_ r_ u_ r_ (T_ (aq_ r_ r_ (R_ (E_ r_ (T_ ?_)))))))))))))))))
      refine ar_ (aw_ (jq_ret1 rfl rfl [] rfl (fun K h => by rw [e] at h; exact h)))
    · have h2 : o > 14 := by omega
      refine R_ (E_ r_ (T_ (am_ (R_ (M_ r_ (o_ r_ (bw_ r_ r_ (M_ r_ (ah_ r_ w_ b_ (bd_ r_ (ah_ r_ w_ b_ (bz_ r_ r_ (o_ r_ (bv_ r_ w_ r_ (T_ (aq_ r_ u_ (R_ (E_ r_ (T_ ?_)))))))))))))))))))
      refine ar_ (aw_ (jq_ret1 rfl rfl [] rfl (fun K h => by rw [e] at h; exact h)))
theorem signA_ne (o : Int) : (!decide (signA o = ⟨#[]⟩)) = (decide (1 ≤ o) && decide (o ≤ 14)) := by
  by_cases h : 1 ≤ o ∧ o ≤ 14
  · have := str_ne h
    unfold signA
    rw [if_pos h, decide_eq_false this, decide_eq_true h.1, decide_eq_true h.2]
    rfl
  · unfold signA
    rw [if_neg h, decide_eq_true rfl]
    symm
    rw [Bool.not_true, Bool.and_eq_false_iff, decide_eq_false_iff_not, decide_eq_false_iff_not]
    omega
/-- An expression's own shape, without its parts. -/
def shHd : T → Bool
  | .nu n => smallB n
  | .nm s => nameB s
  | .ix s _ => nameB s
  | .bn o _ _ => decide (1 ≤ o) && decide (o ≤ 14)
theorem shp_hd (F : Nat) (t : T) : shpF (F + 1) t = (shHd t && t.args.all (shpF F)) := by
  cases t <;> simp [shpF, shHd, T.args, Bool.and_assoc]
theorem shapedB_c : ∀ (F : Nat) (t : T), F ≤ 20 → Con Tryz.prog 36 [.row t.row', In .i64 (21 - (F : Int))] [] (fun K => K (Bl (shpF F t)) []) := by
  intro F
  induction F with
  | zero =>
    intro t _
    refine con_intro Tryz.func36 rfl rfl (Nat.le_of_ble_eq_true rfl) (fun c hc => R_ (o_ r_ (ci_ r_ (fun bx => E_ r_ (T_ (am_ (R_ (M_ r_ (o_ r_ (bz_ r_ r_ (T_ (aq_ r_ r_ (R_ (E_ r_ (T_ (ar_ (aw_ ?_)))))))))))))))))
    refine jq_ret1 rfl rfl [] rfl (fun K h => h)
  | succ F ih =>
    intro t hF
    have eA : (t.args.map T.row).length = t.args.length := List.length_map _
    have hF1 : (21 - ((F + 1 : Nat) : Int) + 1) = 21 - (F : Int) := by omega
    have hF2 : ¬ 20 < (21 - ((F + 1 : Nat) : Int)) := by omega
    have hF3 : 0 ≤ (21 - ((F + 1 : Nat) : Int)) ∧ (21 - ((F + 1 : Nat) : Int)) ≤ 20 := by omega
    have ih := fun x => ih x (by omega)
    rw [← hF1] at ih
    have hsh := shp_hd F t
    generalize (21 - ((F + 1 : Nat) : Int)) = d at hF1 hF2 hF3 ih ⊢
    refine con_intro Tryz.func36 rfl rfl (Nat.le_of_ble_eq_true rfl) (fun c hc => R_ (o_ r_ (ci_ r_ (fun bx => E_ r_ (T_ (am_ (R_ (M_ r_ (o_ r_ (bz_ r_ r_ (T_ (ap_ r_ w_ (as_ (al_ (R_ (F_ r_ (L_ 0 r_ ?_)))))))))))))))))
    refine o_ r_ (bn_ r_ r_ (M_ r_ (jl_and 3 3 rfl rfl rfl rfl (nb rfl) ?_)))
    apply Exists.intro
    refine ⟨fun hb1 => ?_, ?_⟩
    exact ah_ r_ h_ b_ (bf_ r_ r_ r_ b_ (ah_ r_ h_ b_ (bg_ 0 r_ r_ r_ r_ (ah_ r_ h_ b_ (bn_ r_ r_ (ak_ (jq_seg 3 rfl rfl rfl (List.Perm.refl _))))))))
    refine E_ r_ (T_ (R_ (E_ r_ (T_ (am_ (R_ (F_ r_ (L_ 0 r_ (T_ (jc_cut (ι := Unit) [] (fun _ => True) (fun _ => [(1, In .i64 d), (2, .cell (.val (.pointer (some ⟨bx, 0, none⟩)))), (6, Bl (shHd t))]) (fun _ => [.blk bx 53 t.row']) ?_ ?_))))))))))
    · clear ih eA hsh
      cases t with
      | nu n =>
        refine au_ (R_ (o_ r_ (bn_ r_ r_ (E_ r_ (T_ (aq_ r_ x_ (an_ (F_ r_ (L_ 0 r_ (o_ r_ (bq_ r_ r_ b_ r_ r_ b_ (o_ r_ (bm_ r_ (signedL_c [n]) (M_ r_ (jl_and 3 4 rfl rfl rfl rfl (nb rfl) ?_)))))))))))))))
        apply Exists.intro
        refine ⟨fun hb1 => ?_, ?_⟩
        exact ah_ r_ h_ b_ (bf_ r_ r_ r_ b_ (ah_ r_ h_ b_ (bg_ 0 r_ r_ r_ r_ (ah_ r_ h_ b_ (cs_ r_ r_ (ak_ (jq_seg 3 rfl rfl rfl (List.Perm.refl _))))))))
        refine M_ r_ (jl_and 3 9 rfl rfl rfl rfl (nb rfl) ?_)
        apply Exists.intro
        refine ⟨fun hb1 => ?_, ?_⟩
        exact ah_ r_ h_ b_ (bf_ r_ r_ r_ b_ (ah_ r_ h_ b_ (bg_ 0 r_ r_ r_ r_ (ah_ r_ h_ b_ (bn_ r_ r_ (ak_ (jq_seg 3 rfl rfl rfl (List.Perm.refl _))))))))
        refine M_ r_ (jl_and 4 14 rfl rfl rfl rfl (nb rfl) ?_)
        apply Exists.intro
        refine ⟨fun hb1 => ?_, ?_⟩
        exact ah_ r_ h_ b_ (bf_ r_ r_ r_ b_ (ah_ r_ h_ b_ (bg_ 0 r_ r_ r_ r_ (ah_ r_ h_ b_ (br_ r_ (fun hlen => ah_ r_ h_ b_ (bn_ r_ r_ (ak_ (jq_seg 4 rfl rfl rfl (List.Perm.refl _))))))))))
        refine E_ r_ (ak_ (ay_ (jq_bl 6 rfl (b' := shHd (.nu n)) (by simp [shHd, T.num, T.name, T.op, T.args]) (jq_cutS () trivial ?_ ?_))))
        · exact bc_ 0 r_ sub_end
        · (repeat (first | exact True.intro | refine ⟨rfl, ?_⟩))
      | nm s =>
        refine au_ (R_ (o_ r_ (bn_ r_ r_ (E_ r_ (T_ (ap_ r_ r_ (R_ (o_ r_ (bn_ r_ r_ (E_ r_ (T_ (aq_ r_ x_ (an_ (F_ r_ (L_ 0 r_ (o_ r_ (bm_ r_ (namedB_c _) (M_ r_ ?_))))))))))))))))))
        refine jl_and 1 3 rfl rfl rfl rfl (nb rfl) ?_
        apply Exists.intro
        refine ⟨fun hb1 => ?_, ?_⟩
        exact ah_ r_ h_ b_ (bd_ r_ (ak_ (jq_seg 1 rfl rfl rfl (List.Perm.refl _))))
        refine M_ r_ (jl_and 4 6 rfl rfl rfl rfl (nb rfl) ?_)
        apply Exists.intro
        refine ⟨fun hb1 => ?_, ?_⟩
        exact ah_ r_ h_ b_ (bf_ r_ r_ r_ b_ (ah_ r_ h_ b_ (bg_ 0 r_ r_ r_ r_ (ah_ r_ h_ b_ (br_ r_ (fun hlen => ah_ r_ h_ b_ (bn_ r_ r_ (ak_ (jq_seg 4 rfl rfl rfl (List.Perm.refl _))))))))))
        refine E_ r_ (ak_ (ay_ (jq_bl 6 rfl (b' := shHd (.nm s)) (by simp [shHd, T.num, T.name, T.op, T.args]) (jq_cutS () trivial ?_ ?_))))
        · exact bc_ 0 r_ sub_end
        · (repeat (first | exact True.intro | refine ⟨rfl, ?_⟩))
      | ix s t =>
        refine au_ (R_ (o_ r_ (bn_ r_ r_ (E_ r_ (T_ (ap_ r_ r_ (R_ (o_ r_ (bn_ r_ r_ (E_ r_ (T_ (ap_ r_ r_ (R_ (o_ r_ (bn_ r_ r_ (E_ r_ (T_ (aq_ r_ x_ ?_))))))))))))))))))
        refine an_ (F_ r_ (L_ 0 r_ (o_ r_ (bm_ r_ (namedB_c _) (M_ r_ (jl_and 1 3 rfl rfl rfl rfl (nb rfl) ?_))))))
        apply Exists.intro
        refine ⟨fun hb1 => ?_, ?_⟩
        exact ah_ r_ h_ b_ (bd_ r_ (ak_ (jq_seg 1 rfl rfl rfl (List.Perm.refl _))))
        refine M_ r_ (jl_and 4 6 rfl rfl rfl rfl (nb rfl) ?_)
        apply Exists.intro
        refine ⟨fun hb1 => ?_, ?_⟩
        exact ah_ r_ h_ b_ (bf_ r_ r_ r_ b_ (ah_ r_ h_ b_ (bg_ 0 r_ r_ r_ r_ (ah_ r_ h_ b_ (br_ r_ (fun hlen => ah_ r_ h_ b_ (bn_ r_ r_ (ak_ (jq_seg 4 rfl rfl rfl (List.Perm.refl _))))))))))
        refine E_ r_ (ak_ (ay_ (jq_bl 6 rfl (b' := shHd (.ix s t)) (by simp [shHd, T.num, T.name, T.op, T.args]) (jq_cutS () trivial ?_ ?_))))
        · exact bc_ 0 r_ sub_end
        · (repeat (first | exact True.intro | refine ⟨rfl, ?_⟩))
      | bn o a b =>
        have hne : decide (¬ signA o = ⟨#[]⟩) = (decide (1 ≤ o) && decide (o ≤ 14)) := by rw [← signA_ne, decide_not]
        refine au_ (R_ (o_ r_ (bn_ r_ r_ (E_ r_ (T_ (ap_ r_ r_ (R_ (o_ r_ (bn_ r_ r_ (E_ r_ (T_ (ap_ r_ r_ (R_ (o_ r_ (bn_ r_ r_ (E_ r_ (T_ (ap_ r_ r_ ?_))))))))))))))))))
        refine R_ (o_ r_ (bn_ r_ r_ (E_ r_ (T_ (aq_ r_ x_ (an_ (F_ r_ (L_ 0 r_ (o_ r_ (bm_ r_ (signA_c _) (o_ r_ (ct_ r_ r_ (M_ r_ (jl_and 3 4 rfl rfl rfl rfl (nb rfl) ?_))))))))))))))
        apply Exists.intro
        refine ⟨fun hb1 => ?_, ?_⟩
        exact ah_ r_ h_ b_ (bf_ r_ r_ r_ b_ (ah_ r_ h_ b_ (bg_ 0 r_ r_ r_ r_ (ah_ r_ h_ b_ (bn_ r_ r_ (ak_ (jq_seg 3 rfl rfl rfl (List.Perm.refl _))))))))
        refine M_ r_ (jl_and 3 9 rfl rfl rfl rfl (nb rfl) ?_)
        apply Exists.intro
        refine ⟨fun hb1 => ?_, ?_⟩
        exact ah_ r_ h_ b_ (bf_ r_ r_ r_ b_ (ah_ r_ h_ b_ (bg_ 0 r_ r_ r_ r_ (ah_ r_ h_ b_ (cs_ r_ r_ (ak_ (jq_seg 3 rfl rfl rfl (List.Perm.refl _))))))))
        refine M_ r_ (jl_and 4 14 rfl rfl rfl rfl (nb rfl) ?_)
        apply Exists.intro
        refine ⟨fun hb1 => ?_, ?_⟩
        exact ah_ r_ h_ b_ (bf_ r_ r_ r_ b_ (ah_ r_ h_ b_ (bg_ 0 r_ r_ r_ r_ (ah_ r_ h_ b_ (br_ r_ (fun hlen => ah_ r_ h_ b_ (bn_ r_ r_ (ak_ (jq_seg 4 rfl rfl rfl (List.Perm.refl _))))))))))
        refine E_ r_ (ak_ (ay_ (jq_bl 6 rfl (b' := shHd (.bn o a b)) (by rw [shHd, ← hne]; by_cases hz : signA o = ⟨#[]⟩ <;> simp [T.num, T.name, T.op, T.args, hz]) (jq_cutS () trivial ?_ ?_))))
        · exact bc_ 0 r_ sub_end
        · (repeat (first | exact True.intro | refine ⟨rfl, ?_⟩))
    · intro _ _
      refine am_ (R_ (F_ r_ (L_ 0 r_ (o_ r_ (br_ r_ (fun hlen => M_ r_ (T_ (au_ (jc_loopS (ι := Nat) [] (fun k => k ≤ t.args.length) (fun k => [(1, In .i64 d), (6, Bl (shHd t && (t.args.take k).all (shpF F))), (94, .cell (.list (t.args.map T.row))), (95, In .i64 ((t.args.map T.row).length : Int)), (96, In .i64 (k : Int))]) (fun _ => []) (fun k => t.args.length - k) 0 (Nat.zero_le _) ?_ ?_ ?_)))))))))
      · exact sub_end
      · rw [show (shHd t && (t.args.take 0).all (shpF F)) = shHd t by simp]
        (repeat (first | exact True.intro | refine ⟨rfl, ?_⟩))
      intro k hk
      by_cases hlt : k < t.args.length
      · have hlt2 : (k : Int) < ((t.args.map T.row).length : Int) := by omega
        have ih1 := ih t.args[k]
        have e1 : (shHd t && (t.args.take (k + 1)).all (shpF F)) = ((shHd t && (t.args.take k).all (shpF F)) && shpF F t.args[k]) := by
          rw [List.take_succ_eq_append_getElem hlt, List.all_append, Bool.and_assoc]
          simp
        generalize (shHd t && (t.args.take k).all (shpF F)) = z at e1 ⊢
        refine R_ (o_ r_ (bw_ r_ r_ (T_ (am_ (aq_ r_ u_ (as_ (al_ (B_ (R_ (o_ r_ (cc_ r_ r_ g_ (T.row_eq _) r_ b_ (o_ r_ (cr_ r_ r_ r_ (o_ r_ (bl_ r_ r_ (fun bl => S_ 0 r_ (T_ (an_ (M_ r_ ?_)))))))))))))))))))
        refine M_ r_ (jl_and 4 1 rfl rfl rfl rfl (nb rfl) ?_)
        apply Exists.intro
        refine ⟨fun hb1 => ?_, ?_⟩
        exact ah_ r_ h_ b_ (bs_ 0 r_ r_ r_ r_ (ah_ r_ h_ b_ (bd_ r_ (ah_ r_ h_ b_ (bj_ r_ r_ g_ (ah_ r_ h_ b_ (bm_ r_ (ih1) (ak_ (jq_seg 4 rfl rfl rfl (List.Perm.refl _))))))))))
        refine E_ r_ (ak_ (ay_ (al_ (an_ (o_ r_ (bj_ r_ r_ g_ (M_ r_ (ak_ (jq_againS (k + 1) hlt g_ ?_ ?_)))))))))
        · exact sub_end
        · rw [e1]
          (repeat (first | exact True.intro | refine ⟨rfl, ?_⟩))
      · have hlt2 : ¬ (k : Int) < ((t.args.map T.row).length : Int) := by omega
        rw [List.take_of_length_le (show t.args.length ≤ k by omega), ← hsh]
        refine R_ (o_ r_ (bw_ r_ r_ (T_ (am_ (ap_ r_ w_ (av_ (ax_ (ax_ (ba_ (al_ (R_ (M_ r_ (E_ r_ (T_ (ar_ (jq_ret1 rfl rfl [] rfl (fun K h => h)))))))))))))))))
end Go.Proofs.YtlniadfidfmckaaGreatDoor
end

section
namespace Go.Proofs.YtlniadfidfmckaaGreatDoor
open Go.Vc
attribute [local irreducible] JL JC JQ OpWp Con ConN
attribute [local irreducible] byteAt runLen isL isD isName hasW
set_option maxHeartbeats 4000000

def rightB (s : Sm) : Bool :=
  if s.kind = 1 then nameB s.name && decide (s.index.length = 0) && decide (s.value.length = 1) && (decide (s.max = 0) && decide (s.label = 0)) && decide (s.thn.length + s.els.length = 0)
  else if s.kind = 2 then nameB s.name && decide (s.index.length = 1) && decide (s.value.length = 1) && (decide (s.max = 0) && decide (s.label = 0)) && decide (s.thn.length + s.els.length = 0)
  else if s.kind = 3 then decide (s.name = ⟨#[]⟩) && decide (s.index.length = 0) && decide (s.value.length = 1) && decide (s.max = 0) && plainB s.label
  else if s.kind = 4 then decide (s.name = ⟨#[]⟩) && decide (s.index.length = 0) && decide (s.value.length = 1) && (plainB s.max && plainB s.label) && decide (s.els.length = 0)
  else if s.kind = 5 then nameB s.name && decide (s.index.length = 0) && decide (s.value.length = 0) && (decide (s.max = 0) && decide (s.label = 0)) && decide (s.els.length = 0)
  else false
theorem wrap0 (a b : Nat) (ha : a ≤ 9223372036854775807) (hb : b ≤ 9223372036854775807) : decide (IntKind.i64.wrap ((a : Int) + (b : Int)) = 0) = decide (a + b = 0) := by
  rw [decide_eq_decide]
  simp only [IntKind.wrap, IntKind.bits, IntKind.signed]
  simp
  omega
theorem right_c (s : Sm) : Con Tryz.prog 75 [.row s.row'] [] (fun K => K (Bl (rightB s)) []) := by
  have eI : (s.index.map T.row).length = s.index.length := List.length_map _
  have eV : (s.value.map T.row).length = s.value.length := List.length_map _
  have eT : (s.thn.map Sm.row).length = s.thn.length := List.length_map _
  have eE : (s.els.map Sm.row).length = s.els.length := List.length_map _
  have d0 : ∀ n : Nat, decide ((n : Int) = 0) = decide (n = 0) := fun n => by rw [decide_eq_decide]; omega
  have d1 : ∀ n : Nat, decide ((n : Int) = 1) = decide (n = 1) := fun n => by rw [decide_eq_decide]; omega
  refine con_intro Tryz.func75 rfl rfl (Nat.le_of_ble_eq_true rfl) (fun c hc => ?_)
  have hk : s.kind = 1 ∨ s.kind = 2 ∨ s.kind = 3 ∨ s.kind = 4 ∨ s.kind = 5 ∨ ¬ (s.kind = 1 ∨ s.kind = 2 ∨ s.kind = 3 ∨ s.kind = 4 ∨ s.kind = 5) := by omega
  rcases hk with hk | hk | hk | hk | hk | hk
  · have e : rightB s = _ := if_pos hk
    refine R_ (o_ r_ (ci_ r_ (fun bx => E_ r_ (T_ (R_ (F_ r_ (L_ 0 r_ (o_ r_ (br_ r_ (fun hlen => F_ r_ (L_ 0 r_ (o_ r_ (br_ r_ (fun hlen => o_ r_ (ow_add r_ r_ (o_ r_ (bn_ r_ r_ (E_ r_ (T_ (R_ ?_))))))))))))))))))))
    refine F_ r_ (L_ 0 r_ (o_ r_ (bn_ r_ r_ (M_ r_ (jl_and 3 3 rfl rfl rfl rfl (nb rfl) ?_)))))
    apply Exists.intro
    refine ⟨fun hb1 => ?_, ?_⟩
    exact ah_ r_ h_ b_ (bf_ r_ r_ r_ b_ (ah_ r_ h_ b_ (bg_ 0 r_ r_ r_ r_ (ah_ r_ h_ b_ (bn_ r_ r_ (ak_ (jq_seg 3 rfl rfl rfl (List.Perm.refl _))))))))
    refine E_ r_ (T_ (am_ (R_ (F_ r_ (L_ 0 r_ (T_ (au_ (R_ (o_ r_ (bn_ r_ r_ (E_ r_ (T_ (aq_ r_ u_ (R_ (F_ r_ (L_ 0 r_ ?_))))))))))))))))
    refine o_ r_ (bm_ r_ (namedB_c _) (M_ r_ (jl_and 4 3 rfl rfl rfl rfl (nb rfl) ?_)))
    apply Exists.intro
    refine ⟨fun hb1 => ?_, ?_⟩
    exact ah_ r_ h_ b_ (bf_ r_ r_ r_ b_ (ah_ r_ h_ b_ (bg_ 0 r_ r_ r_ r_ (ah_ r_ h_ b_ (br_ r_ (fun hlen => ah_ r_ h_ b_ (bn_ r_ r_ (ak_ (jq_seg 4 rfl rfl rfl (List.Perm.refl _))))))))))
    refine M_ r_ (jl_and 4 9 rfl rfl rfl rfl (nb rfl) ?_)
    apply Exists.intro
    refine ⟨fun hb1 => ?_, ?_⟩
    exact ah_ r_ h_ b_ (bf_ r_ r_ r_ b_ (ah_ r_ h_ b_ (bg_ 0 r_ r_ r_ r_ (ah_ r_ h_ b_ (br_ r_ (fun hlen => ah_ r_ h_ b_ (bn_ r_ r_ (ak_ (jq_seg 4 rfl rfl rfl (List.Perm.refl _))))))))))
    refine M_ r_ (jl_and 1 15 rfl rfl rfl rfl (nb rfl) ?_)
    apply Exists.intro
    refine ⟨fun hb1 => ?_, ?_⟩
    exact ah_ r_ h_ b_ (bd_ r_ (ak_ (jq_seg 1 rfl rfl rfl (List.Perm.refl _))))
    refine M_ r_ (jl_and 1 18 rfl rfl rfl rfl (nb rfl) ?_)
    apply Exists.intro
    refine ⟨fun hb1 => ?_, ?_⟩
    exact ah_ r_ h_ b_ (bd_ r_ (ak_ (jq_seg 1 rfl rfl rfl (List.Perm.refl _))))
    refine E_ r_ (T_ (ar_ (az_ (aw_ (jq_bl 2 rfl (b' := rightB s) ?_ ?_)))))
    · rw [e, wrap0 (s.thn.map Sm.row).length (s.els.map Sm.row).length (by assumption) (by assumption), d0, d1, eI, eV, eT, eE]
    refine jq_ret1 rfl rfl [] rfl (fun K h => h)
  · have e : rightB s = _ := (if_neg (by omega)).trans (if_pos hk)
    refine R_ (o_ r_ (ci_ r_ (fun bx => E_ r_ (T_ (R_ (F_ r_ (L_ 0 r_ (o_ r_ (br_ r_ (fun hlen => F_ r_ (L_ 0 r_ (o_ r_ (br_ r_ (fun hlen => o_ r_ (ow_add r_ r_ (o_ r_ (bn_ r_ r_ (E_ r_ (T_ (R_ ?_))))))))))))))))))))
    refine F_ r_ (L_ 0 r_ (o_ r_ (bn_ r_ r_ (M_ r_ (jl_and 3 3 rfl rfl rfl rfl (nb rfl) ?_)))))
    apply Exists.intro
    refine ⟨fun hb1 => ?_, ?_⟩
    exact ah_ r_ h_ b_ (bf_ r_ r_ r_ b_ (ah_ r_ h_ b_ (bg_ 0 r_ r_ r_ r_ (ah_ r_ h_ b_ (bn_ r_ r_ (ak_ (jq_seg 3 rfl rfl rfl (List.Perm.refl _))))))))
    refine E_ r_ (T_ (am_ (R_ (F_ r_ (L_ 0 r_ (T_ (au_ (R_ (o_ r_ (bn_ r_ r_ (E_ r_ (T_ (ap_ r_ v_ (R_ (o_ r_ (bn_ r_ r_ (E_ r_ ?_)))))))))))))))))
    refine T_ (aq_ r_ u_ (R_ (F_ r_ (L_ 0 r_ (o_ r_ (bm_ r_ (namedB_c _) (M_ r_ (jl_and 4 3 rfl rfl rfl rfl (nb rfl) ?_))))))))
    apply Exists.intro
    refine ⟨fun hb1 => ?_, ?_⟩
    exact ah_ r_ h_ b_ (bf_ r_ r_ r_ b_ (ah_ r_ h_ b_ (bg_ 0 r_ r_ r_ r_ (ah_ r_ h_ b_ (br_ r_ (fun hlen => ah_ r_ h_ b_ (bn_ r_ r_ (ak_ (jq_seg 4 rfl rfl rfl (List.Perm.refl _))))))))))
    refine M_ r_ (jl_and 4 9 rfl rfl rfl rfl (nb rfl) ?_)
    apply Exists.intro
    refine ⟨fun hb1 => ?_, ?_⟩
    exact ah_ r_ h_ b_ (bf_ r_ r_ r_ b_ (ah_ r_ h_ b_ (bg_ 0 r_ r_ r_ r_ (ah_ r_ h_ b_ (br_ r_ (fun hlen => ah_ r_ h_ b_ (bn_ r_ r_ (ak_ (jq_seg 4 rfl rfl rfl (List.Perm.refl _))))))))))
    refine M_ r_ (jl_and 1 15 rfl rfl rfl rfl (nb rfl) ?_)
    apply Exists.intro
    refine ⟨fun hb1 => ?_, ?_⟩
    exact ah_ r_ h_ b_ (bd_ r_ (ak_ (jq_seg 1 rfl rfl rfl (List.Perm.refl _))))
    refine M_ r_ (jl_and 1 18 rfl rfl rfl rfl (nb rfl) ?_)
    apply Exists.intro
    refine ⟨fun hb1 => ?_, ?_⟩
    exact ah_ r_ h_ b_ (bd_ r_ (ak_ (jq_seg 1 rfl rfl rfl (List.Perm.refl _))))
    refine E_ r_ (T_ (ar_ (az_ (aw_ (jq_bl 2 rfl (b' := rightB s) ?_ ?_)))))
    · rw [e, wrap0 (s.thn.map Sm.row).length (s.els.map Sm.row).length (by assumption) (by assumption), d1, d1, eI, eV, eT, eE]
    refine jq_ret1 rfl rfl [] rfl (fun K h => h)
  · have e : rightB s = _ := (if_neg (by omega)).trans ((if_neg (by omega)).trans (if_pos hk))
    refine R_ (o_ r_ (ci_ r_ (fun bx => E_ r_ (T_ (R_ (F_ r_ (L_ 0 r_ (o_ r_ (br_ r_ (fun hlen => F_ r_ (L_ 0 r_ (o_ r_ (br_ r_ (fun hlen => o_ r_ (ow_add r_ r_ (o_ r_ (bn_ r_ r_ (E_ r_ (T_ (R_ ?_))))))))))))))))))))
    refine F_ r_ (L_ 0 r_ (o_ r_ (bn_ r_ r_ (M_ r_ (jl_and 3 3 rfl rfl rfl rfl (nb rfl) ?_)))))
    apply Exists.intro
    refine ⟨fun hb1 => ?_, ?_⟩
    exact ah_ r_ h_ b_ (bf_ r_ r_ r_ b_ (ah_ r_ h_ b_ (bg_ 0 r_ r_ r_ r_ (ah_ r_ h_ b_ (bn_ r_ r_ (ak_ (jq_seg 3 rfl rfl rfl (List.Perm.refl _))))))))
    refine E_ r_ (T_ (am_ (R_ (F_ r_ (L_ 0 r_ (T_ (au_ (R_ (o_ r_ (bn_ r_ r_ (E_ r_ (T_ (ap_ r_ v_ (R_ (o_ r_ (bn_ r_ r_ (E_ r_ ?_)))))))))))))))))
    refine T_ (ap_ r_ v_ (R_ (o_ r_ (bn_ r_ r_ (E_ r_ (T_ (aq_ r_ u_ (R_ (F_ r_ (L_ 0 r_ (o_ r_ (cs_ r_ r_ (M_ r_ (jl_and 4 3 rfl rfl rfl rfl (nb rfl) ?_))))))))))))))
    apply Exists.intro
    refine ⟨fun hb1 => ?_, ?_⟩
    exact ah_ r_ h_ b_ (bf_ r_ r_ r_ b_ (ah_ r_ h_ b_ (bg_ 0 r_ r_ r_ r_ (ah_ r_ h_ b_ (br_ r_ (fun hlen => ah_ r_ h_ b_ (bn_ r_ r_ (ak_ (jq_seg 4 rfl rfl rfl (List.Perm.refl _))))))))))
    refine M_ r_ (jl_and 4 9 rfl rfl rfl rfl (nb rfl) ?_)
    apply Exists.intro
    refine ⟨fun hb1 => ?_, ?_⟩
    exact ah_ r_ h_ b_ (bf_ r_ r_ r_ b_ (ah_ r_ h_ b_ (bg_ 0 r_ r_ r_ r_ (ah_ r_ h_ b_ (br_ r_ (fun hlen => ah_ r_ h_ b_ (bn_ r_ r_ (ak_ (jq_seg 4 rfl rfl rfl (List.Perm.refl _))))))))))
    refine M_ r_ (jl_and 3 15 rfl rfl rfl rfl (nb rfl) ?_)
    apply Exists.intro
    refine ⟨fun hb1 => ?_, ?_⟩
    exact ah_ r_ h_ b_ (bf_ r_ r_ r_ b_ (ah_ r_ h_ b_ (bg_ 0 r_ r_ r_ r_ (ah_ r_ h_ b_ (bn_ r_ r_ (ak_ (jq_seg 3 rfl rfl rfl (List.Perm.refl _))))))))
    refine M_ r_ (jl_and 4 20 rfl rfl rfl rfl (nb rfl) ?_)
    apply Exists.intro
    refine ⟨fun hb1 => ?_, ?_⟩
    exact ah_ r_ h_ b_ (bf_ r_ r_ r_ b_ (ah_ r_ h_ b_ (bg_ 0 r_ r_ r_ r_ (ah_ r_ h_ b_ (bq_ r_ r_ b_ r_ r_ b_ (ah_ r_ h_ b_ (bm_ r_ (plainL_c [s.label]) (ak_ (jq_seg 4 rfl rfl rfl (List.Perm.refl _))))))))))
    refine E_ r_ (T_ (ar_ (az_ (aw_ (jq_bl 2 rfl (b' := rightB s) ?_ ?_)))))
    · rw [e, d0, d1, eI, eV]
      simp [Bool.and_assoc]
    refine jq_ret1 rfl rfl [] rfl (fun K h => h)
  · have e : rightB s = _ := (if_neg (by omega)).trans ((if_neg (by omega)).trans ((if_neg (by omega)).trans (if_pos hk)))
    refine R_ (o_ r_ (ci_ r_ (fun bx => E_ r_ (T_ (R_ (F_ r_ (L_ 0 r_ (o_ r_ (br_ r_ (fun hlen => F_ r_ (L_ 0 r_ (o_ r_ (br_ r_ (fun hlen => o_ r_ (ow_add r_ r_ (o_ r_ (bn_ r_ r_ (E_ r_ (T_ (R_ ?_))))))))))))))))))))
    refine F_ r_ (L_ 0 r_ (o_ r_ (bn_ r_ r_ (M_ r_ (jl_and 3 3 rfl rfl rfl rfl (nb rfl) ?_)))))
    apply Exists.intro
    refine ⟨fun hb1 => ?_, ?_⟩
    exact ah_ r_ h_ b_ (bf_ r_ r_ r_ b_ (ah_ r_ h_ b_ (bg_ 0 r_ r_ r_ r_ (ah_ r_ h_ b_ (bn_ r_ r_ (ak_ (jq_seg 3 rfl rfl rfl (List.Perm.refl _))))))))
    refine E_ r_ (T_ (am_ (R_ (F_ r_ (L_ 0 r_ (T_ (au_ (R_ (o_ r_ (bn_ r_ r_ (E_ r_ (T_ (ap_ r_ v_ (R_ (o_ r_ (bn_ r_ r_ (E_ r_ ?_)))))))))))))))))
    refine T_ (ap_ r_ v_ (R_ (o_ r_ (bn_ r_ r_ (E_ r_ (T_ (ap_ r_ v_ (R_ (o_ r_ (bn_ r_ r_ (E_ r_ (T_ (aq_ r_ u_ (R_ (F_ r_ (L_ 0 r_ (o_ r_ (cs_ r_ r_ ?_))))))))))))))))))
    refine M_ r_ (jl_and 4 3 rfl rfl rfl rfl (nb rfl) ?_)
    apply Exists.intro
    refine ⟨fun hb1 => ?_, ?_⟩
    exact ah_ r_ h_ b_ (bf_ r_ r_ r_ b_ (ah_ r_ h_ b_ (bg_ 0 r_ r_ r_ r_ (ah_ r_ h_ b_ (br_ r_ (fun hlen => ah_ r_ h_ b_ (bn_ r_ r_ (ak_ (jq_seg 4 rfl rfl rfl (List.Perm.refl _))))))))))
    refine M_ r_ (jl_and 4 9 rfl rfl rfl rfl (nb rfl) ?_)
    apply Exists.intro
    refine ⟨fun hb1 => ?_, ?_⟩
    exact ah_ r_ h_ b_ (bf_ r_ r_ r_ b_ (ah_ r_ h_ b_ (bg_ 0 r_ r_ r_ r_ (ah_ r_ h_ b_ (br_ r_ (fun hlen => ah_ r_ h_ b_ (bn_ r_ r_ (ak_ (jq_seg 4 rfl rfl rfl (List.Perm.refl _))))))))))
    refine M_ r_ (jl_and 6 15 rfl rfl rfl rfl (nb rfl) ?_)
    apply Exists.intro
    refine ⟨fun hb1 => ?_, ?_⟩
    exact ah_ r_ h_ b_ (bf_ r_ r_ r_ b_ (ah_ r_ h_ b_ (bg_ 0 r_ r_ r_ r_ (ah_ r_ h_ b_ (bf_ r_ r_ r_ b_ (ah_ r_ h_ b_ (bg_ 0 r_ r_ r_ r_ (ah_ r_ h_ b_ (bq_ r_ r_ b_ r_ r_ b_ (ah_ r_ h_ b_ (bm_ r_ (plainL_c [s.max, s.label]) (ak_ (jq_seg 6 rfl rfl rfl (List.Perm.refl _))))))))))))))
    refine M_ r_ (jl_and 4 23 rfl rfl rfl rfl (nb rfl) ?_)
    apply Exists.intro
    refine ⟨fun hb1 => ?_, ?_⟩
    exact ah_ r_ h_ b_ (bf_ r_ r_ r_ b_ (ah_ r_ h_ b_ (bg_ 0 r_ r_ r_ r_ (ah_ r_ h_ b_ (br_ r_ (fun hlen => ah_ r_ h_ b_ (bn_ r_ r_ (ak_ (jq_seg 4 rfl rfl rfl (List.Perm.refl _))))))))))
    refine E_ r_ (T_ (ar_ (az_ (aw_ (jq_bl 2 rfl (b' := rightB s) ?_ ?_)))))
    · rw [e, d0, d1, d0, eI, eV, eE]
      simp [Bool.and_assoc]
    refine jq_ret1 rfl rfl [] rfl (fun K h => h)
  · have e : rightB s = _ := (if_neg (by omega)).trans ((if_neg (by omega)).trans ((if_neg (by omega)).trans ((if_neg (by omega)).trans (if_pos hk))))
    refine R_ (o_ r_ (ci_ r_ (fun bx => E_ r_ (T_ (R_ (F_ r_ (L_ 0 r_ (o_ r_ (br_ r_ (fun hlen => F_ r_ (L_ 0 r_ (o_ r_ (br_ r_ (fun hlen => o_ r_ (ow_add r_ r_ (o_ r_ (bn_ r_ r_ (E_ r_ (T_ (R_ ?_))))))))))))))))))))
    refine F_ r_ (L_ 0 r_ (o_ r_ (bn_ r_ r_ (M_ r_ (jl_and 3 3 rfl rfl rfl rfl (nb rfl) ?_)))))
    apply Exists.intro
    refine ⟨fun hb1 => ?_, ?_⟩
    exact ah_ r_ h_ b_ (bf_ r_ r_ r_ b_ (ah_ r_ h_ b_ (bg_ 0 r_ r_ r_ r_ (ah_ r_ h_ b_ (bn_ r_ r_ (ak_ (jq_seg 3 rfl rfl rfl (List.Perm.refl _))))))))
    refine E_ r_ (T_ (am_ (R_ (F_ r_ (L_ 0 r_ (T_ (au_ (R_ (o_ r_ (bn_ r_ r_ (E_ r_ (T_ (ap_ r_ v_ (R_ (o_ r_ (bn_ r_ r_ (E_ r_ ?_)))))))))))))))))
    refine T_ (ap_ r_ v_ (R_ (o_ r_ (bn_ r_ r_ (E_ r_ (T_ (ap_ r_ v_ (R_ (o_ r_ (bn_ r_ r_ (E_ r_ (T_ (ap_ r_ v_ (R_ (o_ r_ (bn_ r_ r_ (E_ r_ (T_ ?_))))))))))))))))))
    refine aq_ r_ u_ (R_ (F_ r_ (L_ 0 r_ (o_ r_ (bm_ r_ (namedB_c _) (M_ r_ (jl_and 4 3 rfl rfl rfl rfl (nb rfl) ?_)))))))
    apply Exists.intro
    refine ⟨fun hb1 => ?_, ?_⟩
    exact ah_ r_ h_ b_ (bf_ r_ r_ r_ b_ (ah_ r_ h_ b_ (bg_ 0 r_ r_ r_ r_ (ah_ r_ h_ b_ (br_ r_ (fun hlen => ah_ r_ h_ b_ (bn_ r_ r_ (ak_ (jq_seg 4 rfl rfl rfl (List.Perm.refl _))))))))))
    refine M_ r_ (jl_and 4 9 rfl rfl rfl rfl (nb rfl) ?_)
    apply Exists.intro
    refine ⟨fun hb1 => ?_, ?_⟩
    exact ah_ r_ h_ b_ (bf_ r_ r_ r_ b_ (ah_ r_ h_ b_ (bg_ 0 r_ r_ r_ r_ (ah_ r_ h_ b_ (br_ r_ (fun hlen => ah_ r_ h_ b_ (bn_ r_ r_ (ak_ (jq_seg 4 rfl rfl rfl (List.Perm.refl _))))))))))
    refine M_ r_ (jl_and 1 15 rfl rfl rfl rfl (nb rfl) ?_)
    apply Exists.intro
    refine ⟨fun hb1 => ?_, ?_⟩
    exact ah_ r_ h_ b_ (bd_ r_ (ak_ (jq_seg 1 rfl rfl rfl (List.Perm.refl _))))
    refine M_ r_ (jl_and 4 18 rfl rfl rfl rfl (nb rfl) ?_)
    apply Exists.intro
    refine ⟨fun hb1 => ?_, ?_⟩
    exact ah_ r_ h_ b_ (bf_ r_ r_ r_ b_ (ah_ r_ h_ b_ (bg_ 0 r_ r_ r_ r_ (ah_ r_ h_ b_ (br_ r_ (fun hlen => ah_ r_ h_ b_ (bn_ r_ r_ (ak_ (jq_seg 4 rfl rfl rfl (List.Perm.refl _))))))))))
    refine E_ r_ (T_ (ar_ (az_ (aw_ (jq_bl 2 rfl (b' := rightB s) ?_ ?_)))))
    · rw [e, d0, d0, d0, eI, eV, eE]
    refine jq_ret1 rfl rfl [] rfl (fun K h => h)
  · have e : rightB s = false := (if_neg (by omega)).trans ((if_neg (by omega)).trans ((if_neg (by omega)).trans ((if_neg (by omega)).trans (if_neg (by omega)))))
    refine R_ (o_ r_ (ci_ r_ (fun bx => E_ r_ (T_ (R_ (F_ r_ (L_ 0 r_ (o_ r_ (br_ r_ (fun hlen => F_ r_ (L_ 0 r_ (o_ r_ (br_ r_ (fun hlen => o_ r_ (ow_add r_ r_ (o_ r_ (bn_ r_ r_ (E_ r_ (T_ (R_ ?_))))))))))))))))))))
    refine F_ r_ (L_ 0 r_ (o_ r_ (bn_ r_ r_ (M_ r_ (jl_and 3 3 rfl rfl rfl rfl (nb rfl) ?_)))))
    apply Exists.intro
    refine ⟨fun hb1 => ?_, ?_⟩
    exact ah_ r_ h_ b_ (bf_ r_ r_ r_ b_ (ah_ r_ h_ b_ (bg_ 0 r_ r_ r_ r_ (ah_ r_ h_ b_ (bn_ r_ r_ (ak_ (jq_seg 3 rfl rfl rfl (List.Perm.refl _))))))))
    refine E_ r_ (T_ (am_ (R_ (F_ r_ (L_ 0 r_ (T_ (au_ (R_ (o_ r_ (bn_ r_ r_ (E_ r_ (T_ (ap_ r_ v_ (R_ (o_ r_ (bn_ r_ r_ (E_ r_ ?_)))))))))))))))))
    refine T_ (ap_ r_ v_ (R_ (o_ r_ (bn_ r_ r_ (E_ r_ (T_ (ap_ r_ v_ (R_ (o_ r_ (bn_ r_ r_ (E_ r_ (T_ (ap_ r_ v_ (R_ (o_ r_ (bn_ r_ r_ (E_ r_ (T_ ?_))))))))))))))))))
    refine ap_ r_ v_ (as_ (ay_ (al_ (R_ (E_ r_ (T_ (ar_ (jq_ret1 rfl rfl [] rfl (fun K h => by rw [e] at h; exact h)))))))))
end Go.Proofs.YtlniadfidfmckaaGreatDoor
end

section
namespace Go.Vc
open Go.RowKit

theorem append_string_new {P : Program} (w : World) (t u ty e : TypeId) (i : TypeInfo) (ht : P.underlying t = some (.slice e)) (hu : P.underlying u = some .string) (hi : P.info? e = some i) (hz : i.zero = some (.int .u8 0))
    (hsize : i.size = 1) (hby : i.bytes = 1) (v : Value) (n : Nat) (xs : List Value) (hown : w.ownsRow 0 e 1 v n xs) (s : ByteArray) (hbytes : n + s.size ≤ 140737488355328) {v' : Value} {w' : World}
    (hrun : (Builtin.append_ #[t, u] ty #[v, .string s]).run P w = .ok v' w') : ∀ b, v'.ownBlock = some b → v.ownBlock = some b ∨ w.heap.size ≤ b := by
  have hxl : xs.length = n := by simpa using hown.1
  intro b hb
  rcases hown.2 with ⟨rfl, rfl⟩ | ⟨g, cap, cur, rfl, hbg, hg, hnc, hcm, hcs, htake⟩
  · by_cases hm : s.size = 0
    · have hf := Lib.run_firstCells_string (P := P) w 1 s
      rw [hm] at hf
      have hn : Lib.strCells s = [] := List.eq_nil_of_length_eq_zero (by rw [Lib.strCells_length]; exact hm)
      simp [Builtin.append_, run_underlying ht, run_underlying hu, sizeOf, typeInfo, hi, hsize, Builtin.lenOf, hm, hf, hn] at hrun
      rw [← hrun.1] at hb
      simp [Value.ownBlock] at hb
    · have hr := run_append_nil_string (P := P) w t u ty e i (.int .u8 0) ht hu hi hz s (by omega) (by omega) (by rw [hby]; omega)
      rw [hr] at hrun
      simp only [Result.ok.injEq] at hrun
      rw [← hrun.1] at hb
      simp only [Value.ownBlock, Option.some.injEq] at hb
      exact .inr (by omega)
  · by_cases hroom : n + s.size ≤ cap
    · have hcs' : cur.size = cap := by simpa using hcs
      have hr := Lib.run_append_room_string (P := P) w t u ty e i ht hu hi hsize g n cap cur hg s hroom (by omega)
      rw [hr] at hrun
      simp only [Result.ok.injEq] at hrun
      rw [← hrun.1] at hb
      exact .inl hb
    · have holds : ∀ j u, xs[j]? = some u → w.cell? ((⟨g, 0, none⟩ : Addr).add j) = some u := hown.cells (g := g) rfl
      have hr := Lib.run_append_grow_string (P := P) w t u ty e i (.int .u8 0) ht hu hi hz ⟨g, 0, none⟩ n cap xs (by rw [hsize]; simpa using hxl) holds s (by omega) (by omega) (by rw [hby]; exact growslice_fits (by omega) (by omega))
      rw [hr] at hrun
      simp only [Result.ok.injEq] at hrun
      rw [← hrun.1] at hb
      simp only [Value.ownBlock, Option.some.injEq] at hb
      exact .inr (by omega)
theorem rdRows_bytes {w : World} {A : Nat → Prop} (s : ByteArray) : RdRows w A 1 ((bytesI s).map Brow) (Lib.strCells s) := by
  have : ∀ l : List UInt8, RdRows w A 1 ((l.map fun b => (b.toNat : Int)).map Brow) (l.map fun b => Value.int .u8 b.toNat) := by
    intro l
    induction l with
    | nil => rfl
    | cons b l ih => exact ⟨[.int .u8 b.toNat], _, rfl, rfl, ⟨_, _, rfl, ⟨rfl, rfl⟩, rfl⟩, ih⟩
  exact this s.data.toList
theorem ba_lit (l : List UInt8) : (⟨l.toArray⟩ : ByteArray).size = l.length := rfl
theorem bytesI_app (s t : ByteArray) : bytesI (s ++ t) = bytesI s ++ bytesI t := by simp [bytesI]
theorem bytesOf_bytesI (s : ByteArray) : bytesOf (bytesI s) = s := by
  have h1 : ∀ (l : List UInt8) (r : ByteArray), (l.map fun b => (b.toNat : Int)).foldl (fun r n => r.push (UInt8.ofNat n.toNat)) r = r ++ ⟨l.toArray⟩ := by
    intro l
    induction l with
    | nil => intro r; apply ByteArray.ext; simp
    | cons b l ih =>
      intro r
      rw [List.map_cons, List.foldl_cons, ih]
      apply ByteArray.ext
      simp [ByteArray.push]
  have h2 := h1 s.data.toList ByteArray.empty
  unfold bytesOf bytesI
  rw [h2]
  apply ByteArray.ext
  simp
section
variable {P : Program} [Gl P] {nt : Nat} {c : Cx P nt} {env : Env} {H : List Ch} {K : S → List Ch → Prop}
variable {d : Option Tmp} {ty t u : TypeId} {pos : String} {af : Array Edge} {g : Option (Nat × Bool)} {x y : Operand}
theorem ow_appendS {v : Value} {X s : ByteArray} {e : TypeId} {Hr : List Ch} [SL P t] [TI P u] (j : Nat) (hu : TI.u P u = .string) (hx : env.ev x = some (.cell (.val v))) (hy : env.ev y = some (Str s)) (hp : pick [j] H = some ([.own v e 1 ((bytesI X).map Brow)], Hr)) (he : e = SL.e P t)
    (hz : (TI.i P (SL.e P t)).zero = some (.int .u8 0)) (hsz : (TI.i P (SL.e P t)).size = 1) (hby : (TI.i P (SL.e P t)).bytes = 1) (hlim : X.size + s.size ≤ 140737488355328)
    (hK : ∀ v', (c.Fresh v → c.Fresh v') → K (.cell (.val v')) (.own v' e 1 ((bytesI (X ++ s)).map Brow) :: Hr)) :
    OpWp c ⟨d, .call { callee := .builtin .append, args := #[x, y], argTypes := #[t, u] }, ty, pos, af, g⟩ env H K := by
  subst he
  intro a w h next Q hn
  have hperm := pick_perm hp
  have h' : StW c (.own v (SL.e P t) 1 ((bytesI X).map Brow) :: Hr) w := h.heap.perm hperm
  have hav : c.av (.own v (SL.e P t) 1 ((bytesI X).map Brow) :: Hr) = c.av H := av_perm c hperm
  obtain ⟨vs, ho, hr, hk⟩ := h'.ok (.own v (SL.e P t) 1 ((bytesI X).map Brow)) (by simp)
  have h1x := ev_val h hx
  have h1y := ev_val h hy
  have eX : ((bytesI X).map Brow).length = X.size := by rw [List.length_map, bytesI_len]
  rw [eX] at ho
  have hu' : P.underlying u = some .string := by rw [TI.hu (P := P) (t := u), hu]
  obtain ⟨v', w', hrun, ho', hg, _⟩ := Lib.run_append_own_string (P := P) w 0 t u ty (SL.e P t) (TI.i P (SL.e P t)) SL.hs hu' TI.hi hz hsz hby v X.size vs ho s (by unfold maxLen; omega) hlim (Nat.zero_le _)
  have hnew := append_string_new (P := P) w t u ty (SL.e P t) (TI.i P (SL.e P t)) SL.hs hu' TI.hi hz hsz hby v X.size vs ho s hlim hrun
  have hgr : Grow (hb [.own v (SL.e P t) 1 ((bytesI X).map Brow)]) w w' := by
    have := Grow.of_grownBy hg
    simpa [hb, Ch.bs] using this
  have hAold : ∀ b, c.av (.own v' (SL.e P t) 1 ((bytesI (X ++ s)).map Brow) :: Hr) b → c.av H b ∨ w.heap.size ≤ b := by
    intro b hbm
    rcases hbm with hbm | hbm
    · exact .inl (.inl hbm)
    · simp only [hb_cons, Ch.bs, List.mem_append, Option.mem_toList] at hbm
      rw [← hav]
      rcases hbm with hbm | hbm
      · rcases hnew b hbm with h1 | h1
        · exact .inl (.inr (by simp [hb_cons, Ch.bs, h1]))
        · exact .inr h1
      · exact .inl (.inr (by simp only [hb_cons, List.mem_append]; exact .inr hbm))
  have hupA : Up (c.av H) w w' := by
    refine hgr.up (fun b hbm => ?_)
    rw [← hav]
    exact .inr (by simp only [hb, List.flatMap_cons, List.flatMap_nil, List.append_nil] at hbm; simp only [hb_cons, List.mem_append]; exact .inl hbm)
  obtain ⟨s1, s2⟩ := StW.step (H1 := [.own v (SL.e P t) 1 ((bytesI X).map Brow)]) (H1' := [.own v' (SL.e P t) 1 ((bytesI (X ++ s)).map Brow)]) h' hgr
    (by
      intro b hbm
      simp only [hb, Ch.bs, List.flatMap_cons, List.flatMap_nil, List.append_nil, Option.mem_toList] at hbm ⊢
      exact hnew b hbm)
    (by cases hv : v'.ownBlock <;> simp [hb, Ch.bs, hv])
    (by
      intro ch hch
      simp only [List.mem_singleton] at hch
      subst hch
      refine ⟨vs ++ Lib.strCells s, ?_, ?_, hk⟩
      · rw [List.length_map, bytesI_len, ByteArray.size_append]; exact ho'
      · rw [bytesI_app, List.map_append]
        exact rdRows_append (rdRows_up hupA hAold 1 _ vs (hav ▸ hr)) (rdRows_bytes s))
  unfold Oper.wp
  have hex : (execOp a.eval ⟨d, .call { callee := .builtin .append, args := #[x, y], argTypes := #[t, u] }, ty, pos, af, g⟩).run P w = .ok (.value v') w' := by
    simp only [execOp, resolve, invoke, builtin, Sem.run_bind, Sem.run_pure, Result.andThen_ok, List.map_toArray, List.map_cons, List.map_nil, h1x, h1y, hrun]
  rw [hex]
  obtain ⟨al, ac, hv'⟩ := own_len ho'
  have h1' : v'.oneCell' = true := by rw [hv']; rfl
  exact hn _ _ _ _ (hK v' (fun hf b hb => (hnew b hb).elim (hf b) (fun h => Nat.le_trans h'.size h))) s1 ⟨rfl, h1'⟩ (fun s v hs => s2 s v (by rw [List.singleton_append, hav]; exact hs))
end
end Go.Vc
end

section
namespace Go.Vc
open Go.RowKit

section
variable {P : Program} [Gl P] {nt : Nat} {c : Cx P nt} {env : Env} {H Hr : List Ch} {K : S → List Ch → Prop}
variable {d : Option Tmp} {ty t t' u : TypeId} {pos : String} {af : Array Edge} {g : Option (Nat × Bool)} {x y : Operand}
end
end Go.Vc
end

section
namespace Go.Vc
open Go.RowKit
set_option maxHeartbeats 1000000
section
variable {P : Program} [Gl P] {nt : Nat} {c : Cx P nt} {env : Env} {H : List Ch} {K : S → List Ch → Prop} {d : Option Tmp} {t tn ty : TypeId} {pos : String} {af : Array Edge} {g : Option (Nat × Bool)} {x y : Operand}

/-- append(nil, make([]E, n)...): a slice of one's own. -/
theorem ow_growNil [SL P t] [TI P tn] {z : Value} (n : Nat) (hn : TI.u P tn = .int .i64) (hz : (TI.i P (SL.e P t)).zero = some z) (h1 : z.cells.toList.all Value.oneCell' = true) (hsz : (TI.i P (SL.e P t)).size = z.cells.size) (hpos : 0 < z.cells.size)
    (hx : env.ev x = some (.cell (.val (.slice none 0 0)))) {m : Int} (hy : env.ev y = some (In .i64 m)) (hm : m = n) (h0 : 0 < n) (hlim : n * (TI.i P (SL.e P t)).bytes ≤ 140737488355328) (hmax : n ≤ 140737488351232)
    (hK : ∀ v, v.oneCell' = true → c.Fresh v → K (.cell (.val v)) (.own v (SL.e P t) z.cells.size (List.replicate n (zeroRow z)) :: H)) :
    OpWp c ⟨d, .call { callee := .builtin .append, args := #[x, y], argTypes := #[t, tn] }, ty, pos, af, g⟩ env H K := by
  subst hm
  intro a w h next Q hnx
  have hrun := Lib.run_append_grow_zeros (P := P) w t tn ty (SL.e P t) (TI.i P (SL.e P t)) z .i64 .i64 SL.hs (by rw [TI.hu (P := P) (t := tn), hn]) TI.hi hz none 0 0 [] (by simp [Builtin.firstCells]) n h0 (by omega) (by omega) (by omega) (by omega) (by rw [Nat.zero_add, nextslicecap_zero h0]; omega)
  simp only [Nat.zero_add] at hrun
  have hge := grownCap_ge w n 0 (SL.e P t)
  have hcm : grownCap w n 0 (SL.e P t) ≤ maxLen := grownCap_le_maxLen w n 0 (SL.e P t) (by unfold maxLen; omega)
  generalize grownCap w n 0 (SL.e P t) = G at hrun hge hcm
  have hzc : (Builtin.zeroCells z.cells n).size = n * z.cells.size := by simp [Builtin.zeroCells]
  have ho : (w.drew.alloc (.cells (([] : List Value).toArray ++ Builtin.zeroCells z.cells n ++ Builtin.zeroCells z.cells (G - n)) (SL.e P t))).ownsRow 0 (SL.e P t) z.cells.size (.slice (some ⟨w.heap.size, 0, none⟩) n G) n (Builtin.zeroCells z.cells n).toList := by
    refine ⟨by rw [Array.length_toList, hzc], .inr ⟨w.heap.size, G, _, rfl, Nat.zero_le _, heap_alloc_new w.drew _, hge, hcm, ?_, ?_⟩⟩
    · simp only [Array.size_append, List.size_toArray, List.length_nil, hzc, size_zeroCells, Nat.zero_add]
      rw [← Nat.add_mul]
      congr 1
      omega
    · simp only [Array.toList_append, List.nil_append]
      rw [← hzc, ← Array.length_toList]
      exact List.take_left
  have hg : w.grownBy (w.drew.alloc (.cells (([] : List Value).toArray ++ Builtin.zeroCells z.cells n ++ Builtin.zeroCells z.cells (G - n)) (SL.e P t))) none := ⟨rfl, rfl, rfl, by simp, fun k hk _ => Go.heap_alloc_old w.drew _ hk⟩
  generalize w.drew.alloc (.cells (([] : List Value).toArray ++ Builtin.zeroCells z.cells n ++ Builtin.zeroCells z.cells (G - n)) (SL.e P t)) = w' at hrun ho hg
  have hgr : Grow (hb []) w w' := by simpa [hb] using Grow.of_grownBy hg
  have h' : StW c ([] ++ H) w := h.heap
  have hav : ∀ b, c.av (.own (.slice (some ⟨w.heap.size, 0, none⟩) n G) (SL.e P t) z.cells.size (List.replicate n (zeroRow z)) :: H) b → c.av H b ∨ w.heap.size ≤ b := by
    intro b hb'
    rcases hb' with hb' | hb'
    · exact .inl (.inl hb')
    · rw [hb_cons] at hb'
      rcases List.mem_append.1 hb' with hb' | hb'
      · simp only [Ch.bs, Value.ownBlock, Option.mem_toList, Option.some.injEq] at hb'
        exact .inr (by omega)
      · exact .inl (.inr hb')
  obtain ⟨s1, s2⟩ := StW.step (H1' := [.own (.slice (some ⟨w.heap.size, 0, none⟩) n G) (SL.e P t) z.cells.size (List.replicate n (zeroRow z))]) h' hgr (by simp [hb, Ch.bs, Value.ownBlock]) (by simp [hb, Ch.bs, Value.ownBlock]) (by
    intro ch hch
    simp only [List.mem_singleton] at hch
    subst hch
    refine ⟨_, by rw [List.length_replicate]; exact ho, ?_, hpos⟩
    have e : (Builtin.zeroCells z.cells n).toList = (List.range (n * z.cells.size)).map fun i => z.cells[i % z.cells.size]! := by simp [Builtin.zeroCells]
    rw [e]
    exact rdRows_up (A := c.av H) (hgr.up (by simp [hb])) hav _ _ _ (rdRows_zeros rfl (List.all_eq_true.1 h1) n))
  unfold Oper.wp
  have hex : (execOp a.eval ⟨d, .call { callee := .builtin .append, args := #[x, y], argTypes := #[t, tn] }, ty, pos, af, g⟩).run P w = .ok (.value (.slice (some ⟨w.heap.size, 0, none⟩) n G)) w' := by
    simp only [execOp, resolve, invoke, builtin, Sem.run_bind, Sem.run_pure, Result.andThen_ok, List.map_toArray, List.map_cons, List.map_nil, ev_val h hx, ev_val h hy, hrun]
  rw [hex]
  exact hnx _ _ _ _ (hK _ rfl (fun b hb => by simp only [Value.ownBlock, Option.some.injEq] at hb; have := h.heap.size; omega)) s1 ⟨rfl, rfl⟩ s2
/-- The capacity of a slice whose value is known. -/
theorem ow_capNil [SL P t] (hx : env.ev x = some (.cell (.val (.slice none 0 0)))) (hK : K (In .i64 0) H) : OpWp c ⟨d, .call { callee := .builtin .cap, args := #[x], argTypes := #[t] }, ty, pos, af, g⟩ env H K :=
  ow_valx rfl (fun a w h => by
    simp [execOp, resolve, invoke, builtin, ev_val h hx, Builtin.cap_, run_underlying (SL.hs (P := P) (t := t)), goInt]) hK
theorem ow_lenNil [SL P t] (hx : env.ev x = some (.cell (.val (.slice none 0 0)))) (hK : K (In .i64 0) H) : OpWp c ⟨d, .call { callee := .builtin .len, args := #[x], argTypes := #[t] }, ty, pos, af, g⟩ env H K :=
  ow_valx rfl (fun a w h => by
    simp [execOp, resolve, invoke, builtin, ev_val h hx, Builtin.len_, run_underlying (SL.hs (P := P) (t := t)), goInt]) hK
theorem ow_trimNil [SL P t] (hx : env.ev x = some (.cell (.val (.slice none 0 0)))) (hy : env.ev y = some (In .i64 0)) (hK : K (.cell (.val (.slice none 0 0))) H) : OpWp c ⟨d, .slice t x none (some y) none, ty, pos, af, g⟩ env H K :=
  ow_valx rfl (fun a w h => by
    simp [execOp, ev_val h hx, ev_val h hy, Instr.sliceAt, Instr.slice, Instr.sliceBounds, Instr.sliceBound, asIntOf, run_elem t, run_sizeOf]) hK
end
end Go.Vc
end

section
namespace Go.Proofs.YtlniadfidfmckaaGreatDoor
open Go.Vc
attribute [local irreducible] JL JC JQ OpWp Con ConN
set_option maxHeartbeats 4000000

abbrev NilV : Value := .slice none 0 0
theorem growE_c (n : Nat) (hn : n ≤ 1000000) : Con Tryz.prog 104 [.cell (.val NilV), In .i64 (n : Int)] [] (fun K => ∀ v : Value, True → K (.cell (.val v)) [.own v 53 5 []]) := by
  refine con_intro Tryz.func104 rfl rfl (Nat.le_of_ble_eq_true rfl) (fun c hc => ?_)
  by_cases h0 : 0 < n
  · refine R_ (E_ r_ (T_ (am_ (R_ (M_ r_ (o_ r_ (bw_ r_ r_ (T_ (ap_ r_ r_ (as_ (al_ (am_ (R_ (M_ r_ (M_ r_ (o_ r_ (ow_capNil r_ ?_)))))))))))))))))
    refine M_ r_ (o_ r_ (ow_lenNil r_ (o_ r_ (cg_ r_ r_ g_ (o_ r_ (cg_ r_ r_ g_ (E_ r_ (T_ (R_ (M_ r_ (o_ r_ (bz_ r_ r_ (T_ (aq_ r_ t_ (an_ (M_ r_ (M_ r_ (o_ r_ (ow_capNil r_ (o_ r_ (ow_trimNil r_ r_ ?_)))))))))))))))))))))
    refine M_ r_ (o_ r_ (ow_growNil n rfl rfl rfl rfl (by decide) rfl rfl g_ h0 (by show n * 64 ≤ _; omega) g_ (fun v _ _ => M_ r_ (o_ r_ (ow_lenNil r_ (o_ r_ (ow_trim 0 r_ r_ r_ g_ g_ (jl_trim 0 0 rfl (Nat.zero_le _) (E_ r_ (T_ (R_ (M_ r_ (E_ r_ (T_ (ar_ (jq_ret1 rfl rfl [0] rfl (fun K h => h _ trivial)))))))))))))))))
  · obtain rfl : n = 0 := by omega
    refine R_ (E_ r_ (T_ (am_ (R_ (M_ r_ (o_ r_ (bw_ r_ r_ (T_ (ap_ r_ r_ (as_ (al_ (am_ (R_ (M_ r_ (M_ r_ (o_ r_ (ow_capNil r_ ?_)))))))))))))))))
    refine M_ r_ (o_ r_ (ow_lenNil r_ (o_ r_ (cg_ r_ r_ g_ (o_ r_ (cg_ r_ r_ g_ (E_ r_ (T_ (R_ (M_ r_ (o_ r_ (bz_ r_ r_ (T_ (ap_ r_ r_ (as_ (al_ (R_ (M_ r_ (E_ r_ ?_)))))))))))))))))))
    refine T_ (ar_ (jq_ownNil 53 5 g_ (jq_ret1 rfl rfl [0] rfl (fun K h => h _ trivial))))
end Go.Proofs.YtlniadfidfmckaaGreatDoor
end

section
namespace Go.Proofs.YtlniadfidfmckaaGreatDoor
open Go.Vc
attribute [local irreducible] JL JC JQ OpWp Con ConN
set_option maxHeartbeats 4000000

theorem concatE_c (A B : List T) (hA : A.length ≤ 1000) (hB : B.length ≤ 1000) : Con Tryz.prog 76 [.cell (.list [[.list (A.map T.row)], [.list (B.map T.row)]])] [] (fun K => K (.cell (.list ((A ++ B).map T.row))) []) := by
  have eA : (A.map T.row).length = A.length := List.length_map _
  have eB : (B.map T.row).length = B.length := List.length_map _
  refine con_intro Tryz.func76 rfl rfl (Nat.le_of_ble_eq_true rfl) (fun c hc => R_ (E_ r_ (T_ (R_ (E_ r_ (T_ (am_ (R_ (M_ r_ (o_ r_ (br_ r_ (fun hlen => M_ r_ (T_ (jc_cut (ι := Unit) [] (fun _ => True) (fun _ => [(0, .cell (.list [[.list (A.map T.row)], [.list (B.map T.row)]])), (3, In .i64 ((A.length + B.length : Nat) : Int))]) (fun _ => []) ?_ ?_))))))))))))))
  · refine au_ (jc_loopS (ι := Nat × Nat) [] (fun i => (i.1 = 0 ∧ i.2 = 0) ∨ (i.1 = 1 ∧ i.2 = A.length) ∨ (i.1 = 2 ∧ i.2 = A.length + B.length)) (fun i => [(0, .cell (.list [[.list (A.map T.row)], [.list (B.map T.row)]])), (9, .cell (.list [[.list (A.map T.row)], [.list (B.map T.row)]])), (10, In .i64 2), (11, In .i64 (i.1 : Int)), (3, In .i64 (i.2 : Int))]) (fun _ => []) (fun i => 2 - i.1) (0, 0) (.inl ⟨rfl, rfl⟩) ?_ ?_ ?_)
    · exact sub_end
    · (repeat (first | exact True.intro | refine ⟨rfl, ?_⟩))
    rintro ⟨k, q⟩ hi
    dsimp only at hi ⊢
    rcases hi with ⟨rfl, rfl⟩ | ⟨rfl, rfl⟩ | ⟨rfl, rfl⟩
    · refine R_ (o_ r_ (bw_ r_ r_ (T_ (am_ (aq_ r_ r_ (as_ (al_ (B_ (R_ (o_ r_ (ow_indexAddr r_ r_ g_ r_ r_ b_ (o_ r_ (cb_ r_ r_ (E_ r_ (T_ (R_ (M_ r_ (M_ r_ ?_))))))))))))))))))
      refine o_ r_ (br_ r_ (fun hlen => o_ r_ (bj_ r_ r_ g_ (E_ r_ (T_ (R_ (M_ r_ (o_ r_ (bw_ r_ r_ (T_ (ap_ r_ r_ (as_ (ay_ (al_ (an_ (o_ r_ (bj_ r_ r_ g_ (M_ r_ (ak_ ?_)))))))))))))))))))
      rw [show ((0 : Nat) : Int) + ((A.map T.row).length : Int) = ((A.length : Nat) : Int) by omega]
      refine jq_againS (i := (0, 0)) (1, A.length) (.inr (.inl ⟨rfl, rfl⟩)) (by dsimp only; omega) ?_ ?_
      · exact sub_end
      · (repeat (first | exact True.intro | refine ⟨rfl, ?_⟩))
    · refine R_ (o_ r_ (bw_ r_ r_ (T_ (am_ (aq_ r_ r_ (as_ (al_ (B_ (R_ (o_ r_ (ow_indexAddr r_ r_ g_ r_ r_ b_ (o_ r_ (cb_ r_ r_ (E_ r_ (T_ (R_ (M_ r_ (M_ r_ ?_))))))))))))))))))
      refine o_ r_ (br_ r_ (fun hlen => o_ r_ (bj_ r_ r_ g_ (E_ r_ (T_ (R_ (M_ r_ (o_ r_ (bw_ r_ r_ (T_ (ap_ r_ r_ (as_ (ay_ (al_ (an_ (o_ r_ (bj_ r_ r_ g_ (M_ r_ (ak_ ?_)))))))))))))))))))
      rw [show ((A.length : Nat) : Int) + ((B.map T.row).length : Int) = ((A.length + B.length : Nat) : Int) by omega]
      refine jq_againS (i := (1, A.length)) (2, A.length + B.length) (.inr (.inr ⟨rfl, rfl⟩)) (by dsimp only; omega) ?_ ?_
      · exact sub_end
      · (repeat (first | exact True.intro | refine ⟨rfl, ?_⟩))
    · refine R_ (o_ r_ (bw_ r_ r_ (T_ (am_ (ap_ r_ r_ (av_ (ax_ (ax_ (ba_ (jq_cutS () trivial ?_ ?_))))))))))
      · exact sub_end
      · (repeat (first | exact True.intro | refine ⟨rfl, ?_⟩))
  · intro _ _
    refine R_ (M_ r_ (o_ r_ (bt_ [] rfl rfl (growE_c _ g_) (fun pp hpp => E_ r_ (T_ (am_ (R_ (M_ r_ (o_ r_ (br_ r_ (fun hlen => M_ r_ (T_ (au_ ?_)))))))))))))
    refine jc_loopS (ι := Nat × Value × List T) [] (fun i => (i.1 = 0 ∧ i.2.2 = []) ∨ (i.1 = 1 ∧ i.2.2 = A) ∨ (i.1 = 2 ∧ i.2.2 = A ++ B)) (fun i => [(25, .cell (.list [[.list (A.map T.row)], [.list (B.map T.row)]])), (26, In .i64 2), (27, In .i64 (i.1 : Int)), (6, .cell (.val i.2.1))]) (fun i => [.own i.2.1 53 5 (i.2.2.map T.row)]) (fun i => 2 - i.1) (0, pp, []) (.inl ⟨rfl, rfl⟩) ?_ ?_ ?_
    · exact bc_ 0 r_ sub_end
    · (repeat (first | exact True.intro | refine ⟨rfl, ?_⟩))
    rintro ⟨k, v, l⟩ hi
    dsimp only at hi ⊢
    rcases hi with ⟨rfl, hl⟩ | ⟨rfl, hl⟩ | ⟨rfl, hl⟩ <;> rw [hl] <;> clear hl
    · refine R_ (o_ r_ (bw_ r_ r_ (T_ (am_ (aq_ r_ r_ (as_ (al_ (B_ (R_ (o_ r_ (ow_indexAddr r_ r_ g_ r_ r_ b_ (o_ r_ (cb_ r_ r_ (E_ r_ (T_ (an_ (M_ r_ (M_ r_ ?_))))))))))))))))))
      refine o_ r_ (ow_appendM 0 (l1 := []) (l2 := A) rfl rfl rfl rfl rfl rfl rfl (fun x => by rw [T.row_eq] ; rfl) (by show (0 + _) * 64 ≤ _ ; omega) (by show 0 + _ ≤ _ ; omega) (fun v1 _ => E_ r_ (ak_ (ay_ (al_ (an_ (o_ r_ (bj_ r_ r_ g_ (M_ r_ (ak_ (jq_againS (i := (0, v, [])) (1, v1, A) (.inr (.inl ⟨rfl, rfl⟩)) (by dsimp only; omega) ?_ ?_)))))))))))
      · exact bc_ 0 r_ sub_end
      · (repeat (first | exact True.intro | refine ⟨rfl, ?_⟩))
    · refine R_ (o_ r_ (bw_ r_ r_ (T_ (am_ (aq_ r_ r_ (as_ (al_ (B_ (R_ (o_ r_ (ow_indexAddr r_ r_ g_ r_ r_ b_ (o_ r_ (cb_ r_ r_ (E_ r_ (T_ (an_ (M_ r_ (M_ r_ ?_))))))))))))))))))
      refine o_ r_ (ow_appendM 0 (l1 := A) (l2 := B) rfl rfl rfl rfl rfl rfl rfl (fun x => by rw [T.row_eq] ; rfl) (by show (_ + _) * 64 ≤ _ ; omega) g_ (fun v1 _ => E_ r_ (ak_ (ay_ (al_ (an_ (o_ r_ (bj_ r_ r_ g_ (M_ r_ (ak_ (jq_againS (i := (1, v, A)) (2, v1, A ++ B) (.inr (.inr ⟨rfl, rfl⟩)) (by dsimp only; omega) ?_ ?_)))))))))))
      · exact bc_ 0 r_ sub_end
      · (repeat (first | exact True.intro | refine ⟨rfl, ?_⟩))
    · refine R_ (o_ r_ (bw_ r_ r_ (T_ (am_ (ap_ r_ r_ (av_ (ax_ (ax_ (ba_ (al_ (R_ (M_ r_ (E_ r_ (T_ (ar_ (jq_freeze 2 0 rfl rfl (by rw [hc]; simp [hb]) ?_))))))))))))))))
      refine jq_ret1 rfl rfl [] rfl (fun K h => h)
theorem exprs_c (s : Sm) (hI : s.index.length ≤ 1000) (hV : s.value.length ≤ 1000) : Con Tryz.prog 47 [.row s.row'] [] (fun K => K (.cell (.list ((s.index ++ s.value).map T.row))) []) := by
  have hC := concatE_c s.index s.value hI hV
  refine con_intro Tryz.func47 rfl rfl (Nat.le_of_ble_eq_true rfl) (fun c hc => R_ (o_ r_ (ci_ r_ (fun bx => E_ r_ (T_ (R_ (F_ r_ (L_ 0 r_ (F_ r_ (L_ 0 r_ (o_ r_ (bq_ r_ r_ b_ r_ r_ b_ (o_ r_ (bm_ r_ (hC) (E_ r_ (T_ (ar_ (jq_ret1 rfl rfl [] rfl (fun K h => h)))))))))))))))))))
end Go.Proofs.YtlniadfidfmckaaGreatDoor
end

section
namespace Go.Proofs.YtlniadfidfmckaaGreatDoor
open Go.Vc
attribute [local irreducible] JL JC JQ OpWp Con ConN
attribute [local irreducible] nameB plainB shpF
set_option maxHeartbeats 4000000

theorem okSs_nil (F : Nat) : okSs F [] = true := by cases F <;> simp [okSs]
/-- A statement is well formed if it is so itself, and so are its blocks and its expressions. -/
theorem ok_right (F : Nat) (s : Sm) : okOne (okSs F) s = (rightB s && okSs F s.thn && okSs F s.els && (s.index ++ s.value).all (shpF 20)) := by
  obtain ⟨k, nm, ix, v, mx, lb, th, el⟩ := s
  simp only [okOne, rightB, Sm.kind, Sm.name, Sm.index, Sm.value, Sm.max, Sm.label, Sm.thn, Sm.els]
  have hone : ∀ l : List T, oneB l = (decide (l.length = 1) && l.all (shpF 20)) := by
    intro l
    rcases l with _ | ⟨x, _ | ⟨y, l⟩⟩ <;> simp [oneB]
  rw [Bool.eq_iff_iff]
  rcases ix with _ | ⟨i, _ | ⟨i2, ix⟩⟩ <;> rcases v with _ | ⟨x, _ | ⟨x2, v⟩⟩ <;> rcases th with _ | ⟨t, th⟩ <;> rcases el with _ | ⟨e, el⟩ <;> simp [hone, okSs_nil] <;> (try split) <;> (try split) <;> (try split) <;> (try split) <;> (try split) <;> simp_all [and_assoc, and_comm, and_left_comm]
end Go.Proofs.YtlniadfidfmckaaGreatDoor
end

section
namespace Go.Proofs.YtlniadfidfmckaaGreatDoor
open Go.Vc
attribute [local irreducible] JL JC JQ OpWp Con ConN
attribute [local irreducible] nameB plainB shpF okSs rightB
set_option maxHeartbeats 8000000

/-- Lists within reason, so deep. -/
def lsS : Nat → List Sm → Prop
  | 0, _ => True
  | F + 1, l => ∀ s ∈ l, s.index.length ≤ 1000 ∧ s.value.length ≤ 1000 ∧ lsS F s.thn ∧ lsS F s.els
theorem formed_c : ∀ (F : Nat) (l : List Sm), F ≤ 20 → lsS F l → Con Tryz.prog 43 [.cell (.list (l.map Sm.row)), In .i64 (21 - (F : Int))] [] (fun K => K (Bl (okSs F l)) []) := by
  intro F
  induction F with
  | zero =>
    intro l _ _
    have e : okSs 0 l = true := by unfold okSs; rfl
    refine con_intro Tryz.func43 rfl rfl (Nat.le_of_ble_eq_true rfl) (fun c hc => R_ (E_ r_ (T_ (am_ (R_ (M_ r_ (o_ r_ (bz_ r_ r_ (T_ (aq_ r_ r_ (R_ (E_ r_ (T_ (ar_ (aw_ (jq_ret1 rfl rfl [] rfl (fun K h => by rw [e] at h; exact h)))))))))))))))))
  | succ F ih =>
    intro l hF hl
    have eL : (l.map Sm.row).length = l.length := List.length_map _
    have hF1 : (21 - ((F + 1 : Nat) : Int) + 1) = 21 - (F : Int) := by omega
    have hF2 : ¬ 20 < (21 - ((F + 1 : Nat) : Int)) := by omega
    have hF3 : 0 ≤ (21 - ((F + 1 : Nat) : Int)) ∧ (21 - ((F + 1 : Nat) : Int)) ≤ 20 := by omega
    have ih := fun x => ih x (by omega)
    rw [← hF1] at ih
    have eo : okSs (F + 1) l = l.all (okOne (okSs F)) := by unfold okSs; rfl
    have hl2 : ∀ s ∈ l, s.index.length ≤ 1000 ∧ s.value.length ≤ 1000 ∧ lsS F s.thn ∧ lsS F s.els := hl
    generalize (21 - ((F + 1 : Nat) : Int)) = d at hF1 hF2 hF3 ih ⊢
    refine con_intro Tryz.func43 rfl rfl (Nat.le_of_ble_eq_true rfl) (fun c hc => R_ (E_ r_ (T_ (am_ (R_ (M_ r_ (o_ r_ (bz_ r_ r_ (T_ (ap_ r_ w_ (as_ (al_ (am_ (R_ (M_ r_ (o_ r_ (br_ r_ (fun hlen => ?_))))))))))))))))))
    refine M_ r_ (T_ (au_ (jc_loopS (ι := Nat) [] (fun k => k ≤ l.length ∧ (l.take k).all (okOne (okSs F)) = true) (fun k => [(1, In .i64 d), (11, .cell (.list (l.map Sm.row))), (12, In .i64 ((l.map Sm.row).length : Int)), (13, In .i64 (k : Int))]) (fun _ => []) (fun k => l.length - k) 0 ⟨Nat.zero_le _, rfl⟩ ?_ ?_ ?_)))
    · exact sub_end
    · (repeat (first | exact True.intro | refine ⟨rfl, ?_⟩))
    rintro k ⟨hk, hall⟩
    by_cases hlt : k < l.length
    · have hlt2 : (k : Int) < ((l.map Sm.row).length : Int) := by omega
      obtain ⟨q1, q2, q3, q4⟩ := hl2 _ (List.getElem_mem hlt)
      have i1 := ih _ q3
      have i2 := ih _ q4
      have hE := exprs_c _ q1 q2
      have hok := ok_right F l[k]
      refine R_ (o_ r_ (bw_ r_ r_ (T_ (am_ (aq_ r_ u_ (as_ (al_ (B_ (R_ (o_ r_ (cc_ r_ r_ g_ (Sm.row_eq _) r_ b_ (o_ r_ (cr_ r_ r_ r_ (o_ r_ (bl_ r_ r_ (fun bl => S_ 0 r_ (T_ (am_ (R_ ?_)))))))))))))))))))
      refine A_ 0 r_ (o_ r_ (bm_ r_ (right_c _) (o_ r_ (cd_ r_ (M_ r_ (jl_or 6 3 rfl rfl rfl rfl (nb rfl) ?_))))))
      apply Exists.intro
      refine ⟨fun hb1 => ?_, ?_⟩
      exact ah_ r_ h_ b_ (bf_ r_ r_ r_ b_ (ah_ r_ h_ b_ (bg_ 0 r_ r_ r_ r_ (ah_ r_ h_ b_ (bd_ r_ (ah_ r_ h_ b_ (bj_ r_ r_ g_ (ah_ r_ h_ b_ (bm_ r_ (i1) (ah_ r_ h_ b_ (cd_ r_ (ak_ (jq_seg 6 rfl rfl rfl (List.Perm.refl _))))))))))))))
      refine M_ r_ (jl_or 6 11 rfl rfl rfl rfl (nb rfl) ?_)
      apply Exists.intro
      refine ⟨fun hb1 => ?_, ?_⟩
      exact ah_ r_ h_ b_ (bf_ r_ r_ r_ b_ (ah_ r_ h_ b_ (bg_ 0 r_ r_ r_ r_ (ah_ r_ h_ b_ (bd_ r_ (ah_ r_ h_ b_ (bj_ r_ r_ g_ (ah_ r_ h_ b_ (bm_ r_ (i2) (ah_ r_ h_ b_ (cd_ r_ (ak_ (jq_seg 6 rfl rfl rfl (List.Perm.refl _))))))))))))))
      refine T_ ?_
      have hS : ∀ x : T, Con Tryz.prog 36 [.row x.row', In .i64 1] [] (fun K => K (Bl (shpF 20 x)) []) := fun x => shapedB_c 20 x (by omega)
      refine jc_cond rfl (fun hn => ?_) (fun hy => ?_)
      · have hp : okOne (okSs F) l[k] = false := by
          rw [hok]
          cases h1 : rightB l[k] <;> cases h2 : okSs F l[k].thn <;> cases h3 : okSs F l[k].els <;> simp_all
        have hno := all_no hlt hp
        refine R_ (E_ r_ (T_ (ar_ (aw_ (az_ (aw_ (aw_ (az_ (aw_ (jq_ret1 rfl rfl [] rfl (fun K h => by rw [eo, hno] at h; exact h)))))))))))
      · have hy2 : rightB l[k] = true ∧ okSs F l[k].thn = true ∧ okSs F l[k].els = true := by
          cases h1 : rightB l[k] <;> cases h2 : okSs F l[k].thn <;> cases h3 : okSs F l[k].els <;> simp_all
        obtain ⟨y1, y2, y3⟩ := hy2
        rw [y1, y2, y3, Bool.true_and, Bool.true_and, Bool.true_and] at hok
        generalize l[k].index ++ l[k].value = E at hE hok
        have eE : (E.map T.row).length = E.length := List.length_map _
        refine as_ (al_ (R_ (A_ 0 r_ (o_ r_ (bm_ r_ (hE) (o_ r_ (br_ r_ (fun hlen => M_ r_ (T_ (au_ ?_))))))))))
        refine jc_loopS (ι := Nat) [] (fun q => q ≤ E.length ∧ (E.take q).all (shpF 20) = true) (fun q => [(1, In .i64 d), (11, .cell (.list (l.map Sm.row))), (12, In .i64 ((l.map Sm.row).length : Int)), (13, In .i64 (k : Int)), (37, .cell (.list (E.map T.row))), (38, In .i64 ((E.map T.row).length : Int)), (39, In .i64 (q : Int))]) (fun _ => []) (fun q => E.length - q) 0 ⟨Nat.zero_le _, rfl⟩ ?_ ?_ ?_
        · exact sub_end
        · (repeat (first | exact True.intro | refine ⟨rfl, ?_⟩))
        rintro q ⟨hq, hqa⟩
        by_cases hqt : q < E.length
        · have hqt2 : (q : Int) < ((E.map T.row).length : Int) := by omega
          have hSq := hS E[q]
          refine R_ (o_ r_ (bw_ r_ r_ (T_ (am_ (aq_ r_ u_ (as_ (al_ (B_ (R_ (o_ r_ (cc_ r_ r_ g_ (T.row_eq _) r_ b_ (o_ r_ (cr_ r_ r_ r_ (o_ r_ (bl_ r_ r_ (fun bl => S_ 0 r_ (T_ (R_ (A_ 0 r_ ?_)))))))))))))))))))
          refine o_ r_ (bm_ r_ (hSq) (o_ r_ (cd_ r_ (T_ (jc_cond rfl (fun hn => ?_) (fun hy => ?_))))))
          · have hp : E.all (shpF 20) = false := all_no hqt (by simpa using hn)
            have hno := all_no hlt (hok.trans hp)
            refine R_ (E_ r_ (T_ (ar_ (az_ (aw_ (aw_ (az_ (az_ (aw_ (aw_ (az_ (aw_ (jq_ret1 rfl rfl [] rfl (fun K h => by rw [eo, hno] at h; exact h))))))))))))))
          · refine as_ (ay_ (al_ (an_ (o_ r_ (bj_ r_ r_ g_ (M_ r_ (ak_ (jq_againS (q + 1) ⟨hqt, all_snoc hqt hqa (by simpa using hy)⟩ g_ ?_ ?_))))))))
            · exact sub_end
            · (repeat (first | exact True.intro | refine ⟨rfl, ?_⟩))
        · have hqt2 : ¬ (q : Int) < ((E.map T.row).length : Int) := by omega
          rw [List.take_of_length_le (by omega)] at hqa
          refine R_ (o_ r_ (bw_ r_ r_ (T_ (am_ (ap_ r_ w_ (av_ (ax_ (ax_ (ba_ (ay_ (al_ (an_ (o_ r_ (bj_ r_ r_ g_ (M_ r_ (ak_ (jq_againS (k + 1) ⟨hlt, all_snoc hlt hall (hok.trans hqa)⟩ g_ ?_ ?_)))))))))))))))))
          · exact sub_end
          · (repeat (first | exact True.intro | refine ⟨rfl, ?_⟩))
    · have hlt2 : ¬ (k : Int) < ((l.map Sm.row).length : Int) := by omega
      rw [List.take_of_length_le (by omega)] at hall
      refine R_ (o_ r_ (bw_ r_ r_ (T_ (am_ (ap_ r_ w_ (av_ (ax_ (ax_ (ba_ (al_ (R_ (E_ r_ (T_ (ar_ (jq_ret1 rfl rfl [] rfl (fun K h => by rw [eo, hall] at h; exact h))))))))))))))))
end Go.Proofs.YtlniadfidfmckaaGreatDoor
end

section
namespace Go.Vc
open Go.RowKit
set_option maxHeartbeats 1000000

section
variable {P : Program} [Gl P] {nt : Nat} {c : Cx P nt} {env : Env} {H Hr : List Ch} {K : S → List Ch → Prop} {d : Option Tmp} {t t' te ty : TypeId} {pos : String} {af : Array Edge} {g : Option (Nat × Bool)} {x y : Operand}
theorem ow_ptrNil [TI P t] (ht : TI.u P t = .pointer te) (hx : env.ev x = some (.cell (.val (.pointer none)))) (hy : env.ev y = some (.cell (.val (.pointer none)))) (hK : K (Bl true) H) : OpWp c ⟨d, .binOp .eql t x y t', ty, pos, af, g⟩ env H K :=
  ow_valx rfl (fun a w h => by
    have hu : P.underlying t = some (.pointer te) := by rw [TI.hu (P := P) (t := t), ht]
    have h1 : ∀ n : Nat, (Op.equalIn (n + 1) t (.pointer none) (.pointer none)).run P w = .ok true w := fun n => by
      simp [Op.equalIn, run_underlying hu]
    have h2 : (binOp .eql t (.pointer none) (.pointer none)).run P w = .ok (.bool true) w := by
      simp only [binOp]
      simp [Op.equal, Op.maxDepth, h1 9999]
    simp [execOp, ev_val h hx, ev_val h hy, eqGuard, h2]) hK
theorem ow_ptrNotNil [TI P t] (ht : TI.u P t = .pointer te) {p : Addr} (hx : env.ev x = some (.cell (.val (.pointer (some p))))) (hy : env.ev y = some (.cell (.val (.pointer none)))) (hK : K (Bl false) H) : OpWp c ⟨d, .binOp .eql t x y t', ty, pos, af, g⟩ env H K :=
  ow_valx rfl (fun a w h => by
    have hu : P.underlying t = some (.pointer te) := by rw [TI.hu (P := P) (t := t), ht]
    have h1 : ∀ n : Nat, (Op.equalIn (n + 1) t (.pointer (some p)) (.pointer none)).run P w = .ok false w := fun n => by
      simp [Op.equalIn, run_underlying hu]
    have h2 : (binOp .eql t (.pointer (some p)) (.pointer none)).run P w = .ok (.bool false) w := by
      simp only [binOp]
      simp [Op.equal, Op.maxDepth, h1 9999]
    simp [execOp, ev_val h hx, ev_val h hy, eqGuard, h2]) hK
theorem ow_ptrSame [TI P t] [TI P te] (ht : TI.u P t = .pointer te) {p : Addr} (hx : env.ev x = some (.cell (.val (.pointer (some p))))) (hy : env.ev y = some (.cell (.val (.pointer (some p))))) (hK : K (Bl false) H) : OpWp c ⟨d, .binOp .neq t x y t', ty, pos, af, g⟩ env H K :=
  ow_valx rfl (fun a w h => by
    have hu : P.underlying t = some (.pointer te) := by rw [TI.hu (P := P) (t := t), ht]
    have h2 := Lib.run_neq_ptr_same (P := P) w p hu (TI.hi (P := P) (t := te))
    simp [execOp, ev_val h hx, ev_val h hy, eqGuard, h2]) hK
theorem shape_of_blk {w : World} {b : Nat} {cs : List Value} {bt : TypeId} (hh : w.heap[b]? = some (.cells cs.toArray bt (0, 0))) : w.shape? b = some (bt, cs.length) := by
  simp [World.shape?, hh]
theorem ow_toUnsafe {dst : TypeId} [TI P t] [TI P dst] [TI P te] (j : Nat) {b : Nat} {bt : TypeId} {row : List C} (ht : TI.u P t = .pointer te) (hd : TI.u P dst = .unsafePointer) (hz : (TI.i P te).size ≠ 0) (hx : env.ev x = some (.cell (.val (.pointer (some ⟨b, 0, none⟩)))))
    (hp : pick [j] H = some ([.blk b bt row], Hr)) (hr : 0 < row.length) (hK : K (.cell (.val (.pointer (some ⟨b, 0, none⟩)))) H) : OpWp c ⟨d, .convert t dst x, ty, pos, af, g⟩ env H K :=
  ow_valx rfl (fun a w h => by
    obtain ⟨cs, hh, hrd⟩ := blk_ok h hp
    have hu : P.underlying t = some (.pointer te) := by rw [TI.hu (P := P) (t := t), ht]
    have hv : P.underlying dst = some .unsafePointer := by rw [TI.hu (P := P) (t := dst), hd]
    have h2 := Lib.run_to_unsafe (P := P) w ⟨b, 0, none⟩ hu hv (TI.hi (P := P) (t := te)) hz (shape_of_blk hh) (by rw [rdRow_length hrd]; exact hr)
    simp only [execOp, ev_val h hx, Sem.run_bind, h2, Result.andThen_ok, Sem.run_pure]) hK
theorem ow_fromUnsafe {dst u : TypeId} [TI P t] [TI P dst] [TI P u] (j : Nat) {b : Nat} {bt : TypeId} {row : List C} (ht : TI.u P t = .unsafePointer) (hd : TI.u P dst = .pointer u) (hx : env.ev x = some (.cell (.val (.pointer (some ⟨b, 0, none⟩)))))
    (hp : pick [j] H = some ([.blk b bt row], Hr)) (hl : liesAt P P.depth bt (row.length / P.cellsOf bt) 0 u 1 = true) (hK : K (.cell (.val (.pointer (some ⟨b, 0, none⟩)))) H) : OpWp c ⟨d, .convert t dst x, ty, pos, af, g⟩ env H K :=
  ow_valx rfl (fun a w h => by
    obtain ⟨cs, hh, hrd⟩ := blk_ok h hp
    have hu : P.underlying t = some .unsafePointer := by rw [TI.hu (P := P) (t := t), ht]
    have hv : P.underlying dst = some (.pointer u) := by rw [TI.hu (P := P) (t := dst), hd]
    have h2 := Lib.run_from_unsafe (P := P) w ⟨b, 0, none⟩ hu hv (TI.hi (P := P) (t := u)) (shape_of_blk hh) (by rw [rdRow_length hrd]; exact hl)
    simp only [execOp, ev_val h hx, Sem.run_bind, h2, Result.andThen_ok, Sem.run_pure]) hK
/-- A call of an entry that hands its one operand back. -/
theorem ow_noEscape {f : FuncId} {at_ : Array TypeId} {v : Value} (hf : ∀ w, (callFunc f #[v]).run P w = .ok (.value v) w) (h1 : v.oneCell' = true) (hx : env.ev x = some (.cell (.val v))) (hK : K (.cell (.val v)) H) :
    OpWp c ⟨d, .call { callee := .value (.func f), args := #[x], argTypes := at_ }, ty, pos, af, g⟩ env H K :=
  ow_valx h1 (fun a w h => by
    have hz : a.eval (.func f) = .func (.func f) #[] #[] := rfl
    simp only [execOp, resolve, invoke, hz, Deferred.ofValue, Sem.run_bind, Sem.run_pure, Result.andThen_ok, List.map_toArray, List.map_cons, List.map_nil, ev_val h hx]
    simp [hf]) hK
/-- A slice of one's own is nil, or some. -/
theorem jc_ownSome {Q : Exit → Act → World → Prop} {code : Code} (j : Nat) {v : Value} {e : TypeId} {k : Nat} {rows : List (List C)} (hp : pick [j] H = some ([.own v e k rows], Hr)) (h0 : 0 < rows.length)
    (h : ∀ g cap, v = .slice (some ⟨g, 0, none⟩) rows.length cap → rows.length ≤ cap → cap ≤ 9223372036854775807 → JC c code Q env H) : JC c code Q env H := by
  intro a w hs
  have hok := hs.heap.ok (.own v e k rows) ((pick_perm hp).mem_iff.2 (by simp))
  obtain ⟨vs, ⟨_, ho⟩, _, _⟩ := hok
  rcases ho with ⟨_, h1⟩ | ⟨g, cap, cur, hv, _, _, h2, h3, _⟩
  · omega
  · exact h g cap hv h2 (by unfold maxLen at h3; omega) a w hs
theorem rdRows_bytesI {w : World} {A : Nat → Prop} : ∀ {L : List Int} {vs : List Value}, RdRows w A 1 (L.map Brow) vs → vs = L.map (Value.int .u8)
  | [], vs, h => by simpa [RdRows] using h
  | n :: L, vs, h => by
    obtain ⟨cc, r, rfl, _, h2, h3⟩ := h
    obtain ⟨v, r', rfl, h4, h5⟩ := h2
    simp only [RdRow] at h5
    subst h5
    rw [rdRows_bytesI h3]
    obtain ⟨rfl, _⟩ := h4
    rfl
theorem freeze_grow (w : World) (g n : Nat) : Grow [g] w (w.freeze ⟨g, 0, none⟩ n) := by
  unfold World.freeze
  split
  · exact Grow.refl _ _
  · exact ⟨rfl, rfl, rfl, by simp, fun k hk hn => by
      simp only [Array.getElem?_modify]
      rw [if_neg (fun e => hn (by simpa using e.symm))]⟩
theorem bi_unsafeString {ats : Array TypeId} {ty : TypeId} {cs : Array Bool} {args : Array Value} : builtin .unsafeString ats ty cs args = (do pure (.value (← Builtin.unsafeString_ ats ty args))) := rfl
theorem bi_unsafeSliceData {ats : Array TypeId} {ty : TypeId} {cs : Array Bool} {args : Array Value} : builtin .unsafeSliceData ats ty cs args = (do pure (.value (← Builtin.unsafeSliceData_ ats ty args))) := rfl
theorem ow_unsafeString {pt it e : TypeId} [TI P pt] (j : Nat) {gb cap : Nat} {X : ByteArray} {m : Int} (ht : TI.u P pt = .pointer e) (hc : P.cellsOf e = 1) (hx : env.ev x = some (.cell (.val (.pointer (some ⟨gb, 0, none⟩))))) (hy : env.ev y = some (In .i64 m)) (hm : m = X.size)
    (hp : pick [j] H = some ([.own (.slice (some ⟨gb, 0, none⟩) X.size cap) e 1 ((bytesI X).map Brow)], Hr)) (h0 : 0 < X.size) (h63 : X.size ≤ 9223372036854775807) (hK : K (Str X) Hr) :
    OpWp c ⟨d, .call { callee := .builtin .unsafeString, args := #[x, y], argTypes := #[pt, it] }, ty, pos, af, g⟩ env H K := by
  subst hm
  intro a w h next Q hn
  have hperm := pick_perm hp
  have h' : StW c ([.own (.slice (some ⟨gb, 0, none⟩) X.size cap) e 1 ((bytesI X).map Brow)] ++ Hr) w := h.heap.perm hperm
  have hav : c.av ([.own (.slice (some ⟨gb, 0, none⟩) X.size cap) e 1 ((bytesI X).map Brow)] ++ Hr) = c.av H := av_perm c hperm
  obtain ⟨vs, ⟨hl, ho⟩, hr, _⟩ := h'.ok _ (List.mem_append_left _ (List.mem_singleton.2 rfl))
  have hvs := rdRows_bytesI hr
  rcases ho with ⟨hv, _⟩ | ⟨g', cap', cur, hv, _, hh, h2, h3, h4, h5⟩
  · cases hv
  simp only [Value.slice.injEq, Option.some.injEq, Addr.mk.injEq] at hv
  obtain ⟨⟨rfl, _⟩, hv2, rfl⟩ := hv
  have hu : P.underlying pt = some (.pointer e) := by rw [TI.hu (P := P) (t := pt), ht]
  have hX : X.data.toList.length = X.size := by simp
  have hXI : bytesI X = X.data.toList.map (fun b => (b.toNat : Int)) := rfl
  have hlen : (bytesI X).length = X.size := bytesI_len X
  have hrun := Lib.run_unsafeString_row (P := P) w pt it ty e hu hc gb cur.size (by simp [World.shape?, hh]) X.data.toList (by intro h; rw [h] at hX; simp at hX; omega) (by
      rw [hX, h4]; rw [List.length_map, hlen] at h2; omega) (by rw [hX]; omega) (fun i b hb => by
      have hi : i < X.size := by
        have := (List.getElem?_eq_some_iff.1 hb).1
        omega
      have hadd : (⟨gb, 0, none⟩ : Addr).add i = ⟨gb, i, none⟩ := by rw [add_at]; simp
      rw [hadd]
      have h6 : vs[i]? = some (.int .u8 b.toNat) := by rw [hvs, hXI, List.getElem?_map, List.getElem?_map, hb]; rfl
      have h7 := h5
      rw [← h7] at h6
      have h8 : i < (((bytesI X).map Brow).length * 1) := by rw [List.length_map, hlen]; omega
      rw [List.getElem?_take_of_lt h8] at h6
      simp only [World.cell?, hh]
      rw [← Array.getElem?_toList]
      exact h6)
  rw [hX] at hrun
  have hgr : Grow (hb [.own (.slice (some ⟨gb, 0, none⟩) X.size cap) e 1 ((bytesI X).map Brow)]) w (w.freeze ⟨gb, 0, none⟩ X.size) := freeze_grow w gb X.size
  obtain ⟨s1, s2⟩ := StW.step (H1' := []) h' hgr (by simp [hb]) (by simp [hb]) (by simp)
  unfold Oper.wp
  have hex : (execOp a.eval ⟨d, .call { callee := .builtin .unsafeString, args := #[x, y], argTypes := #[pt, it] }, ty, pos, af, g⟩).run P w = .ok (.value (.string X)) (w.freeze ⟨gb, 0, none⟩ X.size) := by
    have hXX : (⟨X.data.toList.toArray⟩ : ByteArray) = X := by simp
    rw [hXX] at hrun
    simp only [execOp, resolve, invoke, bi_unsafeString, Sem.run_bind, Sem.run_pure, Result.andThen_ok, List.map_toArray, List.map_cons, List.map_nil, ev_val h hx, ev_val h hy, hrun]
  rw [hex]
  rw [List.nil_append] at s1 s2
  exact hn _ _ _ _ hK s1 ⟨rfl, rfl⟩ (fun s v hs => s2 s v (by rw [hav]; exact hs))
theorem hok_sliceData {Sw : World → Prop} {st : TypeId} {p : Addr} {n cap : Nat} (hx : env.ev x = some (.cell (.val (.slice (some p) n cap)))) (h0 : 0 < cap) : HOk c Sw env H ⟨d, .call { callee := .builtin .unsafeSliceData, args := #[x], argTypes := #[st] }, ty, pos, af, none⟩ (.cell (.val (.pointer (some p)))) :=
  fun a w h _ => ⟨.pointer (some p), fun w' _ => by
    have hrun := Lib.run_unsafeSliceData_row (P := P) w' #[st] ty p n cap (by omega)
    simp only [execOp, resolve, invoke, bi_unsafeSliceData, Sem.run_bind, Sem.run_pure, Result.andThen_ok, List.map_toArray, List.map_cons, List.map_nil, ev_val h hx, hrun], rfl, rfl⟩
theorem hok_sliceDataNil {Sw : World → Prop} {st : TypeId} {n cap : Nat} (hx : env.ev x = some (.cell (.val (.slice none n cap)))) : HOk c Sw env H ⟨d, .call { callee := .builtin .unsafeSliceData, args := #[x], argTypes := #[st] }, ty, pos, af, none⟩ (.cell (.val (.pointer none))) :=
  fun a w h _ => ⟨.pointer none, fun w' _ => by
    have hrun := Lib.run_unsafeSliceData_nil (P := P) w' #[st] ty n cap
    simp only [execOp, resolve, invoke, bi_unsafeSliceData, Sem.run_bind, Sem.run_pure, Result.andThen_ok, List.map_toArray, List.map_cons, List.map_nil, ev_val h hx, hrun], rfl, rfl⟩
theorem ow_unsafeString0 {pt it : TypeId} {p : Option Addr} (hx : env.ev x = some (.cell (.val (.pointer p)))) (hy : env.ev y = some (In .i64 0)) (hK : K (Str ⟨#[]⟩) H) :
    OpWp c ⟨d, .call { callee := .builtin .unsafeString, args := #[x, y], argTypes := #[pt, it] }, ty, pos, af, g⟩ env H K :=
  ow_valx rfl (fun a w h => by
    have hrun := Lib.run_unsafeString_none (P := P) w pt it ty p
    simp only [execOp, resolve, invoke, bi_unsafeString, Sem.run_bind, Sem.run_pure, Result.andThen_ok, List.map_toArray, List.map_cons, List.map_nil, ev_val h hx, ev_val h hy, hrun]
    rfl) hK
theorem hok_lenV {Sw : World → Prop} [SL P t] {p : Option Addr} {n cap : Nat} (hx : env.ev x = some (.cell (.val (.slice p n cap)))) (_hn : n ≤ 9223372036854775807) : HOk c Sw env H ⟨d, .call { callee := .builtin .len, args := #[x], argTypes := #[t] }, ty, pos, af, none⟩ (In .i64 (n : Int)) :=
  fun a w h _ => ⟨.int .i64 n, fun w' _ => by
    simp [execOp, resolve, invoke, builtin, ev_val h hx, Builtin.len_, run_underlying (SL.hs (P := P) (t := t)), goInt], rfl, rfl⟩
end
end Go.Vc
end

section
namespace Go.Proofs.YtlniadfidfmckaaGreatDoor
open Go.Vc
attribute [local irreducible] JL JC JQ OpWp Con ConN
attribute [local irreducible] byteAt runLen isL isD isName hasW
set_option maxHeartbeats 4000000

end Go.Proofs.YtlniadfidfmckaaGreatDoor
end

section
namespace Go.Proofs.YtlniadfidfmckaaGreatDoor
set_option maxRecDepth 100000
def laysItoa_ren : Go.Shelf.Ren := ⟨fun | 129 => 142 | 171 => 51 | 243 => 81 | 246 => 110 | 283 => 129 | 284 => 130 | 285 => 131 | 286 => 132 | 317 => 141 | 318 => 143 | 319 => 144 | 320 => 145 | 337 => 149 | 338 => 150 | n => n, fun | 0 => 0 | 2 => 2 | 3 => 3 | 4 => 4 | 5 => 5 | 9 => 9 | 20 => 20 | 37 => 73 | 46 => 104 | 51 => 162 | 53 => 165 | 171 => 178 | 173 => 181 | 212 => 186 | 213 => 187 | 232 => 191 | 233 => 192 | n => n, fun | 17 => 4 | 18 => 6 | 19 => 7 | n => n⟩
theorem laysItoa : Go.Proofs.LaysM.n171 Tryz.prog laysItoa_ren := {
  mixed := by kernel_rfl,
  f129 := Tryz.func142.trans (congrArg some (by kernel_rfl)),
  f171 := Tryz.func51.trans (congrArg some (by kernel_rfl)),
  f243 := Tryz.func81.trans (congrArg some (by kernel_rfl)),
  f246 := Tryz.func110.trans (congrArg some (by kernel_rfl)),
  f283 := Tryz.func129.trans (congrArg some (by kernel_rfl)),
  f284 := Tryz.func130.trans (congrArg some (by kernel_rfl)),
  f285 := Tryz.func131.trans (congrArg some (by kernel_rfl)),
  f286 := Tryz.func132.trans (congrArg some (by kernel_rfl)),
  f317 := Tryz.func141.trans (congrArg some (by kernel_rfl)),
  f318 := Tryz.func143.trans (congrArg some (by kernel_rfl)),
  f319 := Tryz.func144.trans (congrArg some (by kernel_rfl)),
  f320 := Tryz.func145.trans (congrArg some (by kernel_rfl)),
  f337 := Tryz.func149.trans (congrArg some (by kernel_rfl)),
  f338 := Tryz.func150.trans (congrArg some (by kernel_rfl)),
  t0 := Tryz.underlying0,
  a0 := Tryz.isAgg0,
  z0 := Tryz.sizeOf0,
  v0 := Tryz.zeroValue0,
  t2 := Tryz.underlying2,
  a2 := Tryz.isAgg2,
  z2 := Tryz.sizeOf2,
  v2 := Tryz.zeroValue2,
  t3 := Tryz.underlying3,
  a3 := Tryz.isAgg3,
  z3 := Tryz.sizeOf3,
  v3 := Tryz.zeroValue3,
  t4 := Tryz.underlying4,
  a4 := Tryz.isAgg4,
  z4 := Tryz.sizeOf4,
  v4 := Tryz.zeroValue4,
  t5 := Tryz.underlying5,
  a5 := Tryz.isAgg5,
  z5 := Tryz.sizeOf5,
  v5 := Tryz.zeroValue5,
  t9 := Tryz.underlying9,
  a9 := Tryz.isAgg9,
  z9 := Tryz.sizeOf9,
  v9 := Tryz.zeroValue9,
  t20 := Tryz.underlying20,
  a20 := Tryz.isAgg20,
  z20 := Tryz.sizeOf20,
  v20 := Tryz.zeroValue20,
  t37 := Tryz.underlying73,
  a37 := Tryz.isAgg73,
  z37 := Tryz.sizeOf73,
  v37 := Tryz.zeroValue73,
  t46 := Tryz.underlying104,
  a46 := Tryz.isAgg104,
  z46 := Tryz.sizeOf104,
  v46 := Tryz.zeroValue104,
  t51 := Tryz.underlying162,
  a51 := Tryz.isAgg162,
  z51 := Tryz.sizeOf162,
  v51 := Tryz.zeroValue162,
  t53 := Tryz.underlying165,
  a53 := Tryz.isAgg165,
  z53 := Tryz.sizeOf165,
  v53 := Tryz.zeroValue165,
  t171 := Tryz.underlying178,
  a171 := Tryz.isAgg178,
  z171 := Tryz.sizeOf178,
  v171 := Tryz.zeroValue178,
  t173 := Tryz.underlying181,
  a173 := Tryz.isAgg181,
  z173 := Tryz.sizeOf181,
  v173 := Tryz.zeroValue181,
  t212 := Tryz.underlying186,
  a212 := Tryz.isAgg186,
  z212 := Tryz.sizeOf186,
  v212 := Tryz.zeroValue186,
  t213 := Tryz.underlying187,
  a213 := Tryz.isAgg187,
  z213 := Tryz.sizeOf187,
  t232 := Tryz.underlying191,
  a232 := Tryz.isAgg191,
  z232 := Tryz.sizeOf191,
  v232 := Tryz.zeroValue191,
  t233 := Tryz.underlying192,
  a233 := Tryz.isAgg192,
  z233 := Tryz.sizeOf192,
  v233 := Tryz.zeroValue192,
  g17 := by kernel_rfl,
  g18 := by kernel_rfl,
  g19 := by kernel_rfl,
  i0 := by kernel_rfl,
  i2 := by kernel_rfl,
  i3 := by kernel_rfl,
  i4 := by kernel_rfl,
  i5 := by kernel_rfl,
  i9 := by kernel_rfl,
  i20 := by kernel_rfl,
  i37 := by kernel_rfl,
  i46 := by kernel_rfl,
  i51 := by kernel_rfl,
  i53 := by kernel_rfl,
  i171 := by kernel_rfl,
  i173 := by kernel_rfl,
  i212 := by kernel_rfl,
  i232 := by kernel_rfl,
  i233 := by kernel_rfl,
  m17 := by kernel_rfl,
  m18 := by kernel_rfl,
  m19 := by kernel_rfl }
end Go.Proofs.YtlniadfidfmckaaGreatDoor
end

section
namespace Go.Proofs.YtlniadfidfmckaaGreatDoor
open Go.Vc
attribute [local irreducible] JL JC JQ OpWp
attribute [local irreducible] byteAt runLen isL isD isName hasW
set_option maxHeartbeats 4000000

def numS (n : Int) : ByteArray := ⟨(Lib.itoa n).toArray⟩
theorem itoa_c (n : Int) (h0 : -2147483647 ≤ n) (h1 : n ≤ 2147483647) : Con Tryz.prog 51 [In .i64 n] [] (fun K => K (Str (numS n)) []) := by
  rintro vs w A _ _ _ ⟨v, r, rfl, ⟨rfl, _⟩, hr⟩ _ ⟨⟨g, hg1, hg2, htab⟩, _, _⟩
  simp only [SOks] at hr
  subst hr
  refine (Any.strconv_Itoa laysItoa n g_ g_ w htab).mono ?_
  rintro e w' ⟨rfl, k, os, rfl⟩
  refine ⟨_, _, [], rfl, fun K h => h, ⟨?_, rfl⟩, by simp, by simp [hb], by simp [hb], ⟨rfl, rfl, rfl, ?_, ?_⟩⟩
  · unfold numS
    rfl
  · simp [Sort.grow]
  · intro j hj _
    show (w.heap ++ os)[j]? = _
    rw [Array.getElem?_append_left hj]
attribute [local irreducible] Con ConN
theorem numS_size (n : Int) (h0 : -2147483647 ≤ n) (h1 : n ≤ 2147483647) : (numS n).size ≤ 21 := by
  have := Lib.itoa_length_le n (by omega) (by omega)
  unfold numS
  simpa [ByteArray.size] using this
theorem numS_nonneg (n : Int) (h : 0 ≤ n) : numS n = decS n.toNat := by
  obtain ⟨u, rfl⟩ : ∃ u : Nat, n = u := ⟨n.toNat, by omega⟩
  unfold numS decS
  rw [Lib.itoa_nonneg, Int.toNat_natCast]
theorem numS_neg (n : Int) (h : n < 0) : numS n = ⟨#[45]⟩ ++ decS (-n).toNat := by
  obtain ⟨u, rfl⟩ : ∃ u : Nat, n = -(u : Int) := ⟨(-n).toNat, by omega⟩
  unfold numS decS
  rw [Lib.itoa_neg u (by omega), show (- -(u : Int)).toNat = u by omega]
  apply ByteArray.ext
  rw [ByteArray.data_append]
  simp
theorem refNumber_c (n : Int) (h : -2147483647 ≤ n ∧ n ≤ 2147483647) : Con Tryz.prog 28 [In .i64 n] [] (fun K => K (Str (numS n)) []) := by
  refine con_intro Tryz.func28 rfl rfl (Nat.le_of_ble_eq_true rfl) (fun c hc => R_ (E_ r_ (T_ (am_ (R_ (M_ r_ (o_ r_ (bw_ r_ r_ (T_ (jc_condd rfl (fun hn => ?_) (fun hn => ?_)))))))))))
  · have hD := Decimal_c (-n).toNat (by omega)
    rw [show (((-n).toNat : Nat) : Int) = -n by omega] at hD
    have h45 : (⟨#[45]⟩ : ByteArray).size = 1 := rfl
    have hz := decS_le (-n).toNat (by omega)
    refine R_ (M_ r_ (o_ r_ (cy_ r_ g_ (o_ r_ (bm_ r_ (hD) (o_ r_ (ow_strcat r_ r_ g_ (E_ r_ (T_ (ar_ (aw_ (jq_ret1 rfl rfl [] rfl (fun K h => by rw [numS_neg n hn] at h; exact h)))))))))))))
  · have hD := Decimal_c n.toNat (by omega)
    rw [show ((n.toNat : Nat) : Int) = n by omega] at hD
    refine as_ (al_ (R_ (M_ r_ (o_ r_ (bm_ r_ (hD) (E_ r_ (T_ (ar_ (jq_ret1 rfl rfl [] rfl (fun K h => by rw [numS_nonneg n g_] at h; exact h))))))))))
def textT : T → ByteArray
  | .nu n => if n < 0 then (⟨#[40]⟩ ++ numS n) ++ ⟨#[41]⟩ else numS n
  | .nm s => s
  | .ix s t => ((s ++ ⟨#[91]⟩) ++ textT t) ++ ⟨#[93]⟩
  | .bn o a b => (((((⟨#[40]⟩ ++ textT a) ++ ⟨#[32]⟩) ++ signT o) ++ ⟨#[32]⟩) ++ textT b) ++ ⟨#[41]⟩
theorem one_size (c : UInt8) : (⟨#[c]⟩ : ByteArray).size = 1 := rfl
theorem sign_size {o : Int} (h : 1 ≤ o ∧ o ≤ 14) : (signT o).size ≤ 2 := by
  rcases op14 h with rfl | rfl | rfl | rfl | rfl | rfl | rfl | rfl | rfl | rfl | rfl | rfl | rfl | rfl <;> decide
theorem expr_c : ∀ (t : T), t.ok → (textT t).size ≤ 1000000000 → Con Tryz.prog 37 [.row t.row'] [] (fun K => K (Str (textT t)) []) := by
  intro t
  induction t with
  | nu n =>
    intro hok hz
    have hI := itoa_c n hok.1 hok.2
    have hz := numS_size n hok.1 hok.2
    have h40 := one_size 40
    have h41 := one_size 41
    have h2 : (⟨#[40]⟩ ++ numS n).size ≤ 30 := by rw [ByteArray.size_append]; omega
    show Con _ _ [.row [.val (.int .i64 1), .val (.int .i64 n), .val (.string ⟨#[]⟩), .val (.int .i64 0), .list (([] : List T).map T.row)]] [] _
    refine con_intro Tryz.func37 rfl rfl (Nat.le_of_ble_eq_true rfl) (fun c hc => R_ (o_ r_ (ci_ r_ (fun bx => E_ r_ (T_ (am_ (R_ (F_ r_ (L_ 0 r_ (T_ (au_ (R_ (o_ r_ (bn_ r_ r_ (E_ r_ (T_ (jc_condd rfl (fun _ => ?_) (fun h => absurd rfl h))))))))))))))))))
    refine am_ (R_ (F_ r_ (L_ 0 r_ (o_ r_ (bw_ r_ r_ (T_ (jc_condd rfl (fun hn => ?_) (fun hn => ?_))))))))
    · have e : textT (.nu n) = (⟨#[40]⟩ ++ numS n) ++ ⟨#[41]⟩ := by unfold textT; rw [if_pos hn]
      refine R_ (F_ r_ (L_ 0 r_ (o_ r_ (bm_ r_ (hI) (o_ r_ (ow_strcat r_ r_ g_ (o_ r_ (ow_strcat r_ r_ g_ (E_ r_ (T_ (ar_ (aw_ (az_ (aw_ (jq_ret1 rfl rfl [] rfl (fun K h => by rw [e] at h; exact h))))))))))))))))
    · have e : textT (.nu n) = numS n := by unfold textT; rw [if_neg hn]
      refine as_ (al_ (R_ (F_ r_ (L_ 0 r_ (o_ r_ (bm_ r_ (hI) (E_ r_ (T_ (ar_ (az_ (aw_ (jq_ret1 rfl rfl [] rfl (fun K h => by rw [e] at h; exact h)))))))))))))
  | nm s =>
    intro hok hz
    show Con _ _ [.row [.val (.int .i64 2), .val (.int .i64 0), .val (.string s), .val (.int .i64 0), .list (([] : List T).map T.row)]] [] _
    refine con_intro Tryz.func37 rfl rfl (Nat.le_of_ble_eq_true rfl) (fun c hc => R_ (o_ r_ (ci_ r_ (fun bx => E_ r_ (T_ (am_ (R_ (F_ r_ (L_ 0 r_ (T_ (au_ (R_ (o_ r_ (bn_ r_ r_ (E_ r_ (T_ (jc_condd rfl (fun h => by cases h) (fun _ => ?_))))))))))))))))))
    refine R_ (o_ r_ (bn_ r_ r_ (E_ r_ (T_ (jc_condd rfl (fun _ => R_ (F_ r_ (L_ 0 r_ (E_ r_ (T_ (ar_ (az_ (aw_ (jq_ret1 rfl rfl [] rfl (fun K h => h)))))))))) (fun h => absurd rfl h))))))
  | ix s t ih =>
    intro hok hz
    have e : textT (.ix s t) = ((s ++ ⟨#[91]⟩) ++ textT t) ++ ⟨#[93]⟩ := by rw [textT]
    rw [e] at hz
    have h91 := one_size 91
    have h93 := one_size 93
    have hz1 := hz
    rw [ByteArray.size_append] at hz1
    have hz2 := hz1
    rw [ByteArray.size_append] at hz2
    have hz3 := hz2
    rw [ByteArray.size_append] at hz3
    have hI := ih hok.2 (by omega)
    have e1 : [t].length = 1 := rfl
    show Con _ _ [.row [.val (.int .i64 3), .val (.int .i64 0), .val (.string s), .val (.int .i64 0), .list ([t].map T.row)]] [] _
    refine con_intro Tryz.func37 rfl rfl (Nat.le_of_ble_eq_true rfl) (fun c hc => R_ (o_ r_ (ci_ r_ (fun bx => E_ r_ (T_ (am_ (R_ (F_ r_ (L_ 0 r_ (T_ (au_ (R_ (o_ r_ (bn_ r_ r_ (E_ r_ (T_ (jc_condd rfl (fun h => by cases h) (fun _ => ?_))))))))))))))))))
    refine R_ (o_ r_ (bn_ r_ r_ (E_ r_ (T_ (jc_condd rfl (fun h => by cases h) (fun _ => R_ (o_ r_ (bn_ r_ r_ (E_ r_ (T_ (jc_condd rfl (fun _ => am_ (ao_ r_ r_ k_ k_ (yF_ r_ (yL_ 0 r_ (aa_ (fun c => ow_strcat r_ r_ g_ p_) (yF_ r_ ?_)))))) (fun h => absurd rfl h))))))))))))
    refine yL_ 0 r_ (aa_ (fun c => cv_ r_ r_ g_ g_ (T.row_eq _) r_ b_ p_) (aa_ (fun c => cr_ r_ r_ r_ p_) (aa_ (fun c => bm_ r_ (hI) p_) (aa_ (fun c => ow_strcat r_ r_ g_ p_) (aa_ (fun c => ow_strcat r_ r_ g_ p_) (yE_ r_ (ae_ (al_ (ar_ (az_ (aw_ (jq_ret1 rfl rfl [] rfl (fun K h => by rw [e] at h; exact h)))))))))))))
  | bn o a b iha ihb =>
    intro hok hz
    have e : textT (.bn o a b) = (((((⟨#[40]⟩ ++ textT a) ++ ⟨#[32]⟩) ++ signT o) ++ ⟨#[32]⟩) ++ textT b) ++ ⟨#[41]⟩ := by rw [textT]
    rw [e] at hz
    have h40 := one_size 40
    have h32 := one_size 32
    have h41 := one_size 41
    have hz1 := hz
    rw [ByteArray.size_append] at hz1
    have hz2 := hz1
    rw [ByteArray.size_append] at hz2
    have hz3 := hz2
    rw [ByteArray.size_append] at hz3
    have hz4 := hz3
    rw [ByteArray.size_append] at hz4
    have hz5 := hz4
    rw [ByteArray.size_append] at hz5
    have hz6 := hz5
    rw [ByteArray.size_append] at hz6
    have hS := Sign_c o hok.1
    have hA := iha hok.2.1 (by omega)
    have hB := ihb hok.2.2 (by omega)
    have e1 : [a, b].length = 2 := rfl
    show Con _ _ [.row [.val (.int .i64 4), .val (.int .i64 0), .val (.string ⟨#[]⟩), .val (.int .i64 o), .list ([a, b].map T.row)]] [] _
    refine con_intro Tryz.func37 rfl rfl (Nat.le_of_ble_eq_true rfl) (fun c hc => R_ (o_ r_ (ci_ r_ (fun bx => E_ r_ (T_ (am_ (R_ (F_ r_ (L_ 0 r_ (T_ (au_ (R_ (o_ r_ (bn_ r_ r_ (E_ r_ (T_ (jc_condd rfl (fun h => by cases h) (fun _ => ?_))))))))))))))))))
    refine R_ (o_ r_ (bn_ r_ r_ (E_ r_ (T_ (jc_condd rfl (fun h => by cases h) (fun _ => R_ (o_ r_ (bn_ r_ r_ (E_ r_ (T_ (jc_condd rfl (fun h => by cases h) (fun _ => as_ (ay_ (al_ (am_ (ao_ r_ r_ k_ k_ (yF_ r_ ?_)))))))))))))))))
    refine yL_ 0 r_ (aa_ (fun c => cv_ r_ r_ g_ g_ (T.row_eq _) r_ b_ p_) (aa_ (fun c => cr_ r_ r_ r_ p_) (aa_ (fun c => bm_ r_ (hA) p_) (aa_ (fun c => ow_strcat r_ r_ g_ p_) (aa_ (fun c => ow_strcat r_ r_ g_ p_) (yF_ r_ (yL_ 0 r_ (aa_ (fun c => bm_ r_ (hS) p_) (aa_ (fun c => ow_strcat r_ r_ g_ p_) (aa_ (fun c => ow_strcat r_ r_ g_ p_) (yF_ r_ (yL_ 0 r_ (aa_ (fun c => cv_ r_ r_ g_ g_ (T.row_eq _) r_ b_ p_) ?_)))))))))))))
    refine aa_ (fun c => cr_ r_ r_ r_ p_) (aa_ (fun c => bm_ r_ (hB) p_) (aa_ (fun c => ow_strcat r_ r_ g_ p_) (aa_ (fun c => ow_strcat r_ r_ g_ p_) (yE_ r_ (ae_ (al_ (ar_ (jq_ret1 rfl rfl [] rfl (fun K h => by rw [e] at h; exact h)))))))))
end Go.Proofs.YtlniadfidfmckaaGreatDoor
end

section
namespace Go.Proofs.YtlniadfidfmckaaGreatDoor
open Go.Vc
attribute [local irreducible] JL JC JQ OpWp Con ConN
attribute [local irreducible] byteAt runLen isL isD isName hasW
set_option maxHeartbeats 4000000

theorem rtext_c : ∀ (t : T), t.ok → (textT t).size ≤ 1000000000 → Con Tryz.prog 58 [.row t.row'] [] (fun K => K (Str (textT t)) []) := by
  intro t
  induction t with
  | nu n =>
    intro hok hz
    have hI := refNumber_c n hok
    have hz := numS_size n hok.1 hok.2
    have h40 := one_size 40
    have h41 := one_size 41
    have h2 : (⟨#[40]⟩ ++ numS n).size ≤ 30 := by rw [ByteArray.size_append]; omega
    show Con _ _ [.row [.val (.int .i64 1), .val (.int .i64 n), .val (.string ⟨#[]⟩), .val (.int .i64 0), .list (([] : List T).map T.row)]] [] _
    refine con_intro Tryz.func58 rfl rfl (Nat.le_of_ble_eq_true rfl) (fun c hc => R_ (o_ r_ (ci_ r_ (fun bx => E_ r_ (T_ (am_ (R_ (F_ r_ (L_ 0 r_ (T_ (au_ (R_ (o_ r_ (bn_ r_ r_ (E_ r_ (T_ (jc_condd rfl (fun _ => ?_) (fun h => absurd rfl h))))))))))))))))))
    refine am_ (R_ (F_ r_ (L_ 0 r_ (o_ r_ (bw_ r_ r_ (T_ (jc_condd rfl (fun hn => ?_) (fun hn => ?_))))))))
    · have e : textT (.nu n) = (⟨#[40]⟩ ++ numS n) ++ ⟨#[41]⟩ := by unfold textT; rw [if_pos hn]
      refine R_ (F_ r_ (L_ 0 r_ (o_ r_ (bm_ r_ (hI) (o_ r_ (ow_strcat r_ r_ g_ (o_ r_ (ow_strcat r_ r_ g_ (E_ r_ (T_ (ar_ (aw_ (az_ (aw_ (jq_ret1 rfl rfl [] rfl (fun K h => by rw [e] at h; exact h))))))))))))))))
    · have e : textT (.nu n) = numS n := by unfold textT; rw [if_neg hn]
      refine as_ (al_ (R_ (F_ r_ (L_ 0 r_ (o_ r_ (bm_ r_ (hI) (E_ r_ (T_ (ar_ (az_ (aw_ (jq_ret1 rfl rfl [] rfl (fun K h => by rw [e] at h; exact h)))))))))))))
  | nm s =>
    intro hok hz
    show Con _ _ [.row [.val (.int .i64 2), .val (.int .i64 0), .val (.string s), .val (.int .i64 0), .list (([] : List T).map T.row)]] [] _
    refine con_intro Tryz.func58 rfl rfl (Nat.le_of_ble_eq_true rfl) (fun c hc => R_ (o_ r_ (ci_ r_ (fun bx => E_ r_ (T_ (am_ (R_ (F_ r_ (L_ 0 r_ (T_ (au_ (R_ (o_ r_ (bn_ r_ r_ (E_ r_ (T_ (jc_condd rfl (fun h => by cases h) (fun _ => ?_))))))))))))))))))
    refine R_ (o_ r_ (bn_ r_ r_ (E_ r_ (T_ (jc_condd rfl (fun _ => R_ (F_ r_ (L_ 0 r_ (E_ r_ (T_ (ar_ (az_ (aw_ (jq_ret1 rfl rfl [] rfl (fun K h => h)))))))))) (fun h => absurd rfl h))))))
  | ix s t ih =>
    intro hok hz
    have e : textT (.ix s t) = ((s ++ ⟨#[91]⟩) ++ textT t) ++ ⟨#[93]⟩ := by rw [textT]
    rw [e] at hz
    have h91 := one_size 91
    have h93 := one_size 93
    have hz1 := hz
    rw [ByteArray.size_append] at hz1
    have hz2 := hz1
    rw [ByteArray.size_append] at hz2
    have hz3 := hz2
    rw [ByteArray.size_append] at hz3
    have hI := ih hok.2 (by omega)
    have e1 : [t].length = 1 := rfl
    show Con _ _ [.row [.val (.int .i64 3), .val (.int .i64 0), .val (.string s), .val (.int .i64 0), .list ([t].map T.row)]] [] _
    refine con_intro Tryz.func58 rfl rfl (Nat.le_of_ble_eq_true rfl) (fun c hc => R_ (o_ r_ (ci_ r_ (fun bx => E_ r_ (T_ (am_ (R_ (F_ r_ (L_ 0 r_ (T_ (au_ (R_ (o_ r_ (bn_ r_ r_ (E_ r_ (T_ (jc_condd rfl (fun h => by cases h) (fun _ => ?_))))))))))))))))))
    refine R_ (o_ r_ (bn_ r_ r_ (E_ r_ (T_ (jc_condd rfl (fun h => by cases h) (fun _ => R_ (o_ r_ (bn_ r_ r_ (E_ r_ (T_ (jc_condd rfl (fun _ => am_ (ao_ r_ r_ k_ k_ (yF_ r_ (yL_ 0 r_ (aa_ (fun c => ow_strcat r_ r_ g_ p_) (yF_ r_ ?_)))))) (fun h => absurd rfl h))))))))))))
    refine yL_ 0 r_ (aa_ (fun c => cv_ r_ r_ g_ g_ (T.row_eq _) r_ b_ p_) (aa_ (fun c => cr_ r_ r_ r_ p_) (aa_ (fun c => bm_ r_ (hI) p_) (aa_ (fun c => ow_strcat r_ r_ g_ p_) (aa_ (fun c => ow_strcat r_ r_ g_ p_) (yE_ r_ (ae_ (al_ (ar_ (az_ (aw_ (jq_ret1 rfl rfl [] rfl (fun K h => by rw [e] at h; exact h)))))))))))))
  | bn o a b iha ihb =>
    intro hok hz
    have e : textT (.bn o a b) = (((((⟨#[40]⟩ ++ textT a) ++ ⟨#[32]⟩) ++ signT o) ++ ⟨#[32]⟩) ++ textT b) ++ ⟨#[41]⟩ := by rw [textT]
    rw [e] at hz
    have h40 := one_size 40
    have h32 := one_size 32
    have h41 := one_size 41
    have hz1 := hz
    rw [ByteArray.size_append] at hz1
    have hz2 := hz1
    rw [ByteArray.size_append] at hz2
    have hz3 := hz2
    rw [ByteArray.size_append] at hz3
    have hz4 := hz3
    rw [ByteArray.size_append] at hz4
    have hz5 := hz4
    rw [ByteArray.size_append] at hz5
    have hz6 := hz5
    rw [ByteArray.size_append] at hz6
    have hS := RSign_c o hok.1
    have hA := iha hok.2.1 (by omega)
    have hB := ihb hok.2.2 (by omega)
    have e1 : [a, b].length = 2 := rfl
    show Con _ _ [.row [.val (.int .i64 4), .val (.int .i64 0), .val (.string ⟨#[]⟩), .val (.int .i64 o), .list ([a, b].map T.row)]] [] _
    refine con_intro Tryz.func58 rfl rfl (Nat.le_of_ble_eq_true rfl) (fun c hc => R_ (o_ r_ (ci_ r_ (fun bx => E_ r_ (T_ (am_ (R_ (F_ r_ (L_ 0 r_ (T_ (au_ (R_ (o_ r_ (bn_ r_ r_ (E_ r_ (T_ (jc_condd rfl (fun h => by cases h) (fun _ => ?_))))))))))))))))))
    refine R_ (o_ r_ (bn_ r_ r_ (E_ r_ (T_ (jc_condd rfl (fun h => by cases h) (fun _ => R_ (o_ r_ (bn_ r_ r_ (E_ r_ (T_ (jc_condd rfl (fun h => by cases h) (fun _ => as_ (ay_ (al_ (am_ (ao_ r_ r_ k_ k_ (yF_ r_ ?_)))))))))))))))))
    refine yL_ 0 r_ (aa_ (fun c => cv_ r_ r_ g_ g_ (T.row_eq _) r_ b_ p_) (aa_ (fun c => cr_ r_ r_ r_ p_) (aa_ (fun c => bm_ r_ (hA) p_) (aa_ (fun c => ow_strcat r_ r_ g_ p_) (aa_ (fun c => ow_strcat r_ r_ g_ p_) (yF_ r_ (yL_ 0 r_ (aa_ (fun c => bm_ r_ (hS) p_) (aa_ (fun c => ow_strcat r_ r_ g_ p_) (aa_ (fun c => ow_strcat r_ r_ g_ p_) (yF_ r_ (yL_ 0 r_ (aa_ (fun c => cv_ r_ r_ g_ g_ (T.row_eq _) r_ b_ p_) ?_)))))))))))))
    refine aa_ (fun c => cr_ r_ r_ r_ p_) (aa_ (fun c => bm_ r_ (hB) p_) (aa_ (fun c => ow_strcat r_ r_ g_ p_) (aa_ (fun c => ow_strcat r_ r_ g_ p_) (yE_ r_ (ae_ (al_ (ar_ (jq_ret1 rfl rfl [] rfl (fun K h => by rw [e] at h; exact h)))))))))

theorem name_size {s : ByteArray} (h : nmOk s) : s.size ≤ 12 := by
  have := h.1
  unfold isName at this
  simp only [Bool.and_eq_true, decide_eq_true_eq] at this
  exact this.1.2
theorem text_size : ∀ (t : T), t.ok → (textT t).size + 50 ≤ 100 * 2 ^ t.dep
  | .nu n, h => by
    have := numS_size n h.1 h.2
    have h40 := one_size 40
    have h41 := one_size 41
    unfold textT
    simp only [T.dep]
    split
    · rw [ByteArray.size_append, ByteArray.size_append]; omega
    · omega
  | .nm s, h => by
    have := name_size h
    simp only [textT, T.dep]
    omega
  | .ix s t, h => by
    have := name_size h.1
    have := text_size t h.2
    have h91 := one_size 91
    have h93 := one_size 93
    simp only [textT, T.dep, ByteArray.size_append, Nat.pow_succ]
    omega
  | .bn o a b, h => by
    have h1 := text_size a h.2.1
    have h2 := text_size b h.2.2
    have h3 := sign_size h.1
    have h40 := one_size 40
    have h32 := one_size 32
    have h41 := one_size 41
    have e1 : 2 ^ a.dep ≤ 2 ^ max a.dep b.dep := Nat.pow_le_pow_right (by decide) (by omega)
    have e2 : 2 ^ b.dep ≤ 2 ^ max a.dep b.dep := Nat.pow_le_pow_right (by decide) (by omega)
    simp only [textT, T.dep, ByteArray.size_append, Nat.pow_succ]
    omega
theorem text_small {t : T} (h : t.ok) (hd : t.dep ≤ 8) : (textT t).size ≤ 1000000000 := by
  have h1 := text_size t h
  have h2 : 2 ^ t.dep ≤ 2 ^ 8 := Nat.pow_le_pow_right (by decide) hd
  omega
def exprF (t : T) : ByteArray × Int := if 8 < t.dep then (⟨#[]⟩, 4) else (textT t, 0)
theorem pExpr_c (t : T) (h : t.ok) : Con Tryz.prog 17 [.row t.row'] [] (fun K => K (.tup [Str (exprF t).1, In .i64 (exprF t).2]) []) := by
  have hD := Depth_c 8 t (by omega)
  have hS := shaped_c 20 t (by omega) h
  rw [dl_eq] at hD
  rw [show (21 - ((20 : Nat) : Int)) = 1 by omega] at hS
  refine con_intro Tryz.func17 rfl rfl (Nat.le_of_ble_eq_true rfl) (fun c hc => R_ (o_ r_ (ci_ r_ (fun bx => E_ r_ (E_ r_ (T_ (B_ (R_ (A_ 0 r_ (o_ r_ (bm_ r_ (hD) (o_ r_ (bz_ r_ r_ (E_ r_ (T_ (jc_condd rfl (fun hd => ?_) (fun hd => ?_)))))))))))))))))
  · have e : exprF t = (⟨#[]⟩, 4) := by unfold exprF; rw [if_pos (by omega)]
    refine R_ (E_ r_ (E_ r_ (T_ (ar_ (az_ (aw_ (jq_ret2 rfl rfl rfl [] rfl (fun K h => by rw [e] at h; exact h))))))))
  · have hd8 : t.dep ≤ 8 := by omega
    have e : exprF t = (textT t, 0) := by unfold exprF; rw [if_neg (by omega)]
    have hT := expr_c t h (text_small h hd8)
    refine R_ (A_ 0 r_ (o_ r_ (bm_ r_ (hS) (o_ r_ (cd_ r_ (E_ r_ (T_ (jc_cond rfl (fun h => by cases h) (fun _ => as_ (ay_ (al_ (R_ (A_ 0 r_ (o_ r_ (bm_ r_ (hT) (E_ r_ (E_ r_ (T_ ?_))))))))))))))))))
    refine ar_ (jq_ret2 rfl rfl rfl [] rfl (fun K h => by rw [e] at h; exact h))
theorem mName_c (s : ByteArray) : Con Tryz.prog 12 [Str s] [] (fun K => K (.row (T.nm s).row') []) := by
  refine con_intro Tryz.func12 rfl rfl (Nat.le_of_ble_eq_true rfl) (fun c hc => R_ (o_ r_ (bl_ r_ r_ (fun bl => T_ (R_ (M_ r_ (o_ r_ (bu_ r_ r_ r_ r_ r_ (S_ 0 r_ (T_ (ar_ (jq_row 0 (T.nm s).row' rfl ?_ ?_))))))))))))
  · (repeat (first | exact RowLe.nil | refine RowLe.cons (CLe.refl _) ?_ | refine RowLe.cons CLe.nil ?_))
  · refine jq_retRow rfl rfl rfl rfl 0 rfl [] rfl (fun K h => h)
theorem mNum_c (n : Int) : Con Tryz.prog 10 [In .i64 n] [] (fun K => K (.row (T.nu n).row') []) := by
  refine con_intro Tryz.func10 rfl rfl (Nat.le_of_ble_eq_true rfl) (fun c hc => R_ (o_ r_ (bl_ r_ r_ (fun bl => T_ (R_ (M_ r_ (o_ r_ (bu_ r_ r_ r_ r_ r_ (S_ 0 r_ (T_ (ar_ (jq_row 0 (T.nu n).row' rfl ?_ ?_))))))))))))
  · (repeat (first | exact RowLe.nil | refine RowLe.cons (CLe.refl _) ?_ | refine RowLe.cons CLe.nil ?_))
  · refine jq_retRow rfl rfl rfl rfl 0 rfl [] rfl (fun K h => h)
theorem mBin_c (o : Int) (a b : T) : Con Tryz.prog 11 [In .i64 o, .row a.row', .row b.row'] [] (fun K => K (.row (T.bn o a b).row') []) := by
  refine con_intro Tryz.func11 rfl rfl (Nat.le_of_ble_eq_true rfl) (fun c hc => R_ (o_ r_ (ci_ r_ (fun bx => o_ r_ (ci_ r_ (fun bx => o_ r_ (bl_ r_ r_ (fun bl => T_ (R_ (M_ r_ (A_ 2 r_ (A_ 1 r_ (o_ r_ (bq_ r_ r_ b_ r_ r_ b_ (o_ r_ (bu_ r_ r_ r_ r_ r_ (S_ 0 r_ (T_ (ar_ (jq_row 0 (T.bn o a b).row' rfl ?_ ?_))))))))))))))))))))
  · (repeat (first | exact RowLe.nil | refine RowLe.cons (CLe.refl _) ?_ | refine RowLe.cons CLe.nil ?_))
    exact RowLe.cons (CLe.eq (by simp [T.row_eq, T.args])) .nil
  · refine jq_retRow rfl rfl rfl rfl 0 rfl [] rfl (fun K h => h)
end Go.Proofs.YtlniadfidfmckaaGreatDoor
end

section
namespace Go.Proofs.YtlniadfidfmckaaGreatDoor
open Go.Vc
set_option maxHeartbeats 4000000
attribute [local irreducible] JL JC JQ OpWp Con ConN

/-- A deck: the list, and some place in it. -/
abbrev DkRow (L : List Int) : List C := [.list (L.map Irow), .ex (fun i : Fin (L.length + 1) => .val (.int .i64 (i.1 : Int)))]
abbrev Dk (b : Nat) (L : List Int) : Ch := .blk b 67 (DkRow L)

theorem gFew_c (a : List Int) : Con Tryz.prog 5 [.cell (.list (a.map Irow))] [] (fun K => K (Bl (decide (a.length ≤ 400))) []) := by
  refine con_intro Tryz.func5 rfl rfl (Nat.le_of_ble_eq_true rfl) (fun c hc => R_ (E_ r_ (T_ (R_ (M_ r_ (o_ r_ (br_ r_ (fun hlen => o_ r_ (cu_ r_ r_ (E_ r_ (T_ (ar_ (jq_ret1 rfl rfl [] rfl (fun K h => ?_))))))))))))))
  have e : decide (a.length ≤ 400) = decide (((a.map Irow).length : Int) ≤ 400) := by simp; omega
  rw [e] at h
  exact h

theorem gMod_c (n k : Int) (hk : 1 ≤ k ∧ k ≤ 1000000000) (_hn : -9223372036854775808 ≤ n ∧ n ≤ 9223372036854775807) : Con Tryz.prog 9 [In .i64 n, In .i64 k] [] (fun K => K (In .i64 (n % k)) []) := by
  have h1 := Int.tmod_lt_of_pos n (show 0 < k by omega)
  have h2 : -k < n.tmod k := by
    have := Int.tmod_lt_of_pos (-n) (show 0 < k by omega)
    rw [Int.neg_tmod] at this
    omega
  have e : (n.tmod k + k) % k = n % k := by
    rw [Int.add_emod_right, Int.tmod_eq_emod]
    split
    · rw [show (n % k - ((0 : Nat) : Int)) = n % k by omega]
      exact Int.emod_emod_of_dvd n (Int.dvd_refl k)
    · rw [Int.sub_emod, show ((k.natAbs : Int)) = k by omega, Int.emod_self, Int.sub_zero, Int.emod_emod_of_dvd _ (Int.dvd_refl k)]
      exact Int.emod_emod_of_dvd n (Int.dvd_refl k)
  refine con_intro Tryz.func9 rfl rfl (Nat.le_of_ble_eq_true rfl) (fun c hc => R_ (E_ r_ (T_ (R_ (M_ r_ (M_ r_ (o_ r_ (ch_ r_ r_ g_ (M_ r_ (o_ r_ (bj_ r_ r_ g_ (M_ r_ (o_ r_ (ow_rem64 r_ r_ g_ g_ (E_ r_ (T_ (ar_ (jq_ret1 rfl rfl [] rfl (fun K h => by rw [← e] at h; exact h)))))))))))))))))))
theorem gNew_c (L : List Int) : Con Tryz.prog 7 [.cell (.list (L.map Irow))] [] (fun K => ∀ b, K (Ptr b) [Dk b L]) := by
  refine con_intro Tryz.func7 rfl rfl (Nat.le_of_ble_eq_true rfl) (fun c hc => R_ (E_ r_ (T_ (R_ (M_ r_ (o_ r_ (bu_ r_ r_ r_ r_ r_ (o_ r_ (ci_ r_ (fun bx => E_ r_ (T_ (ar_ (jq_row 0 (DkRow L) rfl (.cons (.refl _) (.cons (.ex (fun i : Fin (L.length + 1) => .val (.int .i64 (i.1 : Int))) ⟨0, by omega⟩) .nil)) (jq_ret1 rfl rfl [0] rfl (fun K h => h bx)))))))))))))))

/-- A number from 0 to n - 1; 0 where n is less. -/
abbrev Upto (n : Int) : S := .ex (fun i : {i : Int // 0 ≤ i ∧ (i < n ∨ i = 0)} => In .i64 i.1)
theorem gNext_c (L : List Int) (b : Nat) (n : Int) (hL : ∀ x ∈ L, -9223372036854775808 ≤ x ∧ x ≤ 9223372036854775807) (hlen : L.length ≤ 400) (hn : n ≤ 1000000000) :
    Con Tryz.prog 38 [Ptr b, In .i64 n] [Dk b L] (fun K => K (Upto n) [Dk b L]) := by
  refine con_intro Tryz.func38 rfl rfl (Nat.le_of_ble_eq_true rfl) (fun c hc => jc_open 0 rfl (.there .here) (fun i => ?_))
  obtain ⟨i, hi⟩ := i
  dsimp only
  have fin : ∀ k : Nat, k ≤ L.length → RowLe [.list (L.map Irow), .val (.int .i64 (k : Int))] (DkRow L) := fun k hk => .cons (.refl _) (.cons (.ex (fun i : Fin (L.length + 1) => .val (.int .i64 (i.1 : Int))) ⟨k, by omega⟩) .nil)
  have up : ∀ k, 0 ≤ k ∧ (k < n ∨ k = 0) → SLe (In .i64 k) (Upto n) := fun k hk => SLe.ex (fun i : {i : Int // 0 ≤ i ∧ (i < n ∨ i = 0)} => In .i64 i.1) ⟨k, hk⟩
  by_cases hge : (((L.map Irow).length : Nat) : Int) ≤ (i : Int)
  · refine R_ (E_ r_ (T_ (am_ (am_ (ao_ r_ r_ k_ k_ (yM_ r_ (yN_ r_ (yF_ r_ (yL_ 0 r_ (yM_ r_ (yN_ r_ (yF_ r_ (yL_ 0 r_ (aa_ (fun c => br_ r_ (fun hlen => p_)) (aa_ (fun c => cn_ r_ r_ p_) ?_)))))))))))))))
    refine yM_ r_ (ac_ r_ u_ (ac_ r_ u_ (aa_ (fun c => bp_ r_ u_ r_ p_) (ae_ (al_ (jc_cond rfl (fun _ => R_ (E_ r_ (T_ (ar_ (aw_ (jq_row 0 _ rfl (fin i g_) (jq_sle 4 rfl (up 0 g_) (jq_ret1 rfl rfl [0] rfl (fun K h => h))))))))) (fun h => by cases h)))))))
  · by_cases hn1 : n ≤ 1
    · refine R_ (E_ r_ (T_ (am_ (am_ (ao_ r_ r_ k_ k_ (yM_ r_ (yN_ r_ (yF_ r_ (yL_ 0 r_ (yM_ r_ (yN_ r_ (yF_ r_ (yL_ 0 r_ (aa_ (fun c => br_ r_ (fun hlen => p_)) (aa_ (fun c => cn_ r_ r_ p_) ?_)))))))))))))))
      refine yM_ r_ (ab_ r_ w_ (fun c => bd_ r_ p_) (ab_ r_ w_ (fun c => cu_ r_ r_ p_) (aa_ (fun c => bv_ r_ w_ r_ p_) (ae_ (al_ (jc_condd rfl (fun _ => R_ (E_ r_ (T_ (ar_ (aw_ (jq_row 0 _ rfl (fin i g_) (jq_sle 4 rfl (up 0 g_) (jq_ret1 rfl rfl [0] rfl (fun K h => h))))))))) (fun h => absurd hn1 h)))))))
    · have hlt : i < L.length := by simp at hge; omega
      have hlt2 : ((i : Int) + 1 - 1).toNat < L.length := by omega
      have hr := hL L[((i : Int) + 1 - 1).toNat] (List.getElem_mem hlt2)
      have hm := Int.emod_nonneg L[((i : Int) + 1 - 1).toNat] (show n ≠ 0 by omega)
      have hm2 := Int.emod_lt_of_pos L[((i : Int) + 1 - 1).toNat] (show 0 < n by omega)
      refine R_ (E_ r_ (T_ (am_ (am_ (ao_ r_ r_ k_ k_ (yM_ r_ (yN_ r_ (yF_ r_ (yL_ 0 r_ (yM_ r_ (yN_ r_ (yF_ r_ (yL_ 0 r_ (aa_ (fun c => br_ r_ (fun hlen => p_)) (aa_ (fun c => cn_ r_ r_ p_) ?_)))))))))))))))
      refine yM_ r_ (ab_ r_ w_ (fun c => bd_ r_ p_) (ab_ r_ w_ (fun c => cu_ r_ r_ p_) (aa_ (fun c => bv_ r_ w_ r_ p_) (ae_ (al_ (jc_condd rfl (fun h => absurd h hn1) (fun _ => as_ (al_ (R_ (M_ r_ (N_ r_ (F_ r_ (L_ 0 r_ (o_ r_ (bj_ r_ r_ g_ (N_ r_ ?_))))))))))))))))
      refine F_ r_ (W_ 0 r_ (T_ (am_ (ao_ r_ r_ k_ k_ (yM_ r_ (yN_ r_ (yF_ r_ (yL_ 0 r_ (yM_ r_ (yN_ r_ (yF_ r_ (yL_ 0 r_ (aa_ (fun c => cg_ r_ r_ g_ p_) (aa_ (fun c => cv_ r_ r_ g_ g_ r_ r_ b_ p_) (aa_ (fun c => cb_ r_ r_ p_) ?_)))))))))))))))
      refine yM_ r_ (aa_ (fun c => bm_ r_ (gMod_c _ _ g_ hr) p_) (yE_ r_ (ae_ (al_ (ar_ (jq_row 0 _ rfl (fin (i + 1) g_) (jq_sle 4 rfl (up _ ⟨hm, .inl hm2⟩) (jq_ret1 rfl rfl [0] rfl (fun K h => h)))))))))

theorem gNum_c (n : Int) : Con Tryz.prog 10 [In .i64 n] [] (fun K => K (.row (T.nu n).row') []) := by
  refine con_intro Tryz.func10 rfl rfl (Nat.le_of_ble_eq_true rfl) (fun c hc => R_ (o_ r_ (bl_ r_ r_ (fun bl => T_ (R_ (M_ r_ (o_ r_ (bu_ r_ r_ r_ r_ r_ (S_ 0 r_ (T_ (ar_ (jq_row 0 (T.nu n).row' rfl ?_ ?_))))))))))))
  · (repeat (first | exact RowLe.nil | refine RowLe.cons (CLe.refl _) ?_ | refine RowLe.cons CLe.nil ?_))
  · refine jq_retRow rfl rfl rfl rfl 0 rfl [] rfl (fun K h => h)
theorem gName_c (s : ByteArray) : Con Tryz.prog 12 [Str s] [] (fun K => K (.row (T.nm s).row') []) := by
  refine con_intro Tryz.func12 rfl rfl (Nat.le_of_ble_eq_true rfl) (fun c hc => R_ (o_ r_ (bl_ r_ r_ (fun bl => T_ (R_ (M_ r_ (o_ r_ (bu_ r_ r_ r_ r_ r_ (S_ 0 r_ (T_ (ar_ (jq_row 0 (T.nm s).row' rfl ?_ ?_))))))))))))
  · (repeat (first | exact RowLe.nil | refine RowLe.cons (CLe.refl _) ?_ | refine RowLe.cons CLe.nil ?_))
  · refine jq_retRow rfl rfl rfl rfl 0 rfl [] rfl (fun K h => h)
theorem gBin_c (o : Int) (a b : T) : Con Tryz.prog 11 [In .i64 o, .row a.row', .row b.row'] [] (fun K => K (.row (T.bn o a b).row') []) := by
  refine con_intro Tryz.func11 rfl rfl (Nat.le_of_ble_eq_true rfl) (fun c hc => R_ (o_ r_ (ci_ r_ (fun bx => o_ r_ (ci_ r_ (fun bx => o_ r_ (bl_ r_ r_ (fun bl => T_ (R_ (M_ r_ (A_ 2 r_ (A_ 1 r_ (o_ r_ (bq_ r_ r_ b_ r_ r_ b_ (o_ r_ (bu_ r_ r_ r_ r_ r_ (S_ 0 r_ (T_ (ar_ (jq_row 0 (T.bn o a b).row' rfl ?_ ?_))))))))))))))))))))
  · (repeat (first | exact RowLe.nil | refine RowLe.cons (CLe.refl _) ?_ | refine RowLe.cons CLe.nil ?_))
    exact RowLe.cons (CLe.eq (by simp [T.row_eq, T.args])) .nil
  · refine jq_retRow rfl rfl rfl rfl 0 rfl [] rfl (fun K h => h)

abbrev InR (L : List Int) : Prop := ∀ x ∈ L, -9223372036854775808 ≤ x ∧ x ≤ 9223372036854775807
theorem Nx_c {L : List Int} {b : Nat} (n : Int) (hL : InR L) (hLn : L.length ≤ 400) (hn : n ≤ 1000000000) :
    Con Tryz.prog 38 [Ptr b, In .i64 n] [Dk b L] (fun K => ∀ i : Int, (0 ≤ i ∧ (i < n ∨ i = 0)) → K (In .i64 i) [Dk b L]) :=
  con_exP (gNext_c L b n hL hLn hn)

theorem gOp_c {L : List Int} {b : Nat} (hL : InR L) (hLn : L.length ≤ 400) :
    Con Tryz.prog 139 [Ptr b] [Dk b L] (fun K => ∀ i : Int, (1 ≤ i ∧ i ≤ 14) → K (In .i64 i) [Dk b L]) := by
  refine con_intro Tryz.func139 rfl rfl (Nat.le_of_ble_eq_true rfl) (fun c hc => R_ (E_ r_ (T_ (R_ (M_ r_ (o_ r_ (bt_ [0] rfl rfl (Nx_c _ hL hLn g_) (fun i hi => o_ r_ (bj_ r_ r_ g_ (E_ r_ (T_ (ar_ (jq_ret1 rfl rfl [0] rfl (fun K h => h (1 + i) g_))))))))))))))

theorem gWord_c {L : List Int} {b : Nat} (hL : InR L) (hLn : L.length ≤ 400) :
    Con Tryz.prog 138 [Ptr b] [Dk b L] (fun K => ∀ i : Int, (-2147483648 ≤ i ∧ i ≤ 2147483647) → K (In .i64 i) [Dk b L]) := by
  refine con_intro Tryz.func138 rfl rfl (Nat.le_of_ble_eq_true rfl) (fun c hc => R_ (E_ r_ (T_ (am_ (R_ (M_ r_ (o_ r_ (bt_ [0] rfl rfl (Nx_c _ hL hLn g_) (fun k hk => T_ (au_ (R_ (o_ r_ (bn_ r_ r_ (E_ r_ (T_ (jc_condd rfl (fun h0 => ?_) (fun h0 => ?_)))))))))))))))))
  · refine R_ (M_ r_ (o_ r_ (bt_ [0] rfl rfl (Nx_c _ hL hLn g_) (fun i hi => o_ r_ (cy_ r_ g_ (E_ r_ (T_ (ar_ (az_ (aw_ (jq_ret1 rfl rfl [0] rfl (fun K h => h _ g_))))))))))))
  refine R_ (o_ r_ (bn_ r_ r_ (E_ r_ (T_ (jc_condd rfl (fun h1 => ?_) (fun h1 => ?_))))))
  · refine R_ (M_ r_ (o_ r_ (bt_ [0] rfl rfl (Nx_c _ hL hLn g_) (fun i hi => o_ r_ (cg_ r_ r_ g_ (E_ r_ (T_ (ar_ (az_ (aw_ (jq_ret1 rfl rfl [0] rfl (fun K h => h _ g_))))))))))))
  refine R_ (o_ r_ (bn_ r_ r_ (E_ r_ (T_ (jc_condd rfl (fun h2 => ?_) (fun h2 => ?_))))))
  · refine R_ (M_ r_ (o_ r_ (bt_ [0] rfl rfl (Nx_c _ hL hLn g_) (fun i hi => o_ r_ (bj_ r_ r_ g_ (E_ r_ (T_ (ar_ (az_ (aw_ (jq_ret1 rfl rfl [0] rfl (fun K h => h _ g_))))))))))))
  refine R_ (o_ r_ (bn_ r_ r_ (E_ r_ (T_ (jc_condd rfl (fun h3 => ?_) (fun h3 => ?_))))))
  · refine R_ (M_ r_ (o_ r_ (bt_ [0] rfl rfl (Nx_c _ hL hLn g_) (fun i hi => ?_))))
    have h5 : (0 : Int) ≤ 1 * 2 ^ i.toNat ∧ (1 : Int) * 2 ^ i.toNat ≤ 1073741824 := by
      have h6 : (2 : Nat) ^ i.toNat ≤ 2 ^ 30 := Nat.pow_le_pow_right (by omega) (by omega)
      have h7 : ((2 ^ i.toNat : Nat) : Int) = (2 : Int) ^ i.toNat := by simp
      have h8 : (0 : Int) ≤ (2 : Int) ^ i.toNat := h7 ▸ Int.natCast_nonneg _
      omega
    refine o_ r_ (ow_convU64 r_ r_ r_ g_ (o_ r_ (ow_shl64 r_ r_ g_ g_ (E_ r_ (T_ (ar_ (az_ (aw_ (jq_ret1 rfl rfl [0] rfl (fun K h => h _ g_))))))))))
  · refine as_ (ay_ (al_ (R_ (M_ r_ (o_ r_ (bt_ [0] rfl rfl (Nx_c _ hL hLn g_) (fun i hi => E_ r_ (T_ (ar_ (jq_ret1 rfl rfl [0] rfl (fun K h => h _ g_)))))))))))

/-- The deck, the variables, the slice of the loops under way, the arrays, the shared arrays, what is held, labels, statements left, loops under way. -/
abbrev MkRow (bd : Nat) (V : List ByteArray) (lv : Value) (A : List ByteArray) (Sh : List Shd) (hs : ByteArray) (lab st il : Int) : List C :=
  [.val (.pointer (some ⟨bd, 0, none⟩)), .list (V.map Wrow), .val lv, .list (A.map Wrow), .list (Sh.map ShRow), .val (.string hs), .val (.int .i64 lab), .val (.int .i64 st), .val (.int .i64 il)]
abbrev Mk (bm bd : Nat) (V : List ByteArray) (lv : Value) (A : List ByteArray) (Sh : List Shd) (hs : ByteArray) (lab st il : Int) : Ch := .blk bm 134 (MkRow bd V lv A Sh hs lab st il)

theorem gname_c {L : List Int} {bm bd : Nat} {V A : List ByteArray} {lv : Value} {Sh : List Shd} {hs : ByteArray} {lab st il : Int} (hL : InR L) (hLn : L.length ≤ 400) (l : List ByteArray) (h0 : 0 < l.length) (h1 : l.length ≤ 1000) :
    Con Tryz.prog 121 [Ptr bm, .cell (.list (l.map Wrow))] [Mk bm bd V lv A Sh hs lab st il, Dk bd L] (fun K => ∀ s : ByteArray, s ∈ l → K (Str s) [Mk bm bd V lv A Sh hs lab st il, Dk bd L]) := by
  refine con_intro Tryz.func121 rfl rfl (Nat.le_of_ble_eq_true rfl) (fun c hc => R_ (E_ r_ (T_ (R_ (M_ r_ (M_ r_ (N_ r_ (F_ r_ (L_ 0 r_ (M_ r_ (o_ r_ (br_ r_ (fun hlen => o_ r_ (bt_ [1] rfl rfl (Nx_c _ hL hLn (by simp; omega)) (fun i hi => ?_)))))))))))))))
  simp only [List.length_map] at hi
  refine o_ r_ (cv_ r_ r_ g_ g_ r_ r_ b_ (o_ r_ (cb_ r_ r_ (E_ r_ (T_ (ar_ (jq_ret1 rfl rfl [1, 0] rfl (fun K h => h _ (List.getElem_mem _)))))))))
end Go.Proofs.YtlniadfidfmckaaGreatDoor
end

section
namespace Go.Proofs.YtlniadfidfmckaaGreatDoor
open Go.Vc
set_option maxHeartbeats 4000000
attribute [local irreducible] JL JC JQ OpWp Con ConN


def usableF (A : List ByteArray) (Sh : List Shd) (hs : ByteArray) : List ByteArray := A ++ Sh.filterMap fun s => if s.2.2 = hs then some s.1 else none
theorem usable_len (A : List ByteArray) (Sh : List Shd) (hs : ByteArray) : (usableF A Sh hs).length ≤ A.length + Sh.length := by
  unfold usableF
  rw [List.length_append]
  have := List.length_filterMap_le (fun s : Shd => if s.2.2 = hs then some s.1 else none) Sh
  omega
/-- An expression of at most a depth, of some variables, arrays. -/
inductive ExG (V U : List ByteArray) : Nat → T → Prop
  | nu (d : Nat) (n : Int) (h : -2147483647 ≤ n ∧ n ≤ 2147483647) : ExG V U d (.nu n)
  | nm (d : Nat) (s : ByteArray) (h : s ∈ V) : ExG V U d (.nm s)
  | ix (d : Nat) (s : ByteArray) (t : T) (h : s ∈ U) (ht : ExG V U d t) : ExG V U (d + 1) (.ix s t)
  | bn (d : Nat) (o : Int) (a b : T) (ho : 1 ≤ o ∧ o ≤ 14) (ha : ExG V U d a) (hb : ExG V U d b) : ExG V U (d + 1) (.bn o a b)
theorem ExG.pos {x : Int} (h : 0 < x) : x.toNat = (x - 1).toNat + 1 := by omega
section
variable {L : List Int} {bm bd : Nat} {V A LS : List ByteArray} {lv : Value} {Sh : List Shd} {hs : ByteArray} {lab st il : Int}

theorem gusable_c (hA : A.length ≤ 100) (hSh : Sh.length ≤ 100) :
    Con Tryz.prog 120 [Ptr bm] [Mk bm bd V lv A Sh hs lab st il] (fun K => K (.cell (.list ((usableF A Sh hs).map Wrow))) [Mk bm bd V lv A Sh hs lab st il]) := by
  have eS : (Sh.map ShRow).length = Sh.length := List.length_map _
  refine con_intro Tryz.func120 rfl rfl (Nat.le_of_ble_eq_true rfl) (fun c hc => R_ (E_ r_ (T_ (R_ (o_ r_ (ow_buildSliceOwn rfl rfl b_ rfl rfl b_ (fun v0 hv0 fv0 => M_ r_ (N_ r_ (F_ r_ (L_ 1 r_ (o_ r_ (ow_appendM (f := Wrow) (l1 := []) (l2 := A) 0 rfl rfl rfl rfl rfl rfl rfl (fun _ => rfl) (by show (0 + _) * 16 ≤ _; omega) (by simp; omega) (fun v1 hv1 => E_ r_ (T_ (am_ (R_ (E_ r_ ?_)))))))))))))))))
  refine T_ (au_ (jc_loopS (ι := Nat × Value) [] (fun i => i.1 ≤ Sh.length) (fun i => [(0, Ptr bm), (3, .cell (.val i.2)), (4, In .i64 (i.1 : Int))]) (fun i => [.own i.2 9 1 ((usableF A (Sh.take i.1) hs).map Wrow), Mk bm bd V lv A Sh hs lab st il]) (fun i => Sh.length - i.1) (0, v1) (Nat.zero_le _) ?_ ?_ ?_))
  · rw [show usableF A (Sh.take 0) hs = A by simp [usableF]]
    exact bc_ 0 r_ (bc_ 0 r_ sub_end)
  · (repeat (first | exact True.intro | refine ⟨rfl, ?_⟩))
  rintro ⟨k, v⟩ hk
  dsimp only at hk ⊢
  have hlen := usable_len A (Sh.take k) hs
  have htk : (Sh.take k).length ≤ k := by rw [List.length_take]; omega
  refine jc_reset [(0, Ptr bm), (3, .cell (.val v)), (4, In .i64 (k : Int))] [.own v 9 1 ((usableF A (Sh.take k) hs).map Wrow), Mk bm bd V lv A Sh hs lab st il] ?_ ⟨[0, 0], [], rfl⟩ ?_
  · (repeat (first | exact True.intro | refine ⟨rfl, ?_⟩))
  by_cases hlt : k < Sh.length
  · have hlt' : (k : Int) < ((Sh.map ShRow).length : Int) := by omega
    by_cases he : Sh[k].2.2 = hs
    · have e2 : usableF A (Sh.take (k + 1)) hs = usableF A (Sh.take k) hs ++ [Sh[k].1] := by
        unfold usableF
        rw [List.take_succ_eq_append_getElem hlt, List.filterMap_append, List.append_assoc]
        simp [he]
      refine am_ (R_ (M_ r_ (M_ r_ (N_ r_ (F_ r_ (L_ 1 r_ (o_ r_ (br_ r_ (fun hlen => o_ r_ (bw_ r_ r_ (T_ (aq_ r_ u_ (as_ (al_ (B_ (am_ (ao_ r_ r_ k_ k_ ?_)))))))))))))))))
      refine yM_ r_ (yN_ r_ (yF_ r_ (yL_ 1 r_ (yM_ r_ (aa_ (fun c => cc_ r_ r_ g_ r_ r_ b_ p_) (aa_ (fun c => cf_ r_ r_ r_ b_ r_ b_ p_) (aa_ (fun c => cb_ r_ r_ p_) (yM_ r_ (yN_ r_ (yF_ r_ (yL_ 1 r_ (aa_ (fun c => cs_ r_ r_ p_) (ae_ (al_ (aq_ r_ u_ ?_)))))))))))))))
      refine an_ (M_ r_ (M_ r_ (N_ r_ (F_ r_ (L_ 1 r_ (M_ r_ (o_ r_ (cc_ r_ r_ g_ r_ r_ b_ (o_ r_ (cf_ r_ r_ r_ b_ r_ b_ (o_ r_ (cf_ r_ r_ r_ b_ r_ b_ (o_ r_ (cb_ r_ r_ (o_ r_ (bq_ r_ r_ b_ r_ r_ b_ ?_))))))))))))))))
      refine o_ r_ (ow_append1 0 (Sh[k].1) rfl rfl rfl rfl rfl rfl rfl (fun _ => rfl) (by show (_ + _) * 16 ≤ _; first | omega | (simp only [List.length_append]; omega)) (by first | omega | (simp only [List.length_append]; omega)) (fun v2 hv2 => E_ r_ (ak_ (ay_ (al_ (an_ (M_ r_ (o_ r_ (bj_ r_ r_ g_ (E_ r_ (ak_ (jq_againS (i := (k, v)) ((k + 1, v2) : Nat × Value) hlt (by dsimp only; omega) ?_ ?_))))))))))))
      · rw [e2]
        exact bc_ 0 r_ (bc_ 0 r_ sub_end)
      · (repeat (first | exact True.intro | refine ⟨rfl, ?_⟩))
    · have e2 : usableF A (Sh.take (k + 1)) hs = usableF A (Sh.take k) hs := by
        unfold usableF
        rw [List.take_succ_eq_append_getElem hlt, List.filterMap_append]
        simp [he]
      refine am_ (R_ (M_ r_ (M_ r_ (N_ r_ (F_ r_ (L_ 1 r_ (o_ r_ (br_ r_ (fun hlen => o_ r_ (bw_ r_ r_ (T_ (aq_ r_ u_ (as_ (al_ (B_ (am_ (ao_ r_ r_ k_ k_ ?_)))))))))))))))))
      refine yM_ r_ (yN_ r_ (yF_ r_ (yL_ 1 r_ (yM_ r_ (aa_ (fun c => cc_ r_ r_ g_ r_ r_ b_ p_) (aa_ (fun c => cf_ r_ r_ r_ b_ r_ b_ p_) (aa_ (fun c => cb_ r_ r_ p_) (yM_ r_ (yN_ r_ (yF_ r_ (yL_ 1 r_ (aa_ (fun c => cs_ r_ r_ p_) (ae_ (al_ (ap_ r_ w_ ?_)))))))))))))))
      refine as_ (ay_ (al_ (an_ (M_ r_ (o_ r_ (bj_ r_ r_ g_ (E_ r_ (ak_ (jq_againS (i := (k, v)) ((k + 1, v) : Nat × Value) hlt (by dsimp only; omega) ?_ ?_)))))))))
      · rw [e2]
        exact bc_ 0 r_ (bc_ 0 r_ sub_end)
      · (repeat (first | exact True.intro | refine ⟨rfl, ?_⟩))
  · have hlt' : ¬ (k : Int) < ((Sh.map ShRow).length : Int) := by omega
    have e2 : Sh.take k = Sh := List.take_of_length_le (by omega)
    rw [e2]
    refine am_ (R_ (M_ r_ (M_ r_ (N_ r_ (F_ r_ (L_ 1 r_ (o_ r_ (br_ r_ (fun hlen => o_ r_ (bw_ r_ r_ (T_ (ap_ r_ w_ (av_ (ax_ (ax_ (ba_ (al_ ?_)))))))))))))))))
    refine R_ (M_ r_ (E_ r_ (T_ (ar_ (jq_freeze 2 0 rfl rfl (by rw [hc]; simp [hb]) (jq_ret1 rfl rfl [0] rfl (fun K h => h)))))))
theorem gtarget_c (hL : InR L) (hLn : L.length ≤ 400) (hV0 : 0 < V.length) (hV : V.length ≤ 100) (hLS : LS.length ≤ 100) :
    Con Tryz.prog 125 [Ptr bm] [Mk bm bd V lv A Sh hs lab st il, Dk bd L, .own lv 9 1 (LS.map Wrow)] (fun K => ∀ s : ByteArray, s ∈ V → K (Str s) [Mk bm bd V lv A Sh hs lab st il, Dk bd L, .own lv 9 1 (LS.map Wrow)]) := by
  have eV : (V.map Wrow).length = V.length := List.length_map _
  refine con_intro Tryz.func125 rfl rfl (Nat.le_of_ble_eq_true rfl) (fun c hc => R_ (E_ r_ (T_ (R_ (M_ r_ (M_ r_ (N_ r_ (F_ r_ (L_ 0 r_ (o_ r_ (bt_ [0, 0] rfl rfl (gname_c hL hLn V hV0 g_) (fun s hs1 => E_ r_ (T_ (am_ (R_ (E_ r_ ?_))))))))))))))))
  refine T_ (au_ (jc_loop [0, 3] (fun k => k ≤ LS.length) (fun k => [(4, In .i64 (k : Int))]) (fun _ => [Mk bm bd V lv A Sh hs lab st il, Dk bd L, .own lv 9 1 (LS.map Wrow)]) (fun k => LS.length - k) 0 [0, 0, 0] (Nat.zero_le _) rfl ?_ ?_))
  · (repeat (first | exact True.intro | refine ⟨rfl, ?_⟩))
  · intro k hk
    refine am_ (R_ (M_ r_ (M_ r_ (N_ r_ (F_ r_ (L_ 0 r_ (o_ r_ (cw_ 2 r_ r_ (fun hlen => o_ r_ (bw_ r_ r_ (T_ (jc_condd rfl (fun hlt => ?_) (fun hge => ?_)))))))))))))
    · simp only [List.length_map, Int.ofNat_lt] at hlt
      refine as_ (al_ (B_ (R_ (M_ r_ (N_ r_ (F_ r_ (L_ 0 r_ (M_ r_ (o_ r_ (dc_ 2 rfl rfl rfl g_ (by simp only [List.length_map]; omega) rfl (o_ r_ (db_ 2 r_ r_ r_ g_ r_ (M_ r_ (o_ r_ (cs_ r_ r_ (T_ (jc_condd rfl (fun he => ?_) (fun hne => ?_))))))))))))))))))
      · refine am_ (ao_ r_ r_ k_ k_ (yM_ r_ (yN_ r_ (yF_ r_ (yL_ 0 r_ (yM_ r_ (yN_ r_ (yF_ r_ (yL_ 0 r_ (aa_ (fun c => br_ r_ (fun hlen => p_)) (aa_ (fun c => cg_ r_ r_ g_ p_) (aa_ (fun c => cv_ r_ r_ g_ g_ r_ r_ b_ p_) (aa_ (fun c => cb_ r_ r_ p_) (yE_ r_ (ae_ ?_)))))))))))))))
        refine al_ (ar_ (az_ (aw_ (aw_ (az_ (aw_ (jq_ret1 rfl rfl [0, 0, 0] rfl (fun K h => h _ (List.getElem_mem _)))))))))
      · refine as_ (ay_ (al_ (an_ (M_ r_ (o_ r_ (bj_ r_ r_ g_ (E_ r_ (ak_ (jq_again (k + 1) [0, 0, 0] hlt g_ rfl ?_)))))))))
        (repeat (first | exact True.intro | refine ⟨rfl, ?_⟩))
    · refine av_ (ax_ (ax_ (ba_ (al_ (R_ (M_ r_ (E_ r_ (T_ (ar_ (jq_ret1 rfl rfl [0, 0, 0] rfl (fun K h => h _ hs1)))))))))))

theorem gexpr_step (hL : InR L) (hLn : L.length ≤ 400) (hV0 : 0 < V.length) (hV : V.length ≤ 100) (hA : A.length ≤ 100) (hSh : Sh.length ≤ 100) (d : Int) (hd0 : -100 ≤ d) (hd1 : d ≤ 100)
    (ih : 0 < d → Con Tryz.prog 122 [Ptr bm, In .i64 (d - 1)] [Mk bm bd V lv A Sh hs lab st il, Dk bd L] (fun K => ∀ e : T, ExG V (usableF A Sh hs) (d - 1).toNat e → K (.row e.row') [Mk bm bd V lv A Sh hs lab st il, Dk bd L])) :
    Con Tryz.prog 122 [Ptr bm, In .i64 d] [Mk bm bd V lv A Sh hs lab st il, Dk bd L] (fun K => ∀ e : T, ExG V (usableF A Sh hs) d.toNat e → K (.row e.row') [Mk bm bd V lv A Sh hs lab st il, Dk bd L]) := by
  refine con_intro Tryz.func122 rfl rfl (Nat.le_of_ble_eq_true rfl) (fun c hc => R_ (o_ r_ (bl_ r_ r_ (fun bl => T_ (R_ (M_ r_ (N_ r_ (F_ r_ (L_ 1 r_ (o_ r_ (bt_ [2] rfl rfl (Nx_c _ hL hLn g_) (fun k0 hk0 => E_ r_ (T_ (am_ (R_ (M_ r_ (o_ r_ (cu_ r_ r_ ?_))))))))))))))))))
  refine T_ ?_
  have ht : 0 ≤ k0 % 3 ∧ k0 % 3 ≤ 2 := by omega
  refine jc_cut (ι := Int) [0, 1, 4] (fun k => 0 ≤ k ∧ k ≤ 5 ∧ (d ≤ 0 → k ≤ 2)) (fun k => [(5, In .i64 k)]) (fun _ => [Mk bm bd V lv A Sh hs lab st il, Dk bd L, .blk bl 53 [.val (.int .i64 0), .val (.int .i64 0), .val (.string ⟨#[]⟩), .val (.int .i64 0), .val (.slice none 0 0)]]) ?_ ?_
  · refine jc_condd rfl (fun hd => ?_) (fun hd => ?_)
    · refine an_ (M_ r_ (o_ r_ (ow_rem64 r_ r_ g_ g_ (E_ r_ (ak_ (jq_cut (k0 % 3) [2, 0, 0] ⟨ht.1, by omega, fun _ => ht.2⟩ rfl ?_))))))
      (repeat (first | exact True.intro | refine ⟨rfl, ?_⟩))
    · refine as_ (jq_cut k0 [2, 0, 0] ⟨hk0.1, by omega, fun h => absurd h hd⟩ rfl ?_)
      (repeat (first | exact True.intro | refine ⟨rfl, ?_⟩))
  · intro k ⟨hka, hkb, hkd⟩
    refine am_ (R_ (M_ r_ (T_ (au_ (R_ (o_ r_ (bn_ r_ r_ (E_ r_ (T_ (jc_condd rfl (fun h0 => ?_) (fun h0 => ?_)))))))))))
    · refine R_ (M_ r_ (N_ r_ (F_ r_ (L_ 0 r_ (o_ r_ (bt_ [1] rfl rfl (Nx_c _ hL hLn g_) (fun n1 hn1 => E_ r_ (T_ (am_ (R_ (M_ r_ (N_ r_ (F_ r_ (L_ 1 r_ (o_ r_ (bt_ [0] rfl rfl (Nx_c _ hL hLn g_) (fun n2 hn2 => o_ r_ (bn_ r_ r_ ?_))))))))))))))))))
      refine T_ (jc_cut (ι := Int) [0, 1, 4] (fun k => -2147483647 ≤ k ∧ k ≤ 2147483647) (fun k => [(6, In .i64 k)]) (fun _ => [Mk bm bd V lv A Sh hs lab st il, Dk bd L, .blk bl 53 [.val (.int .i64 0), .val (.int .i64 0), .val (.string ⟨#[]⟩), .val (.int .i64 0), .val (.slice none 0 0)]]) ?_ ?_)
      · refine jc_condd rfl (fun _ => ?_) (fun _ => ?_)
        · refine an_ (M_ r_ (N_ r_ (F_ r_ (L_ 1 r_ (o_ r_ (bt_ [0] rfl rfl (gWord_c hL hLn) (fun n3 hn3 => o_ r_ (ck_ r_ r_ (E_ r_ (ak_ (jq_cut (max (-2147483647) n3) [1, 0, 0] g_ rfl ?_)))))))))))
          (repeat (first | exact True.intro | refine ⟨rfl, ?_⟩))
        · refine as_ (jq_cut n1 [1, 0, 0] g_ rfl ?_)
          (repeat (first | exact True.intro | refine ⟨rfl, ?_⟩))
      · intro n3 hn3
        refine R_ (M_ r_ (o_ r_ (bm_ r_ (gNum_c _) (S_ 2 r_ (T_ (ar_ (az_ (aw_ (jq_retRow rfl rfl rfl rfl 0 rfl [1, 1] rfl (fun K h => h _ (.nu _ _ hn3)))))))))))
    · refine R_ (o_ r_ (bn_ r_ r_ (E_ r_ (T_ (jc_condd rfl (fun h3 => ?_) (fun h3 => ?_))))))
      · refine R_ (M_ r_ ?_)
        have hU := usable_len A Sh hs
        refine o_ r_ (bi_ [0] r_ r_ (gusable_c hA hSh) (E_ r_ (T_ (R_ (M_ r_ (o_ r_ (br_ r_ (fun hlen => o_ r_ (bz_ r_ r_ (T_ (jc_condd rfl (fun hp => ?_) (fun hp => ?_))))))))))))
        · simp only [List.length_map] at hp
          refine R_ (M_ r_ (M_ r_ (o_ r_ (bt_ [0, 0] rfl rfl (gname_c hL hLn (usableF A Sh hs) g_ g_) (fun s hs1 => M_ r_ (M_ r_ (o_ r_ (cg_ r_ r_ g_ (o_ r_ (bt_ [0, 0] rfl rfl (ih g_) (fun e1 he1 => o_ r_ (bq_ r_ r_ b_ r_ r_ b_ (o_ r_ (bu_ r_ r_ r_ r_ r_ (S_ 2 r_ (T_ (ar_ (az_ (aw_ (jq_row 0 (T.ix s e1).row' rfl ?_ ?_))))))))))))))))))))
          · (repeat (first | exact RowLe.nil | refine RowLe.cons (CLe.refl _) ?_ | refine RowLe.cons CLe.nil ?_))
            exact RowLe.cons (CLe.eq (by simp [T.row_eq, T.args])) .nil
          · refine jq_retRow rfl rfl rfl rfl 0 rfl [1, 1] rfl (fun K h => h _ (by rw [ExG.pos (x := d) g_]; exact .ix _ _ _ hs1 he1))
        · refine as_ (ay_ (al_ (R_ (M_ r_ (M_ r_ (N_ r_ (F_ r_ (L_ 0 r_ (o_ r_ (bt_ [0, 0] rfl rfl (gname_c hL hLn V hV0 g_) (fun s hs1 => o_ r_ (bm_ r_ (gName_c _) (S_ 2 r_ (T_ (ar_ (jq_retRow rfl rfl rfl rfl 0 rfl [1, 1] rfl (fun K h => h _ (.nm _ _ hs1))))))))))))))))))
      · refine am_ (R_ (o_ r_ (bn_ r_ r_ (E_ r_ (T_ (jc_condd rfl (fun h4 => ?_) (fun h4 => ?_)))))))
        · refine as_ (al_ (jc_condd rfl (fun _ => R_ (M_ r_ (N_ r_ (F_ r_ (L_ 0 r_ (o_ r_ (bt_ [1] rfl rfl (gOp_c hL hLn) (fun o ho => M_ r_ (M_ r_ (o_ r_ (cg_ r_ r_ g_ (o_ r_ (bt_ [1, 0] rfl rfl (ih g_) (fun e1 he1 => M_ r_ (M_ r_ (o_ r_ (cg_ r_ r_ g_ ?_))))))))))))))))) (fun h => absurd h4 h)))
          refine o_ r_ (bt_ [0, 0] rfl rfl (ih g_) (fun e2 he2 => o_ r_ (bm_ r_ (gBin_c _ _ _) (S_ 2 r_ (T_ (ar_ (az_ (aw_ (jq_retRow rfl rfl rfl rfl 0 rfl [1, 1] rfl (fun K h => h _ (by rw [ExG.pos (x := d) g_]; exact .bn _ _ _ _ ho he1 he2)))))))))))
        · refine an_ (o_ r_ (bn_ r_ r_ (E_ r_ (T_ (jc_condd rfl (fun h5 => ?_) (fun h5 => ?_))))))
          · refine R_ (M_ r_ (N_ r_ (F_ r_ (L_ 0 r_ (o_ r_ (bt_ [1] rfl rfl (gOp_c hL hLn) (fun o ho => M_ r_ (M_ r_ (o_ r_ (cg_ r_ r_ g_ (o_ r_ (bt_ [1, 0] rfl rfl (ih g_) (fun e1 he1 => M_ r_ (M_ r_ (o_ r_ (cg_ r_ r_ g_ (o_ r_ (bt_ [0, 0] rfl rfl (ih g_) (fun e2 he2 => o_ r_ (bm_ r_ (gBin_c _ _ _) (S_ 2 r_ ?_)))))))))))))))))))))
            refine T_ (ar_ (az_ (aw_ (jq_retRow rfl rfl rfl rfl 0 rfl [1, 1] rfl (fun K h => h _ (by rw [ExG.pos (x := d) g_]; exact .bn _ _ _ _ ho he1 he2))))))
          · refine as_ (ay_ (al_ (R_ (M_ r_ (M_ r_ (N_ r_ (F_ r_ (L_ 0 r_ (o_ r_ (bt_ [0, 0] rfl rfl (gname_c hL hLn V hV0 g_) (fun s hs1 => o_ r_ (bm_ r_ (gName_c _) (S_ 2 r_ (T_ (ar_ (jq_retRow rfl rfl rfl rfl 0 rfl [1, 1] rfl (fun K h => h _ (.nm _ _ hs1))))))))))))))))))

theorem gexpr_c (hL : InR L) (hLn : L.length ≤ 400) (hV0 : 0 < V.length) (hV : V.length ≤ 100) (hA : A.length ≤ 100) (hSh : Sh.length ≤ 100) : ∀ (n : Nat) (d : Int), d ≤ n → -100 ≤ d → n ≤ 100 →
    Con Tryz.prog 122 [Ptr bm, In .i64 d] [Mk bm bd V lv A Sh hs lab st il, Dk bd L] (fun K => ∀ e : T, ExG V (usableF A Sh hs) d.toNat e → K (.row e.row') [Mk bm bd V lv A Sh hs lab st il, Dk bd L])
  | 0, d, h1, h2, _ => gexpr_step hL hLn hV0 hV hA hSh d h2 (by omega) (fun h => by omega)
  | n + 1, d, h1, h2, h3 => gexpr_step hL hLn hV0 hV hA hSh d h2 (by omega) (fun h => gexpr_c hL hLn hV0 hV hA hSh n (d - 1) (by omega) (by omega) (by omega))
end
end Go.Proofs.YtlniadfidfmckaaGreatDoor
end

section
namespace Go.Proofs.YtlniadfidfmckaaGreatDoor
open Go.Vc
set_option maxHeartbeats 4000000
attribute [local irreducible] JL JC JQ OpWp Con ConN


section
variable {L : List Int} {bm bd : Nat} {V A LS : List ByteArray} {lv : Value} {Sh : List Shd} {hs : ByteArray} {lab st il : Int}

theorem gcondition_c (hL : InR L) (hLn : L.length ≤ 400) (hV0 : 0 < V.length) (hV : V.length ≤ 100) (hA : A.length ≤ 100) (hSh : Sh.length ≤ 100) :
    Con Tryz.prog 123 [Ptr bm] [Mk bm bd V lv A Sh hs lab st il, Dk bd L] (fun K => ∀ e : T, ExG V (usableF A Sh hs) 2 e → K (.row e.row') [Mk bm bd V lv A Sh hs lab st il, Dk bd L]) := by
  refine con_intro Tryz.func123 rfl rfl (Nat.le_of_ble_eq_true rfl) (fun c hc => R_ (o_ r_ (bl_ r_ r_ (fun bl => T_ (am_ (R_ (M_ r_ (N_ r_ (F_ r_ (L_ 1 r_ (o_ r_ (bt_ [2] rfl rfl (Nx_c _ hL hLn g_) (fun k0 hk0 => o_ r_ (bn_ r_ r_ (T_ (jc_condd rfl (fun h3 => ?_) (fun h3 => ?_)))))))))))))))))
  · refine R_ (M_ r_ (o_ r_ (bt_ [2, 0] rfl rfl (gexpr_c hL hLn hV0 hV hA hSh 2 2 g_ g_ g_) (fun e1 he1 => S_ 2 r_ (T_ (ar_ (aw_ (jq_retRow rfl rfl rfl rfl 0 rfl [1, 1] rfl (fun K h => h _ he1)))))))))
  · refine as_ (al_ (am_ (jc_anyB 20 none rfl k_ k_ (yM_ r_ (yN_ r_ (yF_ r_ (yL_ 2 r_ (aa_ (fun c => ow_callA [0] r_ r_ (gNext_c L _ _ hL hLn g_)) (aa_ (fun c => ow_exarg 15 rfl (fun i => bj_ rfl rfl (by have := i.2; omega) ⟨rfl, .refl _⟩)) (yM_ r_ (yM_ r_ (yN_ r_ (yF_ r_ (yL_ 2 r_ (aa_ (fun c => ow_callA [2, 0] r_ r_ (con_toEx (gname_c hL hLn V hV0 g_))) ?_)))))))))))))))
    refine aa_ (fun c => ow_exarg 22 rfl (fun i => bm_ rfl (gName_c _) ⟨rfl, .refl _⟩)) (yM_ r_ (yN_ r_ (yF_ r_ (yL_ 2 r_ (aa_ (fun c => ow_callA [0] r_ r_ (gNext_c L _ _ hL hLn g_)) (aa_ (fun c => ow_exarg 28 rfl (fun i => bm_ rfl (gNum_c _) ⟨rfl, .refl _⟩)) (aa_ (fun c => ow_exarg 16 rfl (fun i => ow_exarg 23 rfl (fun j => ow_exarg 29 rfl (fun k => bm_ rfl (gBin_c _ _ _) ⟨rfl, .refl _⟩)))) (ae_ (afin_none ?_)))))))))
    refine jl_slot 30 rfl (fun i => jl_slot 30 rfl (fun j => jl_slot 30 rfl (fun k => S_ 1 r_ (T_ (ar_ (jq_retRow rfl rfl rfl rfl 0 rfl [2, 1] rfl (fun K h => h _ (.bn _ _ _ _ (by have := i.2; omega) (.nm _ _ j.2) (.nu _ _ (by have := k.2; omega))))))))))
end

inductive PcG (St : Int → Int → List Sm → Prop) : Nat → Int → Int → List Sm → Prop
  | nil (lab : Int) : PcG St 0 lab lab []
  | snoc (n : Nat) (lab lab1 lab2 : Int) (l l2 : List Sm) (h1 : PcG St n lab lab1 l) (h2 : St lab1 lab2 l2) : PcG St (n + 1) lab lab2 (l ++ l2)
/-- At most so many pieces, whose labels go from one to another. -/
def BlG (St : Int → Int → List Sm → Prop) (most : Int) (lab lab' : Int) (l : List Sm) : Prop := ∃ n : Nat, (n : Int) ≤ most ∧ PcG St n lab lab' l
abbrev E0 : ByteArray := ⟨#[]⟩
def LeafG (V U : List ByteArray) (lab lab' : Int) (l : List Sm) : Prop :=
  lab' = lab ∧ ((∃ s e, s ∈ V ∧ ExG V U 2 e ∧ l = [.mk 1 s [] [e] 0 0 [] []]) ∨ ∃ s e1 e2, s ∈ U ∧ ExG V U 1 e1 ∧ ExG V U 2 e2 ∧ l = [.mk 2 s [e1] [e2] 0 0 [] []])
def IfG (V U : List ByteArray) (St : Int → Int → List Sm → Prop) (lab lab' : Int) (l : List Sm) : Prop :=
  lab < 12 ∧ ∃ c l1 l2 lab1, ExG V U 2 c ∧ BlG St 2 (lab + 1) lab1 l1 ∧ (l2 = [] ∧ lab' = lab1 ∨ BlG St 2 lab1 lab' l2) ∧ l = [.mk 3 E0 [] [c] 0 (lab + 1) l1 l2]
def WhG (V U : List ByteArray) (St : Int → Int → List Sm → Prop) (lab lab' : Int) (l : List Sm) : Prop :=
  ∃ c mx l1, ExG V U 2 c ∧ (0 ≤ mx ∧ mx ≤ 5) ∧ BlG St 2 (lab + 1) lab' l1 ∧ l = [.mk 4 E0 [] [c] mx (lab + 1) l1 []]
def CtG (V : List ByteArray) (St : Int → Int → List Sm → Prop) (lab lab' : Int) (l : List Sm) : Prop :=
  ∃ v n op top mx l1 st, v ∈ V ∧ (0 ≤ n ∧ n ≤ 2) ∧ (0 ≤ op ∧ op ≤ 1) ∧ ((∃ t, (0 ≤ t ∧ t ≤ 5) ∧ top = .nu t) ∨ ∃ s ∈ V, top = .nm s) ∧ (0 ≤ mx ∧ mx ≤ 5) ∧ (1 ≤ st ∧ st ≤ 3) ∧ BlG St 2 (lab + 1) lab' l1 ∧
    l = [.mk 1 v [] [.nu n] 0 0 [] [], .mk 4 E0 [] [.bn (11 + op) (.nm v) top] mx (lab + 1) (l1 ++ [.mk 1 v [] [.bn 1 (.nm v) (.nu st)] 0 0 [] []]) []]
def LpG (V U : List ByteArray) (il : Int) (St : Int → Int → List Sm → Prop) (lab lab' : Int) (l : List Sm) : Prop := il < 2 ∧ lab < 12 ∧ (WhG V U St lab lab' l ∨ CtG V St lab lab' l)
def LkG (Sh : List Shd) (hs : ByteArray) (St : ByteArray → Int → Int → List Sm → Prop) (lab lab' : Int) (l : List Sm) : Prop := hs = E0 ∧ ∃ sh ∈ Sh, ∃ l1, BlG (St sh.2.2) 2 lab lab' l1 ∧ l = [.mk 5 sh.2.2 [] [] 0 0 l1 []]
/-- What one call makes, at a depth, within so many loops, with a resource held. -/
def StG (V A : List ByteArray) (Sh : List Shd) : Nat → Int → ByteArray → Int → Int → List Sm → Prop
  | 0, _, hs => LeafG V (usableF A Sh hs)
  | d + 1, il, hs => fun lab lab' l => LeafG V (usableF A Sh hs) lab lab' l ∨ IfG V (usableF A Sh hs) (StG V A Sh d il hs) lab lab' l ∨ LpG V (usableF A Sh hs) il (StG V A Sh d (il + 1) hs) lab lab' l ∨ LkG Sh hs (StG V A Sh d il) lab lab' l
theorem StG.leaf {V A : List ByteArray} {Sh : List Shd} {d : Nat} {il : Int} {hs : ByteArray} {lab lab' : Int} {l : List Sm} (h : LeafG V (usableF A Sh hs) lab lab' l) : StG V A Sh d il hs lab lab' l := by
  cases d with
  | zero => exact h
  | succ d => exact .inl h

/-- What turns in a maker. -/
structure Ms where
  lv : Value
  lab : Int
  st : Int
abbrev Ms.ok (m : Ms) : Prop := (0 ≤ m.lab ∧ m.lab ≤ 12) ∧ 0 ≤ m.st ∧ m.st ≤ 14
/-- What is given throughout. -/
structure Gv (L : List Int) (V A : List ByteArray) (Sh : List Shd) : Prop where
  hL : InR L
  hLn : L.length ≤ 400
  hV0 : 0 < V.length
  hV : V.length ≤ 100
  hA : A.length ≤ 100
  hSh : Sh.length ≤ 100
def StmtP (L : List Int) (bm bd : Nat) (V A : List ByteArray) (Sh : List Shd) (d : Nat) : Prop :=
  ∀ (m : Ms) (hs : ByteArray) (il : Int) (LS : List ByteArray) (x : Int), m.ok → 0 ≤ il → il ≤ 2 → LS.length ≤ il → x = d →
    Con Tryz.prog 100 [Ptr bm, In .i64 x] [Mk bm bd V m.lv A Sh hs m.lab m.st il, Dk bd L, .own m.lv 9 1 (LS.map Wrow)]
      (fun K => ∀ r : Ms × List Sm, (r.1.ok ∧ r.2.length ≤ 2 ∧ StG V A Sh d il hs m.lab r.1.lab r.2) → K (.cell (.list (r.2.map Sm.row))) [Mk bm bd V r.1.lv A Sh hs r.1.lab r.1.st il, Dk bd L, .own r.1.lv 9 1 (LS.map Wrow)])
def BlockP (L : List Int) (bm bd : Nat) (V A : List ByteArray) (Sh : List Shd) (d : Nat) : Prop :=
  ∀ (m : Ms) (hs : ByteArray) (il : Int) (LS : List ByteArray) (x most : Int), m.ok → 0 ≤ il → il ≤ 2 → LS.length ≤ il → x = d → 1 ≤ most → most ≤ 5 →
    ConN Tryz.prog 70 [Ptr bm, In .i64 x, In .i64 most] [Mk bm bd V m.lv A Sh hs m.lab m.st il, Dk bd L, .own m.lv 9 1 (LS.map Wrow)]
      (fun n K => ∀ r : Ms × Value × List Sm, (r.1.ok ∧ FreshN n r.2.1 ∧ (r.2.2.length : Int) ≤ 2 * most ∧ BlG (StG V A Sh d il hs) most m.lab r.1.lab r.2.2) →
        K (.cell (.val r.2.1)) [.own r.2.1 51 8 (r.2.2.map Sm.row), Mk bm bd V r.1.lv A Sh hs r.1.lab r.1.st il, Dk bd L, .own r.1.lv 9 1 (LS.map Wrow)])
section
variable {L : List Int} {bm bd : Nat} {V A : List ByteArray} {Sh : List Shd}

theorem block_step (gv : Gv L V A Sh) (d : Nat) (hstm : StmtP L bm bd V A Sh d) : BlockP L bm bd V A Sh d := by
  intro m hs0 il LS x most hm hil hil2 hLS hx hmo hmo5
  obtain ⟨lv0, lab0, st0⟩ := m
  refine con_introN Tryz.func70 rfl rfl (Nat.le_of_ble_eq_true rfl) (fun c hc => R_ (E_ r_ (T_ (R_ (E_ r_ (T_ (am_ (R_ (M_ r_ (N_ r_ (F_ r_ (L_ 0 r_ (M_ r_ (o_ r_ (bt_ [1] rfl rfl (Nx_c _ gv.hL gv.hLn g_) (fun k0 hk0 => o_ r_ (bj_ r_ r_ g_ ?_)))))))))))))))))
  refine E_ r_ (T_ (au_ (jc_ownNil 51 8 g_ ?_)))
  obtain ⟨n0, hn0⟩ : ∃ n : Nat, 1 + k0 = (n : Int) := ⟨(1 + k0).toNat, by omega⟩
  rw [hn0]
  refine jc_loop (ι := Nat × Ms × Value × List Sm) [0, 1, 2] (fun i => ((i.1 : Int) ≤ most ∧ i.2.1.ok) ∧ c.Fresh i.2.2.1 ∧ ((i.2.2.2.length : Int) + 2 * (i.1 : Int) ≤ 2 * most ∧ ∃ n : Nat, (n : Int) + (i.1 : Int) ≤ most ∧ PcG (StG V A Sh d il hs0) n lab0 i.2.1.lab i.2.2.2)) (fun i => [(7, .cell (.val i.2.2.1)), (8, In .i64 (i.1 : Int))])
    (fun i => [.own i.2.2.1 51 8 (i.2.2.2.map Sm.row), Mk bm bd V i.2.1.lv A Sh hs0 i.2.1.lab i.2.1.st il, Dk bd L, .own i.2.1.lv 9 1 (LS.map Wrow)]) (fun i => i.1) (n0, ⟨lv0, lab0, st0⟩, .slice none 0 0, []) [0, 1, 0, 0] ⟨⟨by dsimp only; omega, hm⟩, fresh_nil, by dsimp only; simp only [List.length_nil]; omega, 0, by dsimp only; omega, .nil _⟩ rfl ?_ ?_
  · (repeat (first | exact True.intro | refine ⟨rfl, ?_⟩))
  · rintro ⟨k, m, v, l⟩ ⟨⟨hk, hok⟩, hf, hl, np, hnp, hsh⟩
    obtain ⟨lv, lab, st⟩ := m
    obtain ⟨⟨hlab0, hlab1⟩, hst0, hst1⟩ := hok
    dsimp only at hk hlab0 hlab1 hst0 hst1 hf hl hnp hsh ⊢
    have fin : ∀ K : S → List Ch → Prop, (∀ r : Ms × Value × List Sm, (r.1.ok ∧ FreshN c.B.heap.size r.2.1 ∧ (r.2.2.length : Int) ≤ 2 * most ∧ BlG (StG V A Sh d il hs0) most lab0 r.1.lab r.2.2) →
        K (.cell (.val r.2.1)) [.own r.2.1 51 8 (r.2.2.map Sm.row), Mk bm bd V r.1.lv A Sh hs0 r.1.lab r.1.st il, Dk bd L, .own r.1.lv 9 1 (LS.map Wrow)]) →
        K (.cell (.val v)) [.own v 51 8 (l.map Sm.row), Mk bm bd V lv A Sh hs0 lab st il, Dk bd L, .own lv 9 1 (LS.map Wrow)] :=
      fun K h => h (⟨lv, lab, st⟩, v, l) ⟨⟨⟨hlab0, hlab1⟩, hst0, hst1⟩, hf, by dsimp only; omega, np, by omega, hsh⟩
    by_cases hk0 : (0 : Int) < (k : Int)
    · refine am_ (R_ (M_ r_ (o_ r_ (bz_ r_ r_ (M_ r_ (ah_ r_ u_ b_ (bd_ r_ (ah_ r_ u_ b_ (bh_ r_ (ah_ r_ u_ b_ (bf_ r_ r_ r_ b_ (ah_ r_ u_ b_ (bg_ 1 r_ r_ r_ r_ (ah_ r_ u_ b_ (bz_ r_ r_ (o_ r_ (bp_ r_ u_ r_ (T_ (jc_condd rfl (fun hst => ?_) (fun hst => ?_))))))))))))))))))))
      · refine as_ (al_ (B_ (R_ (M_ r_ (N_ r_ (F_ r_ (L_ 1 r_ (o_ r_ (cg_ r_ r_ g_ (N_ r_ (F_ r_ (W_ 1 r_ (T_ (an_ (M_ r_ (M_ r_ ?_))))))))))))))))
        refine M_ r_ (o_ r_ (bt_ [0, 1, 1] rfl rfl (hstm ⟨lv, lab, st - 1⟩ hs0 il LS x ⟨⟨hlab0, hlab1⟩, by dsimp only; omega⟩ hil hil2 hLS hx) (fun r hr => ?_)))
        obtain ⟨⟨lv2, lab2, st2⟩, l2⟩ := r
        obtain ⟨hok2, hl2, hsh2⟩ := hr
        dsimp only at hok2 hl2 hsh2 ⊢
        skip
        refine o_ r_ (ow_appendMF 3 rfl rfl rfl rfl rfl rfl rfl (fun a => by rw [Sm.row_eq]; rfl) (by show (_ + _) * 136 ≤ _; first | omega | (simp only [List.length_append]; omega)) (by first | omega | (simp only [List.length_append]; omega)) (fun v2 hv2 fv2 => E_ r_ (ak_ (ay_ (al_ (an_ (M_ r_ (o_ r_ (cg_ r_ r_ g_ (E_ r_ (ak_ ?_)))))))))))
        refine jq_again (i := (k, ⟨lv, lab, st⟩, v, l)) (k - 1, ⟨lv2, lab2, st2⟩, v2, l ++ l2) [0, 0, 0, 0] ⟨⟨by dsimp only; omega, hok2⟩, fv2 hf, by dsimp only; simp only [List.length_append]; omega, np + 1, by dsimp only; omega, .snoc _ _ _ _ _ _ hsh hsh2⟩ (by dsimp only; omega) rfl ?_
        rw [show (((k - 1 : Nat) : Int)) = (k : Int) - 1 by omega]
        (repeat (first | exact True.intro | refine ⟨rfl, ?_⟩))
      · exact av_ (ax_ (ax_ (ba_ (al_ (R_ (M_ r_ (E_ r_ (T_ (ar_ (jq_ret1 rfl rfl [0, 0, 0, 0] rfl fin))))))))))
    · refine am_ (R_ (M_ r_ (o_ r_ (bz_ r_ r_ (M_ r_ (ai_ r_ w_ b_ (ai_ r_ w_ b_ (ai_ r_ w_ b_ (ai_ r_ w_ b_ (ai_ r_ w_ b_ (o_ r_ (bv_ r_ w_ r_ (T_ (jc_cond rfl (fun h => by cases h) (fun _ => av_ (ax_ (ax_ ?_)))))))))))))))))
      exact ba_ (al_ (R_ (M_ r_ (E_ r_ (T_ (ar_ (jq_ret1 rfl rfl [0, 0, 0, 0] rfl fin)))))))
end
end Go.Proofs.YtlniadfidfmckaaGreatDoor
end

section
namespace Go.Proofs.YtlniadfidfmckaaGreatDoor
open Go.Vc
set_option maxHeartbeats 4000000
attribute [local irreducible] JL JC JQ OpWp Con ConN
attribute [local irreducible] StG

def LoopP (L : List Int) (bm bd : Nat) (V A : List ByteArray) (Sh : List Shd) (d : Nat) : Prop :=
  ∀ (m : Ms) (hs : ByteArray) (il : Int) (LS : List ByteArray) (x : Int), m.ok → m.lab ≤ 11 → 0 ≤ il → il ≤ 1 → LS.length ≤ il → x = (d + 1 : Nat) →
    Con Tryz.prog 124 [Ptr bm, In .i64 x] [Mk bm bd V m.lv A Sh hs m.lab m.st il, Dk bd L, .own m.lv 9 1 (LS.map Wrow)]
      (fun K => ∀ r : Ms × List Sm, (r.1.ok ∧ r.2.length ≤ 2 ∧ LpG V (usableF A Sh hs) il (StG V A Sh d (il + 1) hs) m.lab r.1.lab r.2) → K (.cell (.list (r.2.map Sm.row))) [Mk bm bd V r.1.lv A Sh hs r.1.lab r.1.st il, Dk bd L, .own r.1.lv 9 1 (LS.map Wrow)])

theorem sm_le (k : Int) (nm : ByteArray) (I V : List T) (mx lb : Int) (tt ee : List Sm) {cI cV cT cE : C} (hI : CLe cI (.list (I.map T.row))) (hV : CLe cV (.list (V.map T.row))) (hT : CLe cT (.list (tt.map Sm.row))) (hE : CLe cE (.list (ee.map Sm.row))) :
    RowLe [.val (.int .i64 k), .val (.string nm), cI, cV, .val (.int .i64 mx), .val (.int .i64 lb), cT, cE] (Sm.row (.mk k nm I V mx lb tt ee)) := by
  rw [Sm.row_eq]
  exact .cons (.refl _) (.cons (.refl _) (.cons hI (.cons hV (.cons (.refl _) (.cons (.refl _) (.cons hT (.cons hE .nil)))))))
theorem sm_le' (k : Int) (nm : ByteArray) (I V : List T) (mx lb : Int) (tt ee : List Sm) {cI cV cT cE : C} (hI : CLe cI (.list (I.map T.row))) (hV : CLe cV (.list (V.map T.row))) (hT : CLe cT (.list (tt.map Sm.row))) (hE : CLe cE (.list (ee.map Sm.row))) :
    RowLe [.val (.int .i64 k), .val (.string nm), cI, cV, .val (.int .i64 mx), .val (.int .i64 lb), cT, cE] (Sm.row' (.mk k nm I V mx lb tt ee)) := by
  rw [← Sm.row_eq]; exact sm_le k nm I V mx lb tt ee hI hV hT hE
theorem ex1_le (e : T) : CLe (.list [e.row']) (.list ([e].map T.row)) := CLe.eq (by simp [T.row_eq])
section
variable {L : List Int} {bm bd : Nat} {V A : List ByteArray} {Sh : List Shd}

theorem loop_step (gv : Gv L V A Sh) (d : Nat) (hd10 : d ≤ 10) (hblk : BlockP L bm bd V A Sh d) : LoopP L bm bd V A Sh d := by
  intro m hs0 il LS x hm hm11 hil hil2 hLS hx
  obtain ⟨lv0, lab0, st0⟩ := m
  obtain ⟨⟨hlab0, hlab1⟩, hst0, hst1⟩ := hm
  dsimp only at hlab0 hlab1 hst0 hst1 hm11 ⊢
  refine con_intro Tryz.func124 rfl rfl (Nat.le_of_ble_eq_true rfl) (fun c hc => R_ (E_ r_ (T_ (R_ (M_ r_ (N_ r_ (F_ r_ (L_ 0 r_ (o_ r_ (bj_ r_ r_ g_ (N_ r_ (F_ r_ (W_ 0 r_ (T_ (R_ (M_ r_ ?_))))))))))))))))
  refine N_ r_ (F_ r_ (L_ 0 r_ (o_ r_ (bj_ r_ r_ g_ (N_ r_ (F_ r_ (W_ 0 r_ (T_ (am_ (jc_anyB 11 (some 10) rfl k_ k_ (yM_ r_ (yN_ r_ (yF_ r_ (yL_ 0 r_ (yM_ r_ (yN_ r_ ?_))))))))))))))))
  refine yF_ r_ (yL_ 0 r_ (aa_ (fun c => ow_callA [1] r_ r_ (gNext_c L _ _ gv.hL gv.hLn g_)) (aa_ (fun c => ow_exarg 31 rfl (fun i => bu_ rfl rfl rfl rfl rfl ⟨rfl, .refl _⟩)) (af_ (ae_ (afin_some rfl rfl rfl (fun bS => jl_slot 32 rfl (fun mx => S_ 0 r_ (T_ (am_ (R_ (M_ r_ (N_ r_ (F_ r_ (L_ 1 r_ ?_)))))))))))))))
  refine o_ r_ (bt_ [2] rfl rfl (Nx_c _ gv.hL gv.hLn g_) (fun k0 hk0 => o_ r_ (bn_ r_ r_ (T_ (jc_condd rfl (fun h3 => ?_) (fun h3 => ?_))))))
  · refine R_ (M_ r_ (o_ r_ (bt_ [2, 0] rfl rfl (gcondition_c gv.hL gv.hLn gv.hV0 gv.hV gv.hA gv.hSh) (fun e1 he1 => o_ r_ (bq_ r_ r_ b_ r_ r_ b_ (F_ r_ (W_ 2 r_ (T_ (R_ (M_ r_ (M_ r_ (o_ r_ (cg_ r_ r_ g_ (o_ r_ (ow_callNP [1, 1, 1] rfl rfl (hblk ⟨lv0, lab0 + 1, st0⟩ hs0 (il + 1) LS (x - 1) 2 ⟨⟨by dsimp only; omega, by dsimp only; omega⟩, hst0, hst1⟩ g_ g_ g_ g_ g_ g_) (fun r n hn hr => ?_))))))))))))))))
    obtain ⟨⟨lv2, lab2, st2⟩, v2, l2⟩ := r
    obtain ⟨hok2, hf2, hl2, hsh2⟩ := hr
    dsimp only at hok2 hl2 hsh2 ⊢
    refine jl_freezeF 46 0 rfl rfl (hf2.mono hn) (F_ r_ (W_ 3 r_ (T_ (R_ (M_ r_ (N_ r_ (F_ r_ (L_ 1 r_ (o_ r_ (cg_ r_ r_ g_ (N_ r_ (F_ r_ (W_ 1 r_ (T_ (R_ (A_ 1 r_ ?_))))))))))))))))
    refine o_ r_ (bq_ r_ r_ b_ r_ r_ b_ (E_ r_ (T_ (ar_ (aw_ (jq_sle 4 rfl (SLe.cell (CLe.list (.cons (sm_le 4 ⟨#[]⟩ [] [e1] mx.1 (lab0 + 1) l2 [] .nil (ex1_le e1) (.refl _) .nil) .nil))) ?_))))))
    have fin : ∀ K : S → List Ch → Prop, (∀ r : Ms × List Sm, (r.1.ok ∧ r.2.length ≤ 2 ∧ LpG V (usableF A Sh hs0) il (StG V A Sh d (il + 1) hs0) lab0 r.1.lab r.2) → K (.cell (.list (r.2.map Sm.row))) [Mk bm bd V r.1.lv A Sh hs0 r.1.lab r.1.st il, Dk bd L, .own r.1.lv 9 1 (LS.map Wrow)]) →
        K (.cell (.list [Sm.row (.mk 4 ⟨#[]⟩ [] [e1] mx.1 (lab0 + 1) l2 [])])) [Mk bm bd V lv2 A Sh hs0 lab2 st2 (il + 1 - 1), Dk bd L, .own lv2 9 1 (LS.map Wrow)] := by
      intro K h
      rw [show il + 1 - 1 = il by omega]
      exact h (⟨lv2, lab2, st2⟩, [.mk 4 ⟨#[]⟩ [] [e1] mx.1 (lab0 + 1) l2 []]) ⟨hok2, by simp, by omega, by omega, .inl ⟨e1, mx.1, l2, he1, by have := mx.2; omega, hsh2, rfl⟩⟩
    exact jq_ret1 rfl rfl [0, 1, 1] rfl fin
  · refine as_ (al_ (R_ (M_ r_ (o_ r_ (bt_ [2, 0, 1] rfl rfl (gtarget_c gv.hL gv.hLn gv.hV0 gv.hV g_) (fun tg htg => E_ r_ (T_ (R_ (M_ r_ (N_ r_ (F_ r_ (L_ 0 r_ (o_ r_ (bt_ [1] rfl rfl (Nx_c _ gv.hL gv.hLn g_) (fun sp hsp => o_ r_ (bj_ r_ r_ g_ (E_ r_ (T_ ?_))))))))))))))))))
    refine R_ (M_ r_ (N_ r_ (F_ r_ (L_ 1 r_ (o_ r_ (bt_ [0] rfl rfl (Nx_c _ gv.hL gv.hLn g_) (fun tp htp => o_ r_ (bm_ r_ (gNum_c _) (o_ r_ (bl_ r_ r_ (fun bl => S_ 0 r_ (T_ (am_ (R_ (M_ r_ (N_ r_ (F_ r_ (L_ 2 r_ ?_))))))))))))))))))
    refine o_ r_ (bt_ [1] rfl rfl (Nx_c _ gv.hL gv.hLn g_) (fun k4 hk4 => o_ r_ (bn_ r_ r_ (T_ ?_))))
    refine jc_cut (ι := T) [0, 1, 5, 6, 7, 8] (fun top => (∃ t, (0 ≤ t ∧ t ≤ 5) ∧ top = .nu t) ∨ ∃ s ∈ V, top = .nm s) (fun _ => []) (fun e => [Mk bm bd V lv0 A Sh hs0 (lab0 + 1) st0 (il + 1), Dk bd L, .own lv0 9 1 (LS.map Wrow), .blk bS 51 [.val (.int .i64 4), .val (.string ⟨#[]⟩), .val (.slice none 0 0), .val (.slice none 0 0), .val (.int .i64 mx.1), .val (.int .i64 (lab0 + 1)), .val (.slice none 0 0), .val (.slice none 0 0)], .blk bl 53 (T.row' e)]) ?_ ?_
    · refine jc_condd rfl (fun h2 => ?_) (fun h2 => ?_)
      · refine an_ (M_ r_ (M_ r_ (N_ r_ (F_ r_ (L_ 2 r_ (o_ r_ (bt_ [2, 0] rfl rfl (gname_c gv.hL gv.hLn V gv.hV0 (by have := gv.hV; omega)) (fun nm hnm => o_ r_ (bm_ r_ (gName_c _) (S_ 2 r_ (ak_ (jq_cut (T.nm nm) [1, 1, 1, 1, 0] (.inr ⟨nm, hnm, rfl⟩) rfl ?_))))))))))))
        (repeat (first | exact True.intro | refine ⟨rfl, ?_⟩))
      · refine as_ (jq_cut (T.nu tp) [2, 0, 1, 1, 0] (.inl ⟨tp, by omega, rfl⟩) rfl ?_)
        (repeat (first | exact True.intro | refine ⟨rfl, ?_⟩))
    · intro e8 he8
      refine R_ (M_ r_ (M_ r_ (N_ r_ (F_ r_ (L_ 0 r_ (M_ r_ (o_ r_ (bq_ r_ r_ b_ r_ r_ b_ (o_ r_ (ow_append1F 2 (tg) rfl rfl rfl rfl rfl rfl rfl (fun _ => rfl) (by show (_ + _) * 16 ≤ _; first | omega | (simp only [List.length_append]; omega)) (by first | omega | (simp only [List.length_append]; omega)) (fun lv1 hlv1 flv1 => N_ r_ (F_ r_ (W_ 1 r_ (T_ (am_ (jc_anyB 12 none rfl k_ k_ (yM_ r_ ?_)))))))))))))))))
      refine yN_ r_ (yF_ r_ (yL_ 0 r_ (aa_ (fun c => ow_callA [2] r_ r_ (gNext_c L _ _ gv.hL gv.hLn g_)) (aa_ (fun c => ow_exarg 98 rfl (fun i => bj_ rfl rfl (by have := i.2; omega) ⟨rfl, .refl _⟩)) (yM_ r_ (aa_ (fun c => bm_ r_ (gName_c _) p_) (aa_ (fun c => bs_ 4 r_ r_ r_ r_ p_) (aa_ (fun c => ow_exarg 99 rfl (fun i => bm_ rfl (gBin_c _ _ _) ⟨rfl, .refl _⟩)) ?_))))))))
      refine aa_ (fun c => ow_exarg 103 rfl (fun i => bq_ rfl rfl b_ rfl rfl b_ ⟨rfl, .refl _⟩)) (yF_ r_ (ae_ (afin_none (jl_slot 104 rfl (fun op => W_ 3 r_ (T_ (R_ (M_ r_ (M_ r_ (o_ r_ (cg_ r_ r_ g_ ?_)))))))))))
      have con := hblk ⟨lv1, lab0 + 1, st0⟩ hs0 (il + 1) (LS ++ [tg]) (x - 1) 2 ⟨⟨by dsimp only; omega, by dsimp only; omega⟩, hst0, hst1⟩ (by omega) (by omega) (by simp only [List.length_append, List.length_cons, List.length_nil]; omega) (by omega) (by omega) (by omega)
      dsimp only at con
      refine o_ r_ (ow_callNP [1, 2, 1] rfl rfl (con) (fun r n hn hr => ?_))
      obtain ⟨⟨lv2, lab2, st2⟩, v2, l2⟩ := r
      obtain ⟨hok2, hf2, hl2, hsh2⟩ := hr
      dsimp only at hok2 hl2 hsh2 hf2 ⊢
      refine M_ r_ (M_ r_ (o_ r_ (bm_ r_ (gName_c _) (M_ r_ (o_ r_ (bm_ r_ (gNum_c _) (o_ r_ (bm_ r_ (gBin_c _ _ _) (o_ r_ (bq_ r_ r_ b_ r_ r_ b_ (o_ r_ (bu_ r_ r_ r_ r_ r_ (o_ r_ (bq_ r_ r_ b_ r_ r_ b_ (jl_sle 118 rfl (SLe.cell (CLe.list (.cons (sm_le 1 tg [] [.bn 1 (.nm tg) (.nu (1 + sp))] 0 0 [] [] .nil (ex1_le _) .nil .nil) .nil))) ?_)))))))))))))))
      refine o_ r_ (ow_append1F 0 ((.mk 1 tg [] [.bn 1 (.nm tg) (.nu (1 + sp))] 0 0 [] [])) rfl rfl rfl rfl rfl rfl rfl (fun a => by rw [Sm.row_eq]; rfl) (by show (_ + _) * 136 ≤ _; first | omega | (simp only [List.length_append]; omega)) (by first | omega | (simp only [List.length_append]; omega)) (fun v3 hv3 fv3 => jl_freezeF 119 0 rfl rfl (fv3 (hf2.mono hn)) (F_ r_ (W_ 3 r_ (T_ (am_ ?_))))))
      have eL : (List.map Wrow (LS ++ [tg])).length = LS.length + 1 := by simp
      refine jc_anyB 12 none rfl k_ k_ (yM_ r_ (yM_ r_ (yN_ r_ (yF_ r_ (yL_ 1 r_ (yM_ r_ (yN_ r_ (yF_ r_ (yL_ 1 r_ (aa_ (fun c => cw_ 3 r_ r_ (fun hlen => p_)) (aa_ (fun c => cg_ r_ r_ g_ p_) ?_)))))))))))
      (first | refine any_op (fun c => ow_trim 3 rfl rfl rfl (by omega) (by omega) ⟨rfl, .refl _⟩) ?_ | refine any_op (fun c => ow_trim 2 rfl rfl rfl (by omega) (by omega) ⟨rfl, .refl _⟩) ?_ | refine any_op (fun c => ow_trim 4 rfl rfl rfl (by omega) (by omega) ⟨rfl, .refl _⟩) ?_)
      refine ae_ ?_
      try refine afin_none ?_
      rw [show ((((List.map Wrow (LS ++ [tg])).length : Nat) : Int) - 1).toNat = LS.length by omega]
      (first | refine jl_trim 3 LS.length rfl (by omega) ?_ | refine jl_trim 2 LS.length rfl (by omega) ?_ | refine jl_trim 4 LS.length rfl (by omega) ?_)
      rw [show (List.map Wrow (LS ++ [tg])).take LS.length = List.map Wrow LS by rw [List.map_append, List.take_left' (by simp)]]
      generalize trimV lv2 LS.length = lv3
      refine N_ r_ (F_ r_ (W_ 2 r_ (T_ (R_ (M_ r_ (N_ r_ (F_ r_ (L_ 0 r_ (o_ r_ (cg_ r_ r_ g_ (N_ r_ (F_ r_ (W_ 0 r_ (T_ (am_ (ao_ r_ r_ k_ k_ ?_))))))))))))))))
      refine yM_ r_ (yM_ r_ (yN_ r_ (yF_ r_ (yL_ 0 r_ (aa_ (fun c => ow_callA [3] r_ r_ (gNext_c L _ _ gv.hL gv.hLn g_)) (aa_ (fun c => ow_exarg 147 rfl (fun i => bm_ rfl (gNum_c _) ⟨rfl, .refl _⟩)) (aa_ (fun c => ow_exarg 148 rfl (fun i => bq_ rfl rfl b_ rfl rfl b_ ⟨rfl, .refl _⟩)) (aa_ (fun c => ow_exarg 149 rfl (fun i => bu_ rfl rfl rfl rfl rfl ⟨rfl, .refl _⟩)) (aa_ (fun c => bs_ 2 r_ r_ r_ r_ p_) ?_)))))))))
      refine aa_ (fun c => ow_exarg 150 rfl (fun i => bq_ rfl rfl b_ rfl rfl b_ ⟨rfl, .refl _⟩)) (yE_ r_ (ae_ (al_ (ar_ (jq_slot 4 rfl (fun i => ?_))))))
      refine jq_sle 4 rfl (SLe.cell (CLe.list (.cons (sm_le 1 tg [] [.nu i.1] 0 0 [] [] .nil (ex1_le _) .nil .nil) (.cons (sm_le 4 ⟨#[]⟩ [] [.bn (11 + op.1) (.nm tg) e8] mx.1 (lab0 + 1) (l2 ++ [(.mk 1 tg [] [.bn 1 (.nm tg) (.nu (1 + sp))] 0 0 [] [])]) [] .nil (ex1_le _) (.refl _) .nil) .nil)))) ?_
      have fin : ∀ K : S → List Ch → Prop, (∀ r : Ms × List Sm, (r.1.ok ∧ r.2.length ≤ 2 ∧ LpG V (usableF A Sh hs0) il (StG V A Sh d (il + 1) hs0) lab0 r.1.lab r.2) → K (.cell (.list (r.2.map Sm.row))) [Mk bm bd V r.1.lv A Sh hs0 r.1.lab r.1.st il, Dk bd L, .own r.1.lv 9 1 (LS.map Wrow)]) →
          K (.cell (.list [Sm.row (.mk 1 tg [] [.nu i.1] 0 0 [] []), Sm.row (.mk 4 ⟨#[]⟩ [] [.bn (11 + op.1) (.nm tg) e8] mx.1 (lab0 + 1) (l2 ++ [.mk 1 tg [] [.bn 1 (.nm tg) (.nu (1 + sp))] 0 0 [] []]) [])])) [Mk bm bd V lv3 A Sh hs0 lab2 st2 (il + 1 - 1), Dk bd L, .own lv3 9 1 (LS.map Wrow)] := by
        intro K h
        rw [show il + 1 - 1 = il by omega]
        exact h (⟨lv3, lab2, st2⟩, [.mk 1 tg [] [.nu i.1] 0 0 [] [], .mk 4 ⟨#[]⟩ [] [.bn (11 + op.1) (.nm tg) e8] mx.1 (lab0 + 1) (l2 ++ [.mk 1 tg [] [.bn 1 (.nm tg) (.nu (1 + sp))] 0 0 [] []]) []])
          ⟨hok2, by simp, by clear he8; omega, by clear he8; omega, .inr ⟨tg, i.1, op.1, e8, mx.1, l2, 1 + sp, htg, by clear he8; have := i.2; omega, by clear he8; have := op.2; omega, he8, by clear he8; have := mx.2; omega, by clear he8 hok2; omega, hsh2, rfl⟩⟩
      first | exact jq_ret1 rfl rfl [0, 1, 0] rfl fin | exact jq_ret1 rfl rfl [0, 2, 0] rfl fin | exact jq_ret1 rfl rfl [0, 3, 0] rfl fin | exact jq_ret1 rfl rfl [0, 4, 0] rfl fin
end
end Go.Proofs.YtlniadfidfmckaaGreatDoor
end
