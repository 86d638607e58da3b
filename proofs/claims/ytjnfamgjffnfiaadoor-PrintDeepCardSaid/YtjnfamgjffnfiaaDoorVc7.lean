import Derived.Test.YtjnfamgjffnfiaaDoorVc6
namespace Go.Vc
open Go.RowKit

section
variable {P : Program} [Gl P] {nt : Nat} {c : Cx P nt} {H : List Ch}

def isAlloc (o : Oper) : Bool := match o.op, o.guard with
  | .alloc _, none => true
  | _, _ => false

def push (o : Oper) (s : S) (env : Env) : Env := if isAlloc o then env else match o.dst with
  | some d => (d, s) :: env
  | none => env

/-- One operation of a region whose order is drawn: it sees no more than what it looks at, and leaves what is owned as it was. (One that makes a block is met at the end.) -/
def OpOk (P : Program) [Gl P] (nt : Nat) (ops : Array Oper) (H : List Ch) (env : Env) (o : Oper) (s : S) : Prop :=
  isAlloc o = true ∨ match o.guard with
  | none => ∀ c : Cx P nt, OpWp c o (env.only (o.looksAt ops)) H (fun s' H' => s' = s ∧ H'.Perm H)
  | some (j, want) => (∃ b, env.ev (((ops[j]?).bind (·.dst)).elim (.const .nilFunc) .tmp) = some (Bl b) ∧ (b = want → ∀ c : Cx P nt, OpWp c o (env.only (o.looksAt ops)) H (fun s' H' => s' = s ∧ H'.Perm H)) ∧ (b ≠ want → s = .tup [])) ∨
      (env.ev (((ops[j]?).bind (·.dst)).elim (.const .nilFunc) .tmp) = some (.tup []) ∧ s = .tup [])

def AnyOk (P : Program) [Gl P] (nt : Nat) (ops : Array Oper) (H : List Ch) (K : Env → Prop) : List Oper → Env → Prop
  | [], env => K env
  | o :: rest, env => ∃ s, OpOk P nt ops H env o s ∧ AnyOk P nt ops H K rest (push o s env)

theorem any_nil {ops : Array Oper} {K : Env → Prop} {env : Env} (h : K env) : AnyOk P nt ops H K [] env := h
theorem any_alloc {ops : Array Oper} {K : Env → Prop} {env : Env} {l : List Oper} {d : Option Nat} {e ty : TypeId} {pos : String} {af : Array Edge} (h : AnyOk P nt ops H K l env) : AnyOk P nt ops H K (⟨d, .alloc e, ty, pos, af, none⟩ :: l) env := ⟨.void, .inl rfl, h⟩
theorem push_some {d : Nat} {op : Op} {ty : TypeId} {pos : String} {af : Array Edge} {g : Option (Nat × Bool)} {s : S} {env : Env} (h : isAlloc ⟨some d, op, ty, pos, af, g⟩ = false) : push ⟨some d, op, ty, pos, af, g⟩ s env = (d, s) :: env := by
  unfold push; rw [h]; rfl
theorem any_op {ops : Array Oper} {K : Env → Prop} {env : Env} {l : List Oper} {d : Nat} {op : Op} {ty : TypeId} {pos : String} {af : Array Edge} {s : S}
    (h : ∀ c : Cx P nt, OpWp c ⟨some d, op, ty, pos, af, none⟩ (env.only (Oper.looksAt ops ⟨some d, op, ty, pos, af, none⟩)) H (fun s' H' => s' = s ∧ H'.Perm H)) (hr : AnyOk P nt ops H K l ((d, s) :: env)) (ha : isAlloc ⟨some d, op, ty, pos, af, none⟩ = false := by rfl) : AnyOk P nt ops H K (⟨some d, op, ty, pos, af, none⟩ :: l) env :=
  ⟨s, .inr h, by rw [push_some ha]; exact hr⟩
theorem any_guardY {b : Bool} {ops : Array Oper} {K : Env → Prop} {env : Env} {l : List Oper} {d j : Nat} {want : Bool} {op : Op} {ty : TypeId} {pos : String} {af : Array Edge} {s : S}
    (hg : env.ev (((ops[j]?).bind (·.dst)).elim (.const .nilFunc) .tmp) = some (Bl b)) (hb : b = want)
    (h : ∀ c : Cx P nt, OpWp c ⟨some d, op, ty, pos, af, some (j, want)⟩ (env.only (Oper.looksAt ops ⟨some d, op, ty, pos, af, some (j, want)⟩)) H (fun s' H' => s' = s ∧ H'.Perm H)) (hr : AnyOk P nt ops H K l ((d, s) :: env)) (ha : isAlloc ⟨some d, op, ty, pos, af, some (j, want)⟩ = false := by rfl) : AnyOk P nt ops H K (⟨some d, op, ty, pos, af, some (j, want)⟩ :: l) env :=
  ⟨s, .inr (.inl ⟨b, hg, fun _ => h, fun h => absurd hb h⟩), by rw [push_some ha]; exact hr⟩
theorem any_guardN {b : Bool} {ops : Array Oper} {K : Env → Prop} {env : Env} {l : List Oper} {d j : Nat} {want : Bool} {op : Op} {ty : TypeId} {pos : String} {af : Array Edge}
    (hg : env.ev (((ops[j]?).bind (·.dst)).elim (.const .nilFunc) .tmp) = some (Bl b)) (hb : b = !want)
    (hr : AnyOk P nt ops H K l ((d, .tup []) :: env)) (ha : isAlloc ⟨some d, op, ty, pos, af, some (j, want)⟩ = false := by rfl) : AnyOk P nt ops H K (⟨some d, op, ty, pos, af, some (j, want)⟩ :: l) env :=
  ⟨.tup [], .inr (.inl ⟨b, hg, fun h => by subst hb; cases want <;> simp at h, fun _ => rfl⟩), by rw [push_some ha]; exact hr⟩
/-- What it would wait for was passed over. -/
theorem any_guardU {ops : Array Oper} {K : Env → Prop} {env : Env} {l : List Oper} {d j : Nat} {want : Bool} {op : Op} {ty : TypeId} {pos : String} {af : Array Edge}
    (hg : env.ev (((ops[j]?).bind (·.dst)).elim (.const .nilFunc) .tmp) = some (.tup []))
    (hr : AnyOk P nt ops H K l ((d, .tup []) :: env)) (ha : isAlloc ⟨some d, op, ty, pos, af, some (j, want)⟩ = false := by rfl) : AnyOk P nt ops H K (⟨some d, op, ty, pos, af, some (j, want)⟩ :: l) env :=
  ⟨.tup [], .inr (.inr ⟨hg, rfl⟩), by rw [push_some ha]; exact hr⟩

/-- A guarded operation, in order. -/
theorem jl_guard {ops : Array Oper} {Q : Exit → Act → World → Prop} {env : Env} {l : List Oper} {d j : Nat} {want b : Bool} {op : Op} {ty : TypeId} {pos : String} {af : Array Edge}
    (hg : env.ev (((ops[j]?).bind (·.dst)).elim (.const .nilFunc) .tmp) = some (Bl b)) (hd : d < nt)
    (h : b = want → OpWp c ⟨some d, op, ty, pos, af, some (j, want)⟩ env H (fun s H' => JL c ops Q l ((d, s) :: env) H')) (hr : b ≠ want → JL c ops Q l ((d, .tup []) :: env) H) : JL c ops Q (⟨some d, op, ty, pos, af, some (j, want)⟩ :: l) env H := by
  intro a w hs
  refine wpList_step fun K hK => ?_
  have hval : yielded ops a.tmps j = some b := by
    cases hdd : (ops[j]?).bind (·.dst) with
    | none => rw [hdd] at hg; simp [Env.ev] at hg
    | some dj =>
      rw [hdd] at hg
      have hv : a.tmps.getD dj undef = .bool b := (hs.slots dj _ hg).1
      have hdlt : dj < a.tmps.size := by
        rcases Nat.lt_or_ge dj a.tmps.size with h' | h'
        · exact h'
        · rw [Array.getD_eq_getD_getElem?, Array.getElem?_eq_none h'] at hv
          cases hv
      rw [Array.getD_eq_getD_getElem?, Array.getElem?_eq_getElem hdlt] at hv
      unfold yielded
      simp only [Option.getD_some] at hv
      simp [hdd, hdlt, hv]
  by_cases hb : b = want
  · rw [if_pos (by simp [Region.wanted, hval, hb])]
    refine h hb a w hs _ _ ?_
    intro s H' v w' hJ hw' hv hk
    exact hK _ _ (hJ _ _ (hs.next hd hw' hv hk))
  · rw [if_neg (by simp [Region.wanted, hval, hb])]
    exact hK _ _ (hr hb _ _ (hs.next hd hs.heap ⟨[], rfl, rfl⟩ (fun _ _ h => h)))
/-- It comes up. -/
theorem jl_guardY {ops : Array Oper} {Q : Exit → Act → World → Prop} {env : Env} {l : List Oper} {d j : Nat} {want b : Bool} {op : Op} {ty : TypeId} {pos : String} {af : Array Edge}
    (hg : env.ev (((ops[j]?).bind (·.dst)).elim (.const .nilFunc) .tmp) = some (Bl b)) (hb : b = want) (hd : d < nt)
    (h : OpWp c ⟨some d, op, ty, pos, af, some (j, want)⟩ env H (fun s H' => JL c ops Q l ((d, s) :: env) H')) : JL c ops Q (⟨some d, op, ty, pos, af, some (j, want)⟩ :: l) env H :=
  jl_guard hg hd (fun _ => h) (fun h => absurd hb h)
/-- It is passed over. -/
theorem jl_guardN {ops : Array Oper} {Q : Exit → Act → World → Prop} {env : Env} {l : List Oper} {d j : Nat} {want b : Bool} {op : Op} {ty : TypeId} {pos : String} {af : Array Edge}
    (hg : env.ev (((ops[j]?).bind (·.dst)).elim (.const .nilFunc) .tmp) = some (Bl b)) (hb : b = !want) (hd : d < nt)
    (hr : JL c ops Q l ((d, .tup []) :: env) H) : JL c ops Q (⟨some d, op, ty, pos, af, some (j, want)⟩ :: l) env H :=
  jl_guard hg hd (fun h => by subst hb; cases want <;> simp at h) (fun _ => hr)
/-- It is passed over, as is what it would wait for. -/
theorem jl_guardU {ops : Array Oper} {Q : Exit → Act → World → Prop} {env : Env} {l : List Oper} {d j : Nat} {want : Bool} {op : Op} {ty : TypeId} {pos : String} {af : Array Edge}
    (hg : env.ev (((ops[j]?).bind (·.dst)).elim (.const .nilFunc) .tmp) = some (.tup [])) (hd : d < nt)
    (hr : JL c ops Q l ((d, .tup []) :: env) H) : JL c ops Q (⟨some d, op, ty, pos, af, some (j, want)⟩ :: l) env H := by
  intro a w hs
  refine wpList_step fun K hK => ?_
  have hval : yielded ops a.tmps j = none := by
    cases hdd : (ops[j]?).bind (·.dst) with
    | none => unfold yielded; simp [hdd]
    | some dj =>
      rw [hdd] at hg
      obtain ⟨vs, hv, hvs⟩ := hs.slots dj _ hg
      simp only [SOks] at hvs
      subst hvs
      unfold yielded
      rw [hdd]
      simp only [Option.bind_some]
      rw [Array.getD_eq_getD_getElem?] at hv
      cases h : a.tmps[dj]? with
      | none => rfl
      | some u =>
        rw [h] at hv
        simp only [Option.getD_some] at hv
        subst hv
        rfl
  rw [if_neg (by simp [Region.wanted, hval])]
  exact hK _ _ (hr _ _ (hs.next hd hs.heap ⟨[], rfl, rfl⟩ (fun _ _ h => h)))

def lexEnv : List Oper → List S → Env → Env
  | o :: l, s :: ss, env => lexEnv l ss (push o s env)
  | _, _, env => env

theorem any_extract {ops : Array Oper} {K : Env → Prop} : ∀ (l : List Oper) (env : Env), AnyOk P nt ops H K l env →
    ∃ ss : List S, ss.length = l.length ∧ (∀ i o s, l[i]? = some o → ss[i]? = some s → OpOk P nt ops H (lexEnv (l.take i) (ss.take i) env) o s) ∧ K (lexEnv l ss env)
  | [], env, h => ⟨[], rfl, by simp, h⟩
  | o :: l, env, ⟨s, h1, h2⟩ => by
    obtain ⟨ss, g1, g2, g3⟩ := any_extract l _ h2
    refine ⟨s :: ss, by simp [g1], ?_, g3⟩
    intro i o' s' hi hs
    cases i with
    | zero => simp at hi hs; subst hi; subst hs; exact h1
    | succ i => exact g2 i o' s' (by simpa using hi) (by simpa using hs)

theorem push_lookup {o : Oper} {s s' : S} {env : Env} {t : Nat} (h : (push o s env).lookup t = some s') : (isAlloc o = false ∧ o.dst = some t ∧ s' = s) ∨ ((isAlloc o = true ∨ o.dst ≠ some t) ∧ env.lookup t = some s') := by
  unfold push at h
  split at h
  · rename_i ha; exact .inr ⟨.inl ha, h⟩
  · rename_i ha
    split at h
    · rename_i d hd
      rcases lookup_cons h with ⟨rfl, rfl⟩ | ⟨hne, h⟩
      · exact .inl ⟨by simpa using ha, hd, rfl⟩
      · exact .inr ⟨.inr (by rw [hd]; simpa using fun e => hne e.symm), h⟩
    · rename_i hd
      exact .inr ⟨.inr (by rw [hd]; simp), h⟩

theorem lex_lookup : ∀ (l : List Oper) (ss : List S) (env : Env) (t : Nat) (s : S), ss.length = l.length → (lexEnv l ss env).lookup t = some s →
    (∃ (j : Nat) (o : Oper), l[j]? = some o ∧ isAlloc o = false ∧ o.dst = some t ∧ ss[j]? = some s) ∨ ((∀ (j : Nat) (o : Oper), l[j]? = some o → isAlloc o = true ∨ o.dst ≠ some t) ∧ env.lookup t = some s)
  | [], _, env, t, s, _, h => .inr ⟨by simp, h⟩
  | o :: l, [], env, t, s, hl, _ => by simp at hl
  | o :: l, s0 :: ss, env, t, s, hl, h => by
    rcases lex_lookup l ss _ t s (by simpa using hl) h with ⟨j, o', h1, h2, h3, h4⟩ | ⟨h1, h2⟩
    · exact .inl ⟨j + 1, o', by simpa using h1, h2, h3, by simpa using h4⟩
    · rcases push_lookup h2 with ⟨h3, h4, rfl⟩ | ⟨h3, h4⟩
      · exact .inl ⟨0, o, rfl, h3, h4, rfl⟩
      · refine .inr ⟨fun j o' hj => ?_, h4⟩
        cases j with
        | zero => simp at hj; subst hj; exact h3
        | succ j => exact h1 j o' (by simpa using hj)

def hasEdge (o : Oper) (j : Nat) : Bool := o.after.toList.any fun e => Region.binds .any e && e.on == j

/-- What an operation waits for, and what that waits for. -/
def direct (ops : Array Oper) (i : Nat) : List Nat := ((ops[i]?).map fun o => (o.after.toList.filter (Region.binds .any)).map (·.on)).getD []
def closure (ops : Array Oper) : Nat → List Nat → List Nat
  | 0, l => l
  | n + 1, l => closure ops n ((l ++ l.flatMap (direct ops)).eraseDups)

/-- What can be seen of a region: its first m operations come up in whatever order, the others behind all of them, one after the other; of the first ones number al makes a block that none of them looks at. -/
def anyChk (ops : Array Oper) (m : Nat) (al : Option Nat) (pre : List Nat := []) : Bool :=
  (decide (m ≤ ops.size) && al.all (fun i => decide (i < m))) && ops.toList.zipIdx.all fun (o, i) =>
    (o.after.toList.all fun e => !Region.binds .any e || decide (e.on < i)) &&
    if i < m then
      (isAlloc o == (al == some i)) &&
      ops.toList.zipIdx.all fun (o', j) => decide (m ≤ j) || i == j ||
        ((match o.dst with | some d => o'.dst != some d | none => true) &&
         (match o'.dst with | some d => !(o.looksAt ops).contains d || (!isAlloc o' && if j < i then hasEdge o j else hasEdge o' i) | none => true))
    else ((List.range m).all fun j => pre.contains j || hasEdge o j || (closure ops 12 (direct ops i)).contains j) && (i == m || hasEdge o (i - 1))

theorem chk_after {ops : Array Oper} {m : Nat} {al : Option Nat} {pre : List Nat} (h : anyChk ops m al pre = true) {i : Nat} {o : Oper} (hi : ops[i]? = some o) : ∀ e ∈ o.after, Region.binds .any e = true → e.on < i := by
  unfold anyChk at h
  rw [Bool.and_eq_true] at h
  have h1 := List.all_eq_true.1 h.2 (o, i) (by rw [List.mem_zipIdx_iff_getElem?]; simpa using hi)
  simp only [Bool.and_eq_true] at h1
  intro e he hb
  have := List.all_eq_true.1 h1.1 e (by simpa using he)
  simpa [hb] using this
theorem chk_lateB {ops : Array Oper} {m : Nat} {al : Option Nat} {pre : List Nat} (h : anyChk ops m al pre = true) {i : Nat} {o : Oper} (hi : ops[i]? = some o) (hm : m ≤ i) : (∀ j, j < m → j ∈ pre ∨ hasEdge o j = true ∨ j ∈ closure ops 12 (direct ops i)) ∧ (m < i → hasEdge o (i - 1) = true) := by
  unfold anyChk at h
  rw [Bool.and_eq_true] at h
  have h1 := List.all_eq_true.1 h.2 (o, i) (by rw [List.mem_zipIdx_iff_getElem?]; simpa using hi)
  simp only [Bool.and_eq_true] at h1
  have h2 := h1.2
  rw [if_neg (by omega), Bool.and_eq_true, Bool.or_eq_true] at h2
  refine ⟨fun j hj => by
    have h3 := List.all_eq_true.1 h2.1 j (List.mem_range.2 hj)
    simp only [Bool.or_eq_true, List.contains_iff_mem] at h3
    exact h3.elim (fun h => h.elim .inl (fun h => .inr (.inl h))) (fun h => .inr (.inr h)), fun hlt => ?_⟩
  rcases h2.2 with h3 | h3
  · simp at h3; omega
  · exact h3
theorem chk_late {ops : Array Oper} {m : Nat} {al : Option Nat} {pre : List Nat} (h : anyChk ops m al pre = true) {i : Nat} {o : Oper} (hi : ops[i]? = some o) (hm : m ≤ i) : ∀ j, j < m → j ∈ pre ∨ hasEdge o j = true ∨ j ∈ closure ops 12 (direct ops i) := (chk_lateB h hi hm).1
theorem chk_al {ops : Array Oper} {m : Nat} {al : Option Nat} {pre : List Nat} (h : anyChk ops m al pre = true) {i : Nat} {o : Oper} (hi : ops[i]? = some o) (hm : i < m) : isAlloc o = true ↔ al = some i := by
  unfold anyChk at h
  rw [Bool.and_eq_true] at h
  have h1 := List.all_eq_true.1 h.2 (o, i) (by rw [List.mem_zipIdx_iff_getElem?]; simpa using hi)
  simp only [Bool.and_eq_true] at h1
  have h2 := h1.2
  rw [if_pos hm] at h2
  simp only [Bool.and_eq_true, beq_iff_eq] at h2
  rw [h2.1]
  simp
theorem chk_pair {ops : Array Oper} {m : Nat} {al : Option Nat} {pre : List Nat} (h : anyChk ops m al pre = true) {i j : Nat} {o o' : Oper} (hi : ops[i]? = some o) (hm : i < m) (hj : ops[j]? = some o') (hmj : j < m) (hne : i ≠ j) :
    (∀ d, o.dst = some d → o'.dst ≠ some d) ∧ (∀ d, o'.dst = some d → d ∈ o.looksAt ops → isAlloc o' = false ∧ if j < i then hasEdge o j = true else hasEdge o' i = true) := by
  unfold anyChk at h
  rw [Bool.and_eq_true] at h
  have h1 := List.all_eq_true.1 h.2 (o, i) (by rw [List.mem_zipIdx_iff_getElem?]; simpa using hi)
  simp only [Bool.and_eq_true] at h1
  have h2 := h1.2
  rw [if_pos hm] at h2
  simp only [Bool.and_eq_true] at h2
  have h3 := List.all_eq_true.1 h2.2 (o', j) (by rw [List.mem_zipIdx_iff_getElem?]; simpa using hj)
  have hne' : (i == j) = false := by simpa using hne
  have hmj' : decide (m ≤ j) = false := by simpa using hmj
  simp only [hne', hmj', Bool.false_or, Bool.and_eq_true] at h3
  obtain ⟨h3, h4⟩ := h3
  refine ⟨fun d hd => ?_, fun d hd hmm => ?_⟩
  · simp only [hd] at h3; simpa using h3
  · simp only [hd] at h4
    have hc : (o.looksAt ops).contains d = true := by simpa using hmm
    simp only [hc, Bool.not_true, Bool.false_or, Bool.and_eq_true, Bool.not_eq_true'] at h4
    refine ⟨h4.1, ?_⟩
    have h5 := h4.2
    split at h5 <;> rename_i hlt
    · rw [if_pos hlt]; exact h5
    · rw [if_neg hlt]; exact h5

theorem only_lookup {env : Env} {ks : List Nat} {t : Nat} {s : S} (h : (env.only ks).lookup t = some s) : t ∈ ks ∧ env.lookup t = some s := by
  induction ks with
  | nil => simp [Env.only] at h
  | cons k ks ih =>
    unfold Env.only at h
    rw [List.filterMap_cons] at h
    cases hk : env.lookup k with
    | none =>
      simp only [hk, Option.map_none] at h
      obtain ⟨h1, h2⟩ := ih h
      exact ⟨List.mem_cons_of_mem _ h1, h2⟩
    | some s0 =>
      simp only [hk, Option.map_some] at h
      rcases lookup_cons h with ⟨rfl, rfl⟩ | ⟨_, h⟩
      · exact ⟨by simp, hk⟩
      · obtain ⟨h1, h2⟩ := ih h
        exact ⟨List.mem_cons_of_mem _ h1, h2⟩

theorem edge_spec {o : Oper} {j : Nat} (h : hasEdge o j = true) : ∃ e ∈ o.after, Region.binds .any e = true ∧ e.on = j := by
  obtain ⟨e, h1, h2⟩ := List.any_eq_true.1 h
  simp only [Bool.and_eq_true, beq_iff_eq] at h2
  exact ⟨e, by simpa using h1, h2⟩

theorem direct_done {ops : Array Oper} {done : Array Bool} (hclosed : ∀ j o, ops[j]? = some o → done.getD j true = true → ∀ e ∈ o.after, Region.binds .any e = true → done.getD e.on true = true) {i : Nat} (hi : done.getD i true = true) : ∀ j ∈ direct ops i, done.getD j true = true := by
  intro j hj
  unfold direct at hj
  cases ho : ops[i]? with
  | none => simp [ho] at hj
  | some o =>
    simp only [ho, Option.map_some, Option.getD_some, List.mem_map, List.mem_filter] at hj
    obtain ⟨e, ⟨he, hb⟩, rfl⟩ := hj
    exact hclosed i o ho hi e (by simpa using he) hb
theorem closure_done {ops : Array Oper} {done : Array Bool} (hclosed : ∀ j o, ops[j]? = some o → done.getD j true = true → ∀ e ∈ o.after, Region.binds .any e = true → done.getD e.on true = true) : ∀ (n : Nat) (l : List Nat), (∀ j ∈ l, done.getD j true = true) → ∀ j ∈ closure ops n l, done.getD j true = true
  | 0, l, h, j, hj => h j hj
  | n + 1, l, h, j, hj => closure_done hclosed n _ (fun k hk => by
      rw [List.mem_eraseDups] at hk
      rcases List.mem_append.1 hk with hk | hk
      · exact h k hk
      · obtain ⟨i, hi, hk⟩ := List.mem_flatMap.1 hk
        exact direct_done hclosed (h i hi) k hk) j hj

theorem getD_set_self {done : Array Bool} {i : Nat} : (done.setIfInBounds i true).getD i true = true := by
  rw [Array.getD_eq_getD_getElem?, Array.getElem?_setIfInBounds]
  by_cases h : i < done.size <;> simp [h]
theorem getD_set_other {done : Array Bool} {i j : Nat} (h : j ≠ i) : (done.setIfInBounds i true).getD j true = done.getD j true := by
  rw [Array.getD_eq_getD_getElem?, Array.getElem?_setIfInBounds, if_neg (by omega), ← Array.getD_eq_getD_getElem?]

theorem mem_ready' {md : Region.Mode} {ops : Array Oper} {listed : Array Bool} {i : Nat} : i ∈ Region.ready md ops listed ↔ listed.getD i true = false ∧ ∃ o, ops[i]? = some o ∧ ∀ e ∈ o.after, Region.binds md e = true → listed.getD e.on false = true := by
  unfold Region.ready
  rw [List.mem_filter, List.mem_range]
  constructor
  · rintro ⟨h1, h2⟩
    simp only [Bool.and_eq_true, Bool.not_eq_true'] at h2
    refine ⟨h2.1, ops[i], by simp [h1], ?_⟩
    have h3 := h2.2
    rw [Array.getElem?_eq_getElem h1] at h3
    simp only [Option.map_some, Option.getD_some] at h3
    intro e he hb
    have := Array.all_eq_true'.1 h3 e he
    simpa [hb] using this
  · rintro ⟨h1, o, h2, h3⟩
    refine ⟨(Array.getElem?_eq_some_iff.1 h2).1, ?_⟩
    rw [h1, h2]
    simp only [Bool.not_false, Bool.true_and, Option.map_some, Option.getD_some]
    rw [Array.all_eq_true']
    intro e he
    cases hb : Region.binds md e with
    | false => simp
    | true => simp [h3 e he hb]

theorem tail_done {done : Array Bool} {i : Nat} {b : Bool} (h : done.getD i false = true) : done.getD i b = true := by
  rw [Array.getD_eq_getD_getElem?] at h ⊢
  by_cases hlt : i < done.size
  · rw [Array.getElem?_eq_getElem hlt] at h ⊢; exact h
  · rw [Array.getElem?_eq_none (by omega)] at h; cases h

theorem stw_drew {w : World} (h : StW c H w) : StW c H { w with drawn := w.drawn + 1 } ∧ ∀ s v, SOk w (c.av H) s v → SOk { w with drawn := w.drawn + 1 } (c.av H) s v := by
  have := StW.step (H1 := []) (H1' := []) (Hr := H) (w' := { w with drawn := w.drawn + 1 }) h ⟨rfl, rfl, rfl, Nat.le_refl _, fun _ _ _ => rfl⟩ (by simp [hb]) (by simp [hb]) (by simp)
  exact this

/-- What the region has made so far. -/
def aCh (e : TypeId) (row : List C) : Option Nat → List Ch
  | some b => [.blk b e row]
  | none => []

/-- What holds when some of the first operations have come up. -/
structure AInv (c : Cx P nt) (ops : Array Oper) (H : List Ch) (env : Env) (ss : List S) (m : Nat) (al : Option Nat) (e : TypeId) (row : List C) (done : Array Bool) (ob : Option Nat) (a : Act) (w : World) : Prop where
  size : a.tmps.size = nt
  defers : a.defers = []
  heap : StW c (aCh e row ob ++ H) w
  dsize : done.size = ops.size
  late : ∀ k, m ≤ k → k < ops.size → done.getD k true = false
  made : ∀ i o d, al = some i → ops[i]? = some o → o.dst = some d → (done.getD i true = true → ∃ b, ob = some b ∧ a.tmps.getD d undef = .pointer (some ⟨b, 0, none⟩)) ∧ (done.getD i true = false → ob = none)
  none : al = none → ob = none
  old : ∀ t s, (∀ j o, ops[j]? = some o → o.dst = some t → done.getD j true = false) → env.lookup t = some s → SOk w (c.av (aCh e row ob ++ H)) s (a.tmps.getD t undef)
  new : ∀ (j : Nat) o t s, ops[j]? = some o → isAlloc o = false → o.dst = some t → ss[j]? = some s → done.getD j true = true → SOk w (c.av (aCh e row ob ++ H)) s (a.tmps.getD t undef)

section inv
variable {ops : Array Oper} {env : Env} {ss : List S} {m : Nat} {al : Option Nat} {e : TypeId} {row : List C} {done : Array Bool} {ob : Option Nat} {a : Act} {w : World} {pre : List Nat}

theorem a_inv_get (hc : anyChk ops m al pre = true) (hl : ss.length = m) (h : AInv c ops H env ss m al e row done ob a w) {i : Nat} {o : Oper} (hi : ops[i]? = some o) (him : i < m) (hnd : done.getD i true = false)
    (hpre : ∀ e ∈ o.after, Region.binds .any e = true → done.getD e.on true = true) (hclosed : ∀ j o, ops[j]? = some o → done.getD j true = true → ∀ e ∈ o.after, Region.binds .any e = true → done.getD e.on true = true)
    {t : Nat} {s : S} (ht : t ∈ o.looksAt ops) (hlk : (lexEnv ((ops.toList.take m).take i) (ss.take i) env).lookup t = some s) : SOk w (c.av (aCh e row ob ++ H)) s (a.tmps.getD t undef) := by
  have hilt : i < ops.size := (Array.getElem?_eq_some_iff.1 hi).1
  rw [List.take_take, Nat.min_eq_left (Nat.le_of_lt him)] at hlk
  rcases lex_lookup _ _ _ _ _ (by simp [hl]; omega) hlk with ⟨j, oj, h1, hna, h2, h3⟩ | ⟨h1, h2⟩
  · have hji : j < i := by
      have := (List.getElem?_eq_some_iff.1 h1).1
      simp at this; omega
    have hoj : ops[j]? = some oj := by
      rw [List.getElem?_take] at h1
      simpa [hji] using h1
    have hsj : ss[j]? = some s := by
      rw [List.getElem?_take] at h3
      simpa [hji] using h3
    have he := ((chk_pair hc hi him hoj (by omega) (by omega)).2 t h2 ht).2
    rw [if_pos hji] at he
    obtain ⟨e, g1, g2, g3⟩ := edge_spec he
    exact h.new j oj t s hoj hna h2 hsj (g3 ▸ hpre e g1 g2)
  · refine h.old t s (fun j oj hj hd => ?_) h2
    have hjlt : j < ops.size := (Array.getElem?_eq_some_iff.1 hj).1
    by_cases hjm : m ≤ j
    · exact h.late j hjm hjlt
    · by_cases hji : j < i
      · rcases h1 j oj (by rw [List.getElem?_take]; simp [hji]; simpa using hj) with hna | hd'
        · have := ((chk_pair hc hi him hj (by omega) (by omega)).2 t hd ht).1
          rw [hna] at this
          cases this
        · exact absurd hd hd'
      · by_cases hje : j = i
        · subst hje; exact hnd
        · have he := ((chk_pair hc hi him hj (by omega) (by omega)).2 t hd ht).2
          rw [if_neg hji] at he
          obtain ⟨e, g1, g2, g3⟩ := edge_spec he
          cases hdj : done.getD j true with
          | false => rfl
          | true =>
            have := hclosed j oj hj hdj e g1 g2
            rw [g3, hnd] at this
            cases this

theorem put_other {o : Oper} {v : Value} (t : Nat) (ht : o.dst ≠ some t) : (a.put o.dst v).tmps.getD t undef = a.tmps.getD t undef := by
  cases hd : o.dst with
  | none => rfl
  | some d =>
    simp only [Act.put]
    rw [Array.getD_eq_getD_getElem?, Array.getElem?_setIfInBounds, if_neg (by rw [hd] at ht; simpa using ht), ← Array.getD_eq_getD_getElem?]
theorem put_self {o : Oper} {v : Value} (hs : a.tmps.size = nt) (hdn : ∀ d, o.dst = some d → d < nt) (t : Nat) (ht : o.dst = some t) : (a.put o.dst v).tmps.getD t undef = v := by
  rw [ht]
  simp only [Act.put]
  rw [Array.getD_eq_getD_getElem?, Array.getElem?_setIfInBounds]
  simp [hs, hdn t ht]
theorem put_size {o : Oper} {v : Value} : (a.put o.dst v).tmps.size = a.tmps.size := by cases o.dst <;> simp [Act.put]
theorem put_defers {o : Oper} {v : Value} : (a.put o.dst v).defers = a.defers := by cases o.dst <;> simp [Act.put]

/-- An operation has come up, and left its value. -/
theorem a_inv_next {w' : World} {i : Nat} {o : Oper} {s : S} {v : Value} (hc : anyChk ops m al pre = true) (h : AInv c ops H env ss m al e row done ob a w) (hi : ops[i]? = some o) (him : i < m) (hna : isAlloc o = false) (hs : ss[i]? = some s) (hdn : ∀ d, o.dst = some d → d < nt)
    (hw : StW c (aCh e row ob ++ H) w') (hv : SOk w' (c.av (aCh e row ob ++ H)) s v) (hk : ∀ s v, SOk w (c.av (aCh e row ob ++ H)) s v → SOk w' (c.av (aCh e row ob ++ H)) s v) : AInv c ops H env ss m al e row (done.setIfInBounds i true) ob (a.put o.dst v) w' := by
  refine ⟨put_size.trans h.size, put_defers.trans h.defers, hw, by simp [h.dsize], ?_, ?_, h.none, ?_, ?_⟩
  · intro k hk1 hk2
    rw [getD_set_other (by omega)]; exact h.late k hk1 hk2
  · intro i' o' d hal ho' hd
    have hne : i' ≠ i := fun e => by subst e; rw [hi] at ho'; simp only [Option.some.injEq] at ho'; subst ho'; have := (chk_al hc hi him).2 hal; rw [hna] at this; cases this
    obtain ⟨g1, g2⟩ := h.made i' o' d hal ho' hd
    rw [getD_set_other hne]
    refine ⟨fun hdone => ?_, g2⟩
    obtain ⟨b, e1, e2⟩ := g1 hdone
    by_cases him' : i' < m
    · have hdd := ((chk_pair hc ho' him' hi him hne).1 d hd)
      exact ⟨b, e1, by rw [put_other d hdd]; exact e2⟩
    · have := h.late i' (by omega) (Array.getElem?_eq_some_iff.1 ho').1
      rw [this] at hdone; cases hdone
  · intro t s' hnone hlk
    have hne : o.dst ≠ some t := fun hd => by
      have := hnone i o hi hd
      rw [getD_set_self] at this
      cases this
    rw [put_other t hne]
    refine hk _ _ (h.old t s' (fun j oj hj hd => ?_) hlk)
    have h1 := hnone j oj hj hd
    by_cases hji : j = i
    · subst hji; rw [getD_set_self] at h1; cases h1
    · rwa [getD_set_other hji] at h1
  · intro j oj t s' hj hnaj hd hsj hdj
    by_cases hji : j = i
    · subst hji
      rw [hi] at hj
      simp only [Option.some.injEq] at hj
      subst hj
      rw [hs] at hsj
      simp only [Option.some.injEq] at hsj
      subst hsj
      rw [put_self h.size hdn t hd]
      exact hv
    · rw [getD_set_other hji] at hdj
      have hjm : j < m := by
        rcases Nat.lt_or_ge j m with h' | h'
        · exact h'
        · have := h.late j h' (Array.getElem?_eq_some_iff.1 hj).1
          rw [this] at hdj; cases hdj
      have hne : o.dst ≠ some t := (chk_pair hc hj hjm hi him hji).1 t hd
      rw [put_other t hne]
      exact hk _ _ (h.new j oj t s' hj hnaj hd hsj hdj)

/-- The block has been made. -/
theorem a_inv_made {w' : World} {i b : Nat} {o : Oper} (hc : anyChk ops m al pre = true) (h : AInv c ops H env ss m al e row done none a w) (hi : ops[i]? = some o) (him : i < m) (hal : al = some i) (hdn : ∀ d, o.dst = some d → d < nt)
    (hw : StW c (.blk b e row :: H) w') (hk : ∀ s v, SOk w (c.av H) s v → SOk w' (c.av (.blk b e row :: H)) s v) : AInv c ops H env ss m al e row (done.setIfInBounds i true) (some b) (a.put o.dst (.pointer (some ⟨b, 0, none⟩))) w' := by
  refine ⟨put_size.trans h.size, put_defers.trans h.defers, hw, by simp [h.dsize], ?_, ?_, ?_, ?_, ?_⟩
  · intro k hk1 hk2
    rw [getD_set_other (by omega)]; exact h.late k hk1 hk2
  · intro i' o' d hal' ho' hd
    have hii : i' = i := by rw [hal] at hal'; simpa using hal'.symm
    subst hii
    rw [hi] at ho'
    simp only [Option.some.injEq] at ho'
    subst ho'
    exact ⟨fun _ => ⟨b, rfl, put_self h.size hdn d hd⟩, fun hf => by rw [getD_set_self] at hf; cases hf⟩
  · intro hn; rw [hal] at hn; cases hn
  · intro t s' hnone hlk
    have hne : o.dst ≠ some t := fun hd => by
      have := hnone i o hi hd
      rw [getD_set_self] at this
      cases this
    rw [put_other t hne]
    refine hk _ _ (h.old t s' (fun j oj hj hd => ?_) hlk)
    have h1 := hnone j oj hj hd
    by_cases hji : j = i
    · subst hji; rw [getD_set_self] at h1; cases h1
    · rwa [getD_set_other hji] at h1
  · intro j oj t s' hj hnaj hd hsj hdj
    have hji : j ≠ i := fun e => by
      subst e
      rw [hi] at hj
      simp only [Option.some.injEq] at hj
      subst hj
      have := (chk_al hc hi him).2 hal
      rw [hnaj] at this; cases this
    rw [getD_set_other hji] at hdj
    have hjm : j < m := by
      rcases Nat.lt_or_ge j m with h' | h'
      · exact h'
      · have := h.late j h' (Array.getElem?_eq_some_iff.1 hj).1
        rw [this] at hdj; cases hdj
    have hne : o.dst ≠ some t := (chk_pair hc hj hjm hi him hji).1 t hd
    rw [put_other t hne]
    exact hk _ _ (h.new j oj t s' hj hnaj hd hsj hdj)
end inv

/-- An operation that owns H alone, where more is owned. -/
theorem frame_step {o : Oper} {env' : Env} {E : List Ch} {s : S} {a : Act} {w : World} (hop : ∀ c : Cx P nt, OpWp c o env' H (fun s' H' => s' = s ∧ H'.Perm H)) (hsz : a.tmps.size = nt) (hdf : a.defers = []) (hw : StW c (E ++ H) w)
    (hslots : ∀ t s, env'.lookup t = some s → SOk w (c.av (E ++ H)) s (a.tmps.getD t undef)) {next : Act → World → Prop} {Q : Exit → Act → World → Prop}
    (hn : ∀ v w', StW c (E ++ H) w' → SOk w' (c.av (E ++ H)) s v → (∀ s v, SOk w (c.av (E ++ H)) s v → SOk w' (c.av (E ++ H)) s v) → next (a.put o.dst v) w') : o.wp P a w next Q := by
  let c' : Cx P nt := ⟨w, c.av (E ++ H), hb H, fun b hb => hw.avlt b hb⟩
  have hav : c'.av H = c.av (E ++ H) := by
    funext b
    refine propext ⟨fun hb => ?_, fun hb => .inl hb⟩
    rcases hb with hb | hb
    · exact hb
    · exact .inr (by rw [hb_app]; exact List.mem_append.2 (.inr hb))
  have hnd := hw.nodup
  rw [hb_app, List.nodup_append] at hnd
  have hst : St c' env' H a w := ⟨hsz, hdf, fun t s hl => by rw [hav]; exact hslots t s hl, rfl, rfl, rfl, Nat.le_refl _, fun _ _ _ => rfl, fun ch hch => by rw [hav]; exact hw.ok ch (List.mem_append.2 (.inr hch)), hnd.2.1, fun b hb => .inl hb, by rw [hav]; exact hw.gl⟩
  refine hop c' a w hst _ _ ?_
  rintro s' H' v w' ⟨rfl, hp⟩ hw' hv hk
  have hw2 := hw'.perm hp
  have hav' : c'.av H' = c'.av H := (av_perm c' hp).symm
  have hg : Grow (hb H) w w' := ⟨hw2.os, hw2.tape, hw2.output, hw2.size, hw2.block⟩
  have hwp : StW c (H ++ E) w := hw.perm List.perm_append_comm
  obtain ⟨s1, s2⟩ := StW.step (H1 := H) (H1' := H) (Hr := E) hwp hg (fun b hb => .inl hb) hnd.2.1 (fun ch hch => by
    have := hw2.ok ch hch
    rw [hav] at this
    rw [av_perm c (List.perm_append_comm (l₁ := E) (l₂ := H))]
    exact this)
  have hpe : c.av (H ++ E) = c.av (E ++ H) := av_perm c (List.perm_append_comm (l₁ := E) (l₂ := H))
  refine hn v w' (s1.perm List.perm_append_comm) ?_ ?_
  · rw [hav', hav] at hv; exact hv
  · intro s v hsv
    have := s2 s v (by rw [hpe]; exact hsv)
    rwa [hpe] at this

omit [Gl P] in
/-- The operations behind the first ones. -/
theorem wpAny_late {ops : Array Oper} {Q : Exit → Act → World → Prop} {m : Nat} {al : Option Nat} {pre : List Nat} (hc : anyChk ops m al pre = true) : ∀ (n k : Nat), k + n = ops.size → m ≤ k → ∀ (done : Array Bool) (a : Act) (w : World), done.size = ops.size →
    (∀ j, j < ops.size → (done.getD j true = true ↔ j < k)) → wpList P ops Q (ops.toList.drop k) a w → wpAny P .any ops Q n done a w
  | 0, k, hkn, hmk, done, a, w, hsz, hd, h => by
    rw [List.drop_of_length_le (by simp; omega)] at h
    refine ⟨?_, h⟩
    cases hr : Region.ready .any ops done with
    | nil => rfl
    | cons x xs =>
      obtain ⟨g1, ox, g2, _⟩ := mem_ready'.1 (show x ∈ Region.ready .any ops done by rw [hr]; simp)
      have hlt := (Array.getElem?_eq_some_iff.1 g2).1
      rw [(hd x hlt).2 (by omega)] at g1
      cases g1
  | n + 1, k, hkn, hmk, done, a, w, hsz, hd, h => by
    have hk : k < ops.size := by omega
    have hok : ops[k]? = some ops[k] := by simp [hk]
    have hready : k ∈ Region.ready .any ops done := mem_ready'.2 ⟨(by
        cases hdk : done.getD k true with
        | false => rfl
        | true => have := (hd k hk).1 hdk; omega), ops[k], hok, fun e he hb => by
        have hlt := chk_after hc hok e he hb
        have h1 := (hd e.on (by omega)).2 hlt
        rw [Array.getD_eq_getD_getElem?] at h1 ⊢
        rw [Array.getElem?_eq_getElem (by omega)] at h1 ⊢
        exact h1⟩
    refine ⟨fun h0 => (by rw [h0] at hready; cases hready), fun i hi => ?_⟩
    obtain ⟨g1, o, g2, g3⟩ := mem_ready'.1 hi
    have hilt := (Array.getElem?_eq_some_iff.1 g2).1
    have hik : i = k := by
      by_cases hlt : i < k
      · rw [(hd i hilt).2 hlt] at g1; cases g1
      · by_cases he : i = k
        · exact he
        · obtain ⟨e, e1, e2, e3⟩ := edge_spec ((chk_lateB hc g2 (by omega)).2 (by omega))
          have := tail_done (b := true) (g3 e e1 e2)
          rw [e3] at this
          have := (hd (i - 1) (by omega)).1 this
          omega
    subst hik
    rw [hok] at g2
    simp only [Option.some.injEq] at g2
    have hdrop : ops.toList.drop i = ops[i] :: ops.toList.drop (i + 1) := by
      rw [List.drop_eq_getElem_cons (by simpa using hk)]
      simp
    rw [hdrop] at h
    have hrec : ∀ a w, wpList P ops Q (ops.toList.drop (i + 1)) a w → wpAny P .any ops Q n (done.setIfInBounds i true) a w := fun a w h =>
      wpAny_late hc n (i + 1) (by omega) (by omega) _ a w (by simp [hsz]) (fun j hj => by
        by_cases hji : j = i
        · subst hji; rw [getD_set_self]; simp
        · rw [getD_set_other hji, hd j hj]; omega) h
    unfold wpOp
    rw [hok]
    dsimp only
    unfold wpList at h
    split at h
    · rename_i hw
      rw [if_pos hw]
      rcases h with h | h
      · exact .inl (Oper.wp_mono hrec h)
      · exact .inr h
    · rename_i hw
      rw [if_neg hw]
      exact hrec _ _ h

/-- An operation that makes a block. -/
def AllocOk (P : Program) (o : Oper) (e : TypeId) (row : List C) : Prop :=
  ∃ cs : List Value, (∀ w A, RdRow w A row cs) ∧ ∀ ρ w, (execOp ρ o).run P w = .ok (.value (.pointer (some ⟨w.heap.size, 0, none⟩))) (w.alloc (.cells cs.toArray e))
omit [Gl P] in
theorem allocOk {d : Option Tmp} {ty e : TypeId} {pos : String} {af : Array Edge} {g : Option (Nat × Bool)} [TI P e] {z : Value} (hz : (TI.i P e).zero = some z) (h1 : z.cells.toList.all Value.oneCell' = true) : AllocOk P ⟨d, .alloc e, ty, pos, af, g⟩ e (zeroRow z) :=
  ⟨z.cells.toList, fun _ _ => rdRow_zero _ (List.all_eq_true.1 h1), fun ρ w => by simp [execOp, Instr.alloc, run_zeroValue e hz, newVar, newRow]⟩

/-- What is asked when the first operations have all come up. -/
def AFin (c : Cx P nt) (ops : Array Oper) (Q : Exit → Act → World → Prop) (m : Nat) (H : List Ch) (env : Env) : Option Nat → Prop
  | none => JL c ops Q (ops.toList.drop m) env H
  | some i => ∃ o d e row, ops[i]? = some o ∧ o.dst = some d ∧ AllocOk P o e row ∧ ∀ b, JL c ops Q (ops.toList.drop m) ((d, .cell (.val (.pointer (some ⟨b, 0, none⟩)))) :: env) (.blk b e row :: H)

theorem afin_none {ops : Array Oper} {Q : Exit → Act → World → Prop} {m : Nat} {env : Env} (h : JL c ops Q (ops.toList.drop m) env H) : AFin c ops Q m H env none := h
theorem afin_some {ops : Array Oper} {Q : Exit → Act → World → Prop} {m i d : Nat} {ty e : TypeId} {pos : String} {af : Array Edge} {g : Option (Nat × Bool)} {env : Env} (hi : ops[i]? = some ⟨some d, .alloc e, ty, pos, af, g⟩) [TI P e] {z : Value} (hz : (TI.i P e).zero = some z) (h1 : z.cells.toList.all Value.oneCell' = true)
    (h : ∀ b, JL c ops Q (ops.toList.drop m) ((d, .cell (.val (.pointer (some ⟨b, 0, none⟩)))) :: env) (.blk b e (zeroRow z) :: H)) : AFin c ops Q m H env (some i) := ⟨_, d, e, _, hi, rfl, allocOk hz h1, h⟩

/-- Moves that may come up first, whatever is drawn. -/
def preChk (ops : Array Oper) (m : Nat) : Array Bool → List Nat → Bool
  | _, [] => true
  | done, i :: is => decide (i < m) && (match ops[i]? with
      | some o => (match o.op with | .move _ => true | .binOp .add _ _ _ _ => true | .binOp .sub _ _ _ _ => true | _ => false) && o.guard.isNone
      | none => false) && (Region.ready .any ops done).contains i && Region.free .any ops done i && preChk ops m (done.setIfInBounds i true) is

/-- What such operations make, by what is known of slots. -/
def preOp (o : Oper) (env : Env) : Option S := match o.op with
  | .move x => some ((env.ev x).getD .void)
  | .binOp .add _ x y _ => match env.ev x, env.ev y with
    | some (.cell (.val (.int k m))), some (.cell (.val (.int k' n))) => if k = k' then some (In k (k.wrap (m + n))) else none
    | _, _ => none
  | .binOp .sub _ x y _ => match env.ev x, env.ev y with
    | some (.cell (.val (.int k m))), some (.cell (.val (.int k' n))) => if k = k' then some (In k (k.wrap (m - n))) else none
    | _, _ => none
  | _ => none
def preRun (ops : Array Oper) : Env → List Nat → Bool
  | _, [] => true
  | env, i :: is => match ops[i]? with
    | some o => match o.dst, preOp o env with
      | some d, some s => preRun ops ((d, s) :: env) is
      | _, _ => false
    | none => false
omit [Gl P] in
theorem ev_okw {w : World} {A : Nat → Prop} {a : Act} {env : Env} (h : ∀ t s, env.lookup t = some s → SOk w A s (a.tmps.getD t undef)) {x : Operand} {s : S} (hx : env.ev x = some s) : SOk w A s (a.eval x) := by
  cases x with
  | tmp t => exact h t s hx
  | const v =>
    simp only [Env.ev] at hx
    split at hx
    · cases hx; exact ⟨rfl, by assumption⟩
    · cases hx
  | func f => simp only [Env.ev] at hx; cases hx; exact ⟨rfl, rfl⟩
  | global g => simp only [Env.ev] at hx; cases hx; exact ⟨rfl, rfl⟩
omit [Gl P] in
theorem preOp_ok {o : Oper} {env : Env} {s : S} (ho : preOp o env = some s) {w : World} {A : Nat → Prop} {a : Act} (h : ∀ t s, env.lookup t = some s → SOk w A s (a.tmps.getD t undef)) : ∃ v, (∀ w, (execOp a.eval o).run P w = .ok (.value v) w) ∧ SOk w A s v := by
  obtain ⟨d, op, ty, pos, af, g⟩ := o
  unfold preOp at ho
  split at ho
  · rename_i x hop
    simp only at hop
    subst hop
    cases ho
    refine ⟨a.eval x, fun w => rfl, ?_⟩
    cases hx : env.ev x with
    | none => exact trivial
    | some s => exact ev_okw h hx
  · rename_i t x y t' hop
    simp only at hop
    subst hop
    split at ho
    · rename_i k m k' n hx hy
      split at ho
      · rename_i hk
        subst hk
        cases ho
        have e1 : a.eval x = .int k m := (ev_okw h hx).1
        have e2 : a.eval y = .int k n := (ev_okw h hy).1
        exact ⟨.int k (k.wrap (m + n)), fun w => by simp [execOp, e1, e2, eqGuard, binOp, Op.intArith], rfl, rfl⟩
      · cases ho
    · cases ho
  · rename_i t x y t' hop
    simp only at hop
    subst hop
    split at ho
    · rename_i k m k' n hx hy
      split at ho
      · rename_i hk
        subst hk
        cases ho
        have e1 : a.eval x = .int k m := (ev_okw h hx).1
        have e2 : a.eval y = .int k n := (ev_okw h hy).1
        exact ⟨.int k (k.wrap (m - n)), fun w => by simp [execOp, e1, e2, eqGuard, binOp, Op.intArith], rfl, rfl⟩
      · cases ho
    · cases ho
  · cases ho

/-- A region whose order is drawn. -/
theorem any_core {id : Nat} {ops : Array Oper} {Q : Exit → Act → World → Prop} {env : Env} (m : Nat) (al : Option Nat) (pre : List Nat) (hpq : pre = [] ∨ (Region.noSelect ops = true ∧ ∀ ch a a' w, Q (.panic ch) a w → Q (.panic ch) a' w)) (hpc : preChk ops m (Array.replicate ops.size false) pre = true) (hpe : preRun ops env pre = true)
    (hm : P.follows .mixedOrders = true) (hc : anyChk ops m al pre = true) (hdn : ops.toList.all (fun o => o.dst.all (fun d => decide (d < nt))) = true)
    (h : AnyOk P nt ops H (fun env' => AFin c ops Q m H env' al) (ops.toList.take m) env) : JC c (.region id ops true) Q env H := by
  intro a w hs
  obtain ⟨ss, hl, hok, hK⟩ := any_extract _ _ h
  obtain ⟨hmle, halm⟩ : m ≤ ops.size ∧ ∀ i, al = some i → i < m := by
    unfold anyChk at hc
    rw [Bool.and_eq_true, Bool.and_eq_true] at hc
    refine ⟨by simpa using hc.1.1, fun i hi => ?_⟩
    have := hc.1.2
    rw [hi] at this
    simpa using this
  have hl' : ss.length = m := by simp [hl]; omega
  have hdn' : ∀ (i : Nat) o, ops[i]? = some o → ∀ d, o.dst = some d → d < nt := by
    intro i o hi d hd
    have := List.all_eq_true.1 hdn o (by rw [Array.mem_toList_iff]; exact Array.mem_of_getElem? hi)
    simpa [hd] using this
  -- what is made, if anything is
  obtain ⟨e, row, hmk, hfin⟩ : ∃ e row, (∀ i o, al = some i → ops[i]? = some o → AllocOk P o e row ∧ ∃ d, o.dst = some d) ∧
      (∀ ob a w, (al = none → ob = none) → (∀ i o d, al = some i → ops[i]? = some o → o.dst = some d → ∃ b, ob = some b ∧ a.tmps.getD d undef = .pointer (some ⟨b, 0, none⟩)) →
        a.tmps.size = nt → a.defers = [] → StW c (aCh e row ob ++ H) w → (∀ t s, (∀ i o, al = some i → ops[i]? = some o → o.dst ≠ some t) → (lexEnv (ops.toList.take m) ss env).lookup t = some s → SOk w (c.av (aCh e row ob ++ H)) s (a.tmps.getD t undef)) → wpList P ops Q (ops.toList.drop m) a w) := by
    cases al with
    | none => exact ⟨0, [], by simp, fun ob a w h1 _ h3 h4 h5 h6 => by have := h1 rfl; subst this; exact hK a w ⟨h3, h4, fun t s hl => h6 t s (by simp) hl, h5⟩⟩
    | some i =>
      obtain ⟨o, d, e, row, g1, g2, g3, g4⟩ := hK
      refine ⟨e, row, fun i' o' h1 h2 => by cases h1; rw [g1] at h2; cases h2; exact ⟨g3, d, g2⟩, fun ob a w _ h2 h3 h4 h5 h6 => ?_⟩
      obtain ⟨b, rfl, hb⟩ := h2 i o d rfl g1 g2
      refine g4 b a w ⟨h3, h4, ?_, h5⟩
      intro t s hlk
      rcases lookup_cons hlk with ⟨rfl, rfl⟩ | ⟨hne, hlk⟩
      · exact ⟨hb, rfl⟩
      · refine h6 t s (fun i' o' h1 h2 => ?_) hlk
        cases h1
        rw [g1] at h2
        cases h2
        rw [g2]
        simpa using fun e => hne e.symm
  refine wp_region_any hm ?_
  have allDone : ∀ done ob a w, AInv c ops H env ss m al e row done ob a w → (∀ j, j < m → done.getD j true = true) → wpAny P .any ops Q (ops.size - m) done a w := by
    intro done ob a w hinv hall
    refine wpAny_late hc (ops.size - m) m (by omega) (Nat.le_refl _) done a w hinv.dsize (fun j hj => ⟨fun hd => ?_, hall j⟩) (hfin ob a w hinv.none (fun i o d hal hi hd => (hinv.made i o d hal hi hd).1 (hall i (halm i hal))) hinv.size hinv.defers hinv.heap ?_)
    · rcases Nat.lt_or_ge j m with h' | h'
      · exact h'
      · rw [hinv.late j h' hj] at hd; cases hd
    · intro t s hnal hlk
      rcases lex_lookup _ _ _ _ _ hl hlk with ⟨j, o, h1, hna, h2, h3⟩ | ⟨h1, h2⟩
      · have hjm : j < m := by
          have := (List.getElem?_eq_some_iff.1 h1).1
          simp at this; omega
        have hj : ops[j]? = some o := by
          rw [List.getElem?_take] at h1
          simpa [hjm] using h1
        exact hinv.new j o t s hj hna h2 h3 (hall j hjm)
      · refine hinv.old t s (fun j o hj hd => ?_) h2
        have hjlt : j < ops.size := (Array.getElem?_eq_some_iff.1 hj).1
        by_cases hjm : j < m
        · exfalso
          rcases h1 j o (by rw [List.getElem?_take]; simp [hjm]; simpa using hj) with hna | hne
          · exact hnal j o ((chk_al hc hj hjm).1 hna) hj hd
          · exact hne hd
        · exact hinv.late j (by omega) hjlt
  have main : ∀ fuel done ob a w, AInv c ops H env ss m al e row done ob a w → (∀ j o, ops[j]? = some o → done.getD j true = true → ∀ e ∈ o.after, Region.binds .any e = true → done.getD e.on true = true) → (∀ j ∈ pre, done.getD j true = true) → (done.toList.filter (· == false)).length = fuel → wpAny P .any ops Q fuel done a w := by
    intro fuel
    induction fuel with
    | zero =>
      intro done ob a w hinv _ _ hcount
      have hall : ∀ j, j < ops.size → done.getD j true = true := by
        intro j hj
        cases hdj : done.getD j true with
        | true => rfl
        | false =>
          have hjd : j < done.size := by rw [hinv.dsize]; exact hj
          have : false ∈ done.toList.filter (· == false) := by
            rw [List.mem_filter]
            refine ⟨?_, rfl⟩
            rw [Array.getD_eq_getD_getElem?, Array.getElem?_eq_getElem hjd] at hdj
            have hdj' : done[j] = false := by simpa using hdj
            rw [← hdj']
            exact Array.mem_toList_iff.2 (Array.getElem_mem _)
          rw [List.eq_nil_of_length_eq_zero hcount] at this
          cases this
      have hms : m = ops.size := by
        rcases Nat.lt_or_ge m ops.size with h' | h'
        · have := hall m h'
          rw [hinv.late m (Nat.le_refl _) h'] at this
          cases this
        · omega
      have := allDone done ob a w hinv (fun j hj => hall j (by omega))
      rw [hms, Nat.sub_self] at this
      exact this
    | succ fuel ih =>
      intro done ob a w hinv hclosed hpd hcount
      by_cases hall : ∀ j, j < m → done.getD j true = true
      · have hcnt : ops.size - m = fuel + 1 := by
          have hsplit : done.toList = done.toList.take m ++ done.toList.drop m := (List.take_append_drop m done.toList).symm
          rw [hsplit, List.filter_append, List.length_append] at hcount
          have e1 : (done.toList.take m).filter (· == false) = [] := by
            rw [List.filter_eq_nil_iff]
            intro x hx
            obtain ⟨j, hj, rfl⟩ := List.getElem_of_mem hx
            simp only [List.length_take, Array.length_toList, hinv.dsize] at hj
            have := hall j (by omega)
            rw [Array.getD_eq_getD_getElem?, Array.getElem?_eq_getElem (by rw [hinv.dsize]; omega)] at this
            have h2 : done[j]'(by rw [hinv.dsize]; omega) = true := by simpa using this
            simp [h2]
          have e2 : (done.toList.drop m).filter (· == false) = done.toList.drop m := by
            rw [List.filter_eq_self]
            intro x hx
            obtain ⟨j, hj, rfl⟩ := List.getElem_of_mem hx
            simp only [List.length_drop, Array.length_toList, hinv.dsize] at hj
            have := hinv.late (m + j) (by omega) (by omega)
            rw [Array.getD_eq_getD_getElem?, Array.getElem?_eq_getElem (by rw [hinv.dsize]; omega)] at this
            have h2 : done[m + j]'(by rw [hinv.dsize]; omega) = false := by simpa using this
            simp [h2]
          rw [e1, e2] at hcount
          simp only [List.length_nil, List.length_drop, Array.length_toList, hinv.dsize] at hcount
          omega
        rw [← hcnt]
        exact allDone done ob a w hinv hall
      · have hex : ∃ j, j < m ∧ done.getD j true = false := by
          refine Classical.byContradiction fun hno => hall fun j hj => ?_
          cases hdj : done.getD j true with
          | true => rfl
          | false => exact absurd ⟨j, hj, hdj⟩ hno
        obtain ⟨j0, hj0, hd0⟩ := hex
        have hfirst : ∀ n j, j ≤ n → j < m → done.getD j true = false → ∃ i, i ∈ Region.ready .any ops done := by
          intro n
          induction n with
          | zero =>
            intro j hj hjm hdj
            have : j = 0 := by omega
            subst this
            exact ⟨0, mem_ready'.2 ⟨hdj, ops[0]'(by omega), by simp, fun e he hb => by
              have := chk_after hc (show ops[0]? = some (ops[0]'(by omega)) by simp) e he hb
              omega⟩⟩
          | succ n ihn =>
            intro j hj hjm hdj
            by_cases hall2 : ∀ e ∈ (ops[j]'(by omega)).after, Region.binds .any e = true → done.getD e.on true = true
            · exact ⟨j, mem_ready'.2 ⟨hdj, ops[j]'(by omega), by simp, fun e he hb => by
                have hlt := chk_after hc (show ops[j]? = some (ops[j]'(by omega)) by simp) e he hb
                have h1 := hall2 e he hb
                rw [Array.getD_eq_getD_getElem?] at h1 ⊢
                rw [Array.getElem?_eq_getElem (by rw [hinv.dsize]; omega)] at h1 ⊢
                exact h1⟩⟩
            · have : ∃ e, e ∈ (ops[j]'(by omega)).after ∧ Region.binds .any e = true ∧ done.getD e.on true = false := by
                refine Classical.byContradiction fun hno => hall2 fun e he hb => ?_
                cases hde : done.getD e.on true with
                | true => rfl
                | false => exact absurd ⟨e, he, hb, hde⟩ hno
              obtain ⟨e, he, hb, hde⟩ := this
              have hlt := chk_after hc (show ops[j]? = some (ops[j]'(by omega)) by simp) e he hb
              exact ihn e.on (by omega) (by omega) hde
        obtain ⟨i0, hi0⟩ := hfirst j0 j0 (Nat.le_refl _) hj0 hd0
        refine ⟨fun h0 => (by rw [h0] at hi0; cases hi0), fun i hi => ?_⟩
        obtain ⟨hnd, o, hio, hpre0⟩ := mem_ready'.1 hi
        have hpre : ∀ e ∈ o.after, Region.binds .any e = true → done.getD e.on true = true := fun e he hb => tail_done (hpre0 e he hb)
        have hilt : i < ops.size := (Array.getElem?_eq_some_iff.1 hio).1
        have him : i < m := by
          rcases Nat.lt_or_ge i m with h' | h'
          · exact h'
          · rcases chk_late hc hio h' j0 (by omega) with h1 | h1 | h1
            · rw [hpd j0 h1] at hd0; cases hd0
            · obtain ⟨e, e1, e2, e3⟩ := edge_spec h1
              have := hpre e e1 e2
              rw [e3, hd0] at this
              cases this
            · have hdir : ∀ j ∈ direct ops i, done.getD j true = true := by
                intro j hj
                unfold direct at hj
                simp only [hio, Option.map_some, Option.getD_some, List.mem_map, List.mem_filter] at hj
                obtain ⟨e, ⟨he, hb⟩, rfl⟩ := hj
                exact hpre e (by simpa using he) hb
              rw [closure_done hclosed _ _ hdir j0 h1] at hd0
              cases hd0
        have hpd' : ∀ j ∈ pre, (done.setIfInBounds i true).getD j true = true := by
          intro j hj
          by_cases hji : j = i
          · rw [hji]; exact getD_set_self
          · rw [getD_set_other hji]; exact hpd j hj
        have hclosed' : ∀ j oj, ops[j]? = some oj → (done.setIfInBounds i true).getD j true = true → ∀ e ∈ oj.after, Region.binds .any e = true → (done.setIfInBounds i true).getD e.on true = true := by
          intro j oj hj hdj e he hb
          by_cases hei : e.on = i
          · rw [hei]; exact getD_set_self
          · rw [getD_set_other hei]
            by_cases hji : j = i
            · subst hji
              rw [hio] at hj
              simp only [Option.some.injEq] at hj
              subst hj
              exact hpre e he hb
            · rw [getD_set_other hji] at hdj
              exact hclosed j oj hj hdj e he hb
        have hcount' : ((done.setIfInBounds i true).toList.filter (· == false)).length = fuel := by
          have hid : i < done.toList.length := by simp [hinv.dsize, hilt]
          have hdi : done.toList[i] = false := by
            rw [Array.getD_eq_getD_getElem?, Array.getElem?_eq_getElem (by rw [hinv.dsize]; exact hilt)] at hnd
            simpa using hnd
          have hsplit : done.toList = done.toList.take i ++ done.toList[i] :: done.toList.drop (i + 1) := by rw [List.getElem_cons_drop, List.take_append_drop]
          have e2 : (done.toList.filter (· == false)).length = ((done.toList.take i ++ done.toList[i] :: done.toList.drop (i + 1)).filter (· == false)).length := by rw [← hsplit]
          rw [Array.toList_setIfInBounds, List.set_eq_take_append_cons_drop, if_pos hid]
          rw [e2, hdi] at hcount
          simp only [List.filter_append, List.length_append, List.filter_cons] at hcount ⊢
          simp at hcount ⊢
          omega
        unfold wpOp
        rw [hio]
        dsimp only
        by_cases hal : isAlloc o = true
        · -- it makes the block
          have hali := (chk_al hc hio him).1 hal
          obtain ⟨⟨cs, hcs1, hcs2⟩, d, hd⟩ := hmk i o hali hio
          have hob := (hinv.made i o d hali hio hd).2 hnd
          subst hob
          have hg : o.guard = none := by
            unfold isAlloc at hal
            split at hal
            · assumption
            · cases hal
          rw [if_pos (by simp [Region.wanted, hg])]
          left
          unfold Oper.wp
          rw [hcs2]
          obtain ⟨s1, s2⟩ := stw_alloc (c := c) (H := H) hinv.heap row cs e (hcs1 w _)
          exact ih _ (some w.heap.size) _ _ (a_inv_made hc hinv hio him hali (hdn' i o hio) s1 s2) hclosed' hpd' hcount'
        · have hna : isAlloc o = false := by simpa using hal
          have hsi : ∃ s, ss[i]? = some s := ⟨ss[i]'(by omega), by simp [hl', him]⟩
          obtain ⟨s, hsi⟩ := hsi
          have hop := hok i o s (by rw [List.getElem?_take]; simp [him]; simpa using hio) hsi
          have hslots : ∀ t s, ((lexEnv ((ops.toList.take m).take i) (ss.take i) env).only (o.looksAt ops)).lookup t = some s → SOk w (c.av (aCh e row ob ++ H)) s (a.tmps.getD t undef) := by
            intro t s' hlk
            obtain ⟨g1, g2⟩ := only_lookup hlk
            exact a_inv_get hc hl' hinv hio him hnd hpre hclosed g1 g2
          have run : (∀ c : Cx P nt, OpWp c o ((lexEnv ((ops.toList.take m).take i) (ss.take i) env).only (o.looksAt ops)) H (fun s' H' => s' = s ∧ H'.Perm H)) → o.wp P a w (wpAny P .any ops Q fuel (done.setIfInBounds i true)) Q := by
            intro hop
            refine frame_step hop hinv.size hinv.defers hinv.heap hslots ?_
            intro v w' hw' hv hk
            exact ih _ ob _ _ (a_inv_next hc hinv hio him hna hsi (hdn' i o hio) hw' hv hk) hclosed' hpd' hcount'
          rcases hop with hop | hop
          · rw [hop] at hna; cases hna
          cases hg : o.guard with
          | none =>
            rw [hg] at hop
            rw [if_pos (by simp [Region.wanted, hg])]
            exact .inl (run hop)
          | some jw =>
            obtain ⟨j, want⟩ := jw
            rw [hg] at hop
            rcases hop with ⟨b, hb, h1, h2⟩ | ⟨hb, hsv⟩
            rotate_left
            · have hval : yielded ops a.tmps j = none := by
                cases hd : (ops[j]?).bind (·.dst) with
                | none => unfold yielded; simp [hd]
                | some dj =>
                  rw [hd] at hb
                  have hmem : dj ∈ o.looksAt ops := by
                    unfold Oper.looksAt
                    rw [hg]
                    simp [hd]
                  obtain ⟨vs, hv, hvs⟩ := a_inv_get hc hl' hinv hio him hnd hpre hclosed hmem hb
                  simp only [SOks] at hvs
                  subst hvs
                  unfold yielded
                  rw [hd]
                  simp only [Option.bind_some]
                  rw [Array.getD_eq_getD_getElem?] at hv
                  cases h : a.tmps[dj]? with
                  | none => rfl
                  | some u =>
                    rw [h] at hv
                    simp only [Option.getD_some] at hv
                    subst hv
                    rfl
              rw [if_neg (by simp [Region.wanted, hg, hval])]
              subst hsv
              exact ih _ ob _ _ (a_inv_next hc hinv hio him hna hsi (hdn' i o hio) hinv.heap ⟨[], rfl, rfl⟩ (fun _ _ h => h)) hclosed' hpd' hcount'
            have hval : yielded ops a.tmps j = some b := by
              cases hd : (ops[j]?).bind (·.dst) with
              | none => rw [hd] at hb; simp [Env.ev] at hb
              | some dj =>
                rw [hd] at hb
                have hmem : dj ∈ o.looksAt ops := by
                  unfold Oper.looksAt
                  rw [hg]
                  simp [hd]
                have hv := a_inv_get hc hl' hinv hio him hnd hpre hclosed hmem hb
                have hv : a.tmps.getD dj undef = .bool b := hv.1
                have hdlt : dj < a.tmps.size := by
                  rcases Nat.lt_or_ge dj a.tmps.size with h' | h'
                  · exact h'
                  · rw [Array.getD_eq_getD_getElem?, Array.getElem?_eq_none h'] at hv
                    cases hv
                rw [Array.getD_eq_getD_getElem?, Array.getElem?_eq_getElem hdlt] at hv
                unfold yielded
                simp only [Option.getD_some] at hv
                simp [hd, hdlt, hv]
            by_cases hbw : b = want
            · rw [if_pos (by simp [Region.wanted, hg, hval, hbw])]
              exact .inl (run (h1 hbw))
            · rw [if_neg (by simp [Region.wanted, hg, hval, hbw])]
              have hsv := h2 hbw
              subst hsv
              exact ih _ ob _ _ (a_inv_next hc hinv hio him hna hsi (hdn' i o hio) hinv.heap ⟨[], rfl, rfl⟩ (fun _ _ h => h)) hclosed' hpd' hcount'
  -- what comes up first
  have first : ∀ (is : List Nat) (done : Array Bool) (ob : Option Nat) (a : Act) (w : World) (envp : Env), preRun ops envp is = true → (∀ t s, envp.lookup t = some s → SOk w (c.av (aCh e row ob ++ H)) s (a.tmps.getD t undef)) → (is = [] ∨ (Region.noSelect ops = true ∧ ∀ ch a a' w, Q (.panic ch) a w → Q (.panic ch) a' w)) → preChk ops m done is = true → (∀ j ∈ pre, j ∈ is ∨ done.getD j true = true) → AInv c ops H env ss m al e row done ob a w →
      (∀ j o, ops[j]? = some o → done.getD j true = true → ∀ e ∈ o.after, Region.binds .any e = true → done.getD e.on true = true) → wpAny P .any ops Q (done.toList.filter (· == false)).length done a w := by
    intro is
    induction is with
    | nil => intro done ob a w _ _ _ _ _ hpd hinv hclosed; exact main _ done ob a w hinv hclosed (fun j hj => (hpd j hj).elim (fun h => by cases h) (fun h => h)) rfl
    | cons i is ih =>
      intro done ob a w envp hpr hep hq hck hpd hinv hclosed
      obtain ⟨hns, hqp⟩ := hq.resolve_left (by simp)
      simp only [preChk, Bool.and_eq_true, decide_eq_true_eq] at hck
      obtain ⟨⟨⟨⟨him, hop⟩, hrd⟩, hfr⟩, hck⟩ := hck
      cases hio : ops[i]? with
      | none => rw [hio] at hop; cases hop
      | some o =>
        rw [hio] at hop
        simp only [Bool.and_eq_true, Option.isNone_iff_eq_none] at hop
        obtain ⟨hmv, hg⟩ := hop
        unfold preRun at hpr
        rw [hio] at hpr
        obtain ⟨d, sp, hdst, hpo, hpr⟩ : ∃ d sp, o.dst = some d ∧ preOp o envp = some sp ∧ preRun ops ((d, sp) :: envp) is = true := by
          cases hd : o.dst with
          | none => simp only [hd] at hpr; cases hpr
          | some d =>
            cases hp : preOp o envp with
            | none => simp only [hd, hp] at hpr; cases hpr
            | some sp => exact ⟨d, sp, rfl, rfl, by simpa only [hd, hp] using hpr⟩
        obtain ⟨val, hexa, hvs⟩ := preOp_ok (P := P) hpo hep
        have hilt : i < ops.size := (Array.getElem?_eq_some_iff.1 hio).1
        have hrd' : i ∈ Region.ready .any ops done := by simpa using hrd
        obtain ⟨hnd, o', hio', hpre0⟩ := mem_ready'.1 hrd'
        rw [hio] at hio'
        simp only [Option.some.injEq] at hio'
        subst hio'
        have hpre : ∀ e ∈ o.after, Region.binds .any e = true → done.getD e.on true = true := fun e he hb => tail_done (hpre0 e he hb)
        have hna : isAlloc o = false := by
          unfold isAlloc
          cases hoo : o.op <;> rw [hoo] at hmv <;> first | rfl | (simp at hmv)
        have hexec : (execOp a.eval o).run P w = .ok (.value val) w := hexa w
        have hyield : Yields P ops o val a := .inl ⟨by simp [Region.wanted, hg], hexa⟩
        obtain ⟨s, hsi⟩ : ∃ s, ss[i]? = some s := ⟨ss[i]'(by omega), by simp [hl', him]⟩
        have hop := hok i o s (by rw [List.getElem?_take]; simp [him]; simpa using hio) hsi
        have hslots : ∀ t s, ((lexEnv ((ops.toList.take m).take i) (ss.take i) env).only (o.looksAt ops)).lookup t = some s → SOk w (c.av (aCh e row ob ++ H)) s (a.tmps.getD t undef) := by
          intro t s' hlk
          obtain ⟨g1, g2⟩ := only_lookup hlk
          exact a_inv_get hc hl' hinv hio him hnd hpre hclosed g1 g2
        have hinv' : AInv c ops H env ss m al e row (done.setIfInBounds i true) ob (a.put o.dst val) w := by
          rcases hop with hop | hop
          · rw [hna] at hop; cases hop
          rw [hg] at hop
          have := frame_step (Q := Q) (next := fun a' w' => AInv c ops H env ss m al e row (done.setIfInBounds i true) ob a' w') hop hinv.size hinv.defers hinv.heap hslots (fun v w' hw' hv hk => a_inv_next hc hinv hio him hna hsi (hdn' i o hio) hw' hv hk)
          unfold Oper.wp at this
          rw [hexec] at this
          exact this
        have hclosed' : ∀ j oj, ops[j]? = some oj → (done.setIfInBounds i true).getD j true = true → ∀ e ∈ oj.after, Region.binds .any e = true → (done.setIfInBounds i true).getD e.on true = true := by
          intro j oj hj hdj e he hb
          by_cases hei : e.on = i
          · rw [hei]; exact getD_set_self
          · rw [getD_set_other hei]
            by_cases hji : j = i
            · subst hji
              rw [hio] at hj
              simp only [Option.some.injEq] at hj
              subst hj
              exact hpre e he hb
            · rw [getD_set_other hji] at hdj
              exact hclosed j oj hj hdj e he hb
        have hdlt : d < nt := hdn' i o hio d hdst
        have hep' : ∀ t s, List.lookup t ((d, sp) :: envp) = some s → SOk w (c.av (aCh e row ob ++ H)) s ((a.put o.dst val).tmps.getD t undef) := by
          intro t s hlk
          rw [hdst]
          rcases lookup_cons hlk with ⟨rfl, rfl⟩ | ⟨hne, hlk⟩
          · simp only [Act.put]
            rw [Array.getD_eq_getD_getElem?, Array.getElem?_setIfInBounds]
            simp [hinv.size, hdlt]
            exact hvs
          · simp only [Act.put]
            rw [Array.getD_eq_getD_getElem?, Array.getElem?_setIfInBounds, if_neg (by omega), ← Array.getD_eq_getD_getElem?]
            exact hep t s hlk
        have hcnt : (done.toList.filter (· == false)).length = ((done.setIfInBounds i true).toList.filter (· == false)).length + 1 := by
          have hid : i < done.toList.length := by simp [hinv.dsize, hilt]
          have hdi : done.toList[i] = false := by
            rw [Array.getD_eq_getD_getElem?, Array.getElem?_eq_getElem (by rw [hinv.dsize]; exact hilt)] at hnd
            simpa using hnd
          have hsplit : done.toList = done.toList.take i ++ done.toList[i] :: done.toList.drop (i + 1) := by rw [List.getElem_cons_drop, List.take_append_drop]
          have e2 : (done.toList.filter (· == false)).length = ((done.toList.take i ++ done.toList[i] :: done.toList.drop (i + 1)).filter (· == false)).length := by rw [← hsplit]
          rw [Array.toList_setIfInBounds, List.set_eq_take_append_cons_drop, if_pos hid]
          rw [e2, hdi]
          simp only [List.filter_append, List.length_append, List.filter_cons]
          simp
          omega
        rw [hcnt]
        refine wpAny_take hio hns hfr hrd (fun ch a' w' hh => hqp ch _ _ w' hh) hyield ?_
        refine ih _ ob _ _ ((d, sp) :: envp) hpr hep' (.inr ⟨hns, hqp⟩) hck (fun j hj => ?_) hinv' hclosed'
        rcases hpd j hj with h1 | h1
        · rcases List.mem_cons.1 h1 with rfl | h1
          · exact .inr getD_set_self
          · exact .inl h1
        · by_cases hji : j = i
          · exact .inr (by rw [hji]; exact getD_set_self)
          · exact .inr (by rw [getD_set_other hji]; exact h1)
  obtain ⟨d1, d2⟩ := stw_drew hs.heap
  have hfalse : ∀ j, j < ops.size → (Array.replicate ops.size false).getD j true = false := by
    intro j hj
    simp [hj]
  have hsize : ((Array.replicate ops.size false).toList.filter (· == false)).length = ops.size := by simp
  have := first pre (Array.replicate ops.size false) none a { w with drawn := w.drawn + 1 } env hpe (fun t s hlk => d2 _ _ (hs.slots t s hlk)) hpq hpc (fun j hj => .inl hj) ⟨hs.size, hs.defers, d1, by simp, fun k _ hk => hfalse k hk, ?_, fun _ => rfl, ?_, ?_⟩ ?_
  · rw [hsize] at this; exact this
  · intro i o d hal hi _
    refine ⟨fun hd => ?_, fun _ => rfl⟩
    rw [hfalse i (Array.getElem?_eq_some_iff.1 hi).1] at hd
    cases hd
  · intro t s _ hlk
    exact d2 _ _ (hs.slots t s hlk)
  · intro j o t s hj _ _ _ hd
    rw [hfalse j (Array.getElem?_eq_some_iff.1 hj).1] at hd
    cases hd
  · intro j o hj hd
    rw [hfalse j (Array.getElem?_eq_some_iff.1 hj).1] at hd
    cases hd

theorem jc_anyB {id : Nat} {ops : Array Oper} {Q : Exit → Act → World → Prop} {env : Env} (m : Nat) (al : Option Nat) (hm : P.follows .mixedOrders = true) (hc : anyChk ops m al = true) (hdn : ops.toList.all (fun o => o.dst.all (fun d => decide (d < nt))) = true)
    (h : AnyOk P nt ops H (fun env' => AFin c ops Q m H env' al) (ops.toList.take m) env) : JC c (.region id ops true) Q env H :=
  any_core m al [] (.inl rfl) rfl rfl hm hc hdn h

/-- No panics. -/
def np (Q : Exit → Act → World → Prop) (e : Exit) (a : Act) (w : World) : Prop := match e with
  | .panic _ => False
  | e => Q e a w
theorem jq_np {Q : Exit → Act → World → Prop} {env : Env} (h : JQ c Q .normal env H) : JQ c (np Q) .normal env H := fun a w hs => h a w hs
/-- .. some of whose moves may come up late. -/
theorem jc_anyF {id : Nat} {ops : Array Oper} {Q : Exit → Act → World → Prop} {env : Env} (m : Nat) (al : Option Nat) (pre : List Nat) (hm : P.follows .mixedOrders = true) (hpc : (Region.noSelect ops && preChk ops m (Array.replicate ops.size false) pre) = true) (hc : anyChk ops m al pre = true) (hdn : ops.toList.all (fun o => o.dst.all (fun d => decide (d < nt))) = true) (hpe : preRun ops env pre = true)
    (h : AnyOk P nt ops H (fun env' => AFin c ops (np Q) m H env' al) (ops.toList.take m) env) : JC c (.region id ops true) Q env H := by
  rw [Bool.and_eq_true] at hpc
  have := any_core (id := id) m al pre (.inr ⟨hpc.1, fun ch a a' w hh => hh.elim⟩) hpc.2 hpe hm hc hdn h
  intro a w hs
  refine Code.wp_mono ?_ (this a w hs)
  intro e a w hq
  cases e with
  | panic ch => exact hq.elim
  | _ => exact hq

/-- .. none of whose operations turns what is owned. -/
theorem jc_any {id : Nat} {l : List Oper} {Q : Exit → Act → World → Prop} {env : Env} (hpl : l.all (fun o => match o.op with | .store .. | .alloc _ | .box .. | .mapUpdate .. => false | .call { callee := .builtin .append, .. } => false | _ => true) = true) (hm : P.follows .mixedOrders = true) (hc : anyChk l.toArray l.length none = true)
    (hdn : l.all (fun o => o.dst.all (fun d => decide (d < nt))) = true)
    (h : AnyOk P nt l.toArray H (fun env' => JQ c Q .normal env' H) l env) : JC c (.region id l.toArray true) Q env H := by
  have _ := hpl
  refine jc_anyB l.length none hm hc hdn ?_
  have e : (fun env' => AFin c l.toArray Q l.length H env' none) = (fun env' => JQ c Q .normal env' H) := by
    funext env'
    show JL c l.toArray Q (l.drop l.length) env' H = _
    rw [List.drop_length]
    rfl
  rw [e]
  show AnyOk P nt l.toArray H _ (l.take l.length) env
  rw [List.take_length]
  exact h
end
end Go.Vc
