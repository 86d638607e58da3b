import Derived.Test.YtjnfamgjffnfiaaDoorVc5
import Derived.Deep.LoopGhost
namespace Go.Vc
open Go.RowKit

/-- A function of the program that has a body: a call of it enters it. -/
class FI (P : Program) (f : FuncId) : Prop where
  hrun : ∀ args w, (callFunc f args).run P w = .ok (.enter f args) w

/-- What a function promises; n: how many blocks there were as it began. -/
def ConN (P : Program) [Gl P] (f : FuncId) (args : List S) (Hin : List Ch) (post : Nat → (S → List Ch → Prop) → Prop) : Prop :=
  ∀ (vs : List Value) (w : World) (A : Nat → Prop), (∀ b, A b → b < w.heap.size) → (∀ b ∈ hb Hin, A b) → (hb Hin).Nodup → SOks w A args vs → (∀ ch ∈ Hin, ch.ok w A) → Gl.ok P w A →
    Calls P f vs.toArray w (fun e w' => ∃ v s Hout, e = .returned v ∧ (∀ K, post w.heap.size K → K s Hout) ∧ SOk w' (fun b => A b ∨ b ∈ hb Hout) s v ∧ (∀ ch ∈ Hout, ch.ok w' (fun b => A b ∨ b ∈ hb Hout)) ∧
      (hb Hout).Nodup ∧ (∀ b ∈ hb Hout, b ∈ hb Hin ∨ w.heap.size ≤ b) ∧ Grow (hb Hin) w w')
def Con (P : Program) [Gl P] (f : FuncId) (args : List S) (Hin : List Ch) (post : (S → List Ch → Prop) → Prop) : Prop := ConN P f args Hin (fun _ => post)

def Env.evs (env : Env) : List Operand → Option (List S)
  | [] => some []
  | x :: r => match env.ev x, Env.evs env r with
    | some s, some ss => some (s :: ss)
    | _, _ => none

section
variable {P : Program} [Gl P] {nt : Nat} {c : Cx P nt} {env : Env} {H : List Ch} {K : S → List Ch → Prop}
variable {d : Option Tmp} {ty t t' : TypeId} {pos : String} {af : Array Edge} {g : Option (Nat × Bool)} {x y : Operand}

theorem evs_ok {a : Act} {w : World} (h : St c env H a w) : ∀ {xs : List Operand} {ss : List S}, env.evs xs = some ss → SOks w (c.av H) ss (xs.map a.eval)
  | [], ss, hp => by simp only [Env.evs, Option.some.injEq] at hp; subst hp; rfl
  | x :: xs, ss, hp => by
    simp only [Env.evs] at hp
    split at hp
    · rename_i s ss' h1 h2
      simp only [Option.some.injEq] at hp
      subst hp
      exact ⟨_, _, rfl, ev_ok h h1, evs_ok h h2⟩
    · cases hp

/-- The heart of a call. -/
theorem call_coreN {a : Act} {w : World} {is : List Nat} {Hin Hr : List Ch} {f : FuncId} {vs : List Value} {ss : List S} {post : Nat → (S → List Ch → Prop) → Prop} (h : St c env H a w) (con : ConN P f ss Hin post) (hvs : SOks w (c.av H) ss vs) (hp : pick is H = some (Hin, Hr))
    (hpost : ∀ m, c.B.heap.size ≤ m → post m (fun s Hout => K s (Hout ++ Hr))) {next : Act → World → Prop} {Q : Exit → Act → World → Prop} {o : Oper}
    (hn : ∀ s H' v w', K s H' → StW c H' w' → SOk w' (c.av H') s v → (∀ s v, SOk w (c.av H) s v → SOk w' (c.av H') s v) → next (a.put o.dst v) w')
    (hrun : (execOp a.eval o).run P w = .ok (.enter f vs.toArray) w) : o.wp P a w next Q := by
  have hperm := pick_perm hp
  have h' : StW c (Hin ++ Hr) w := h.heap.perm hperm
  have hav : c.av (Hin ++ Hr) = c.av H := av_perm c hperm
  have hnd := h'.nodup
  rw [hb_app, List.nodup_append] at hnd
  unfold Oper.wp
  rw [hrun, Oper.upon_enter]
  refine (con vs w (c.av H) (fun b hb => h.heap.avlt b hb) (fun b hb => by rw [← hav]; exact .inr (by rw [hb_app]; exact List.mem_append.2 (.inl hb))) hnd.1 hvs
    (fun ch hch => by rw [← hav]; exact h'.ok ch (List.mem_append.2 (.inl hch))) h.heap.gl).mono ?_
  rintro e w' ⟨v, s, Hout, rfl, hK, hs, hok, hnd', hnew, hg⟩
  have hA : ∀ b, c.av (Hout ++ Hr) b → c.av H b ∨ b ∈ hb Hout := by
    intro b hb
    rw [← hav]
    rcases hb with hb | hb
    · exact .inl (.inl hb)
    · rw [hb_app] at hb
      rcases List.mem_append.1 hb with hb | hb
      · exact .inr hb
      · exact .inl (.inr (by rw [hb_app]; exact List.mem_append.2 (.inr hb)))
  obtain ⟨s1, s2⟩ := StW.step h' hg hnew hnd' (fun ch hch => Ch.up (Up.refl _ _) (fun b hb => .inl (hA b hb)) (fun _ _ => rfl) (hok ch hch))
  exact hn s (Hout ++ Hr) v w' (hK (fun s Ho => K s (Ho ++ Hr)) (hpost _ h.heap.size)) s1 (sok_up (Up.refl _ _) (fun b hb => .inl (hA b hb)) s v hs) (fun s v hs => s2 s v (by rw [hav]; exact hs))

theorem call_core {a : Act} {w : World} {is : List Nat} {Hin Hr : List Ch} {f : FuncId} {vs : List Value} {ss : List S} {post : (S → List Ch → Prop) → Prop} (h : St c env H a w) (con : Con P f ss Hin post) (hvs : SOks w (c.av H) ss vs) (hp : pick is H = some (Hin, Hr))
    (hpost : post (fun s Hout => K s (Hout ++ Hr))) {next : Act → World → Prop} {Q : Exit → Act → World → Prop} {o : Oper}
    (hn : ∀ s H' v w', K s H' → StW c H' w' → SOk w' (c.av H') s v → (∀ s v, SOk w (c.av H) s v → SOk w' (c.av H') s v) → next (a.put o.dst v) w')
    (hrun : (execOp a.eval o).run P w = .ok (.enter f vs.toArray) w) : o.wp P a w next Q :=
  call_coreN h con hvs hp (fun _ _ => hpost) hn hrun

theorem ow_callN {Hin Hr : List Ch} {f : FuncId} [FI P f] {xs : Array Operand} {at_ : Array TypeId} {ss : List S} {post : Nat → (S → List Ch → Prop) → Prop} (is : List Nat) (hx : env.evs xs.toList = some ss) (hp : pick is H = some (Hin, Hr)) (con : ConN P f ss Hin post)
    (hpost : ∀ m, c.B.heap.size ≤ m → post m (fun s Hout => K s (Hout ++ Hr))) : OpWp c ⟨d, .call { callee := .value (.func f), args := xs, argTypes := at_ }, ty, pos, af, g⟩ env H K := by
  intro a w h next Q hn
  refine call_coreN h con (evs_ok h hx) hp hpost hn ?_
  have e1 : (xs.map a.eval) = (xs.toList.map a.eval).toArray := by apply Array.ext'; simp
  simp only [execOp, resolve, invoke, Act.eval, Deferred.ofValue, Sem.run_bind, Sem.run_pure, Result.andThen_ok]
  rw [e1]
  simp [FI.hrun]
/-- A call whose results are new: for each i of which p holds at the time (see ConN). -/
theorem ow_callNP {Hin Hr : List Ch} {f : FuncId} [FI P f] {xs : Array Operand} {at_ : Array TypeId} {ss : List S} {ι : Type} {p : Nat → ι → Prop} {s0 : ι → S} {Hout : ι → List Ch} (is : List Nat) (hx : env.evs xs.toList = some ss) (hp : pick is H = some (Hin, Hr)) (con : ConN P f ss Hin (fun n K => ∀ i, p n i → K (s0 i) (Hout i)))
    (hK : ∀ i m, c.B.heap.size ≤ m → p m i → K (s0 i) (Hout i ++ Hr)) : OpWp c ⟨d, .call { callee := .value (.func f), args := xs, argTypes := at_ }, ty, pos, af, g⟩ env H K :=
  ow_callN is hx hp con (fun m hm i hi => hK i m hm hi)

theorem ow_call {Hin Hr : List Ch} {f : FuncId} [FI P f] {xs : Array Operand} {at_ : Array TypeId} {ss : List S} {post : (S → List Ch → Prop) → Prop} (is : List Nat) (hx : env.evs xs.toList = some ss) (hp : pick is H = some (Hin, Hr)) (con : Con P f ss Hin post)
    (hpost : post (fun s Hout => K s (Hout ++ Hr))) : OpWp c ⟨d, .call { callee := .value (.func f), args := xs, argTypes := at_ }, ty, pos, af, g⟩ env H K := by
  intro a w h next Q hn
  refine call_core h con (evs_ok h hx) hp hpost hn ?_
  have e1 : (xs.map a.eval) = (xs.toList.map a.eval).toArray := by apply Array.ext'; simp
  simp only [execOp, resolve, invoke, Act.eval, Deferred.ofValue, Sem.run_bind, Sem.run_pure, Result.andThen_ok]
  rw [e1]
  simp [FI.hrun]

theorem ow_call1 {Hin Hr Hout : List Ch} {f : FuncId} [FI P f] {xs : Array Operand} {at_ : Array TypeId} {ss : List S} {s0 : S} (is : List Nat) (hx : env.evs xs.toList = some ss) (hp : pick is H = some (Hin, Hr)) (con : Con P f ss Hin (fun K => K s0 Hout))
    (hK : K s0 (Hout ++ Hr)) : OpWp c ⟨d, .call { callee := .value (.func f), args := xs, argTypes := at_ }, ty, pos, af, g⟩ env H K :=
  ow_call is hx hp con hK
/-- A pure function: it owns nothing and hands nothing over. -/
theorem ow_call0 {f : FuncId} [FI P f] {xs : Array Operand} {at_ : Array TypeId} {ss : List S} {s0 : S} (hx : env.evs xs.toList = some ss) (con : Con P f ss [] (fun K => K s0 []))
    (hK : K s0 H) : OpWp c ⟨d, .call { callee := .value (.func f), args := xs, argTypes := at_ }, ty, pos, af, g⟩ env H K :=
  ow_call [] hx rfl con hK
theorem ow_callP {Hin Hr : List Ch} {f : FuncId} [FI P f] {xs : Array Operand} {at_ : Array TypeId} {ss : List S} {ι : Type} {p : ι → Prop} {s0 : ι → S} {Hout : ι → List Ch} (is : List Nat) (hx : env.evs xs.toList = some ss) (hp : pick is H = some (Hin, Hr)) (con : Con P f ss Hin (fun K => ∀ i, p i → K (s0 i) (Hout i)))
    (hK : ∀ i, p i → K (s0 i) (Hout i ++ Hr)) : OpWp c ⟨d, .call { callee := .value (.func f), args := xs, argTypes := at_ }, ty, pos, af, g⟩ env H K :=
  ow_call is hx hp con hK

/-- A call of a function value. -/
theorem ow_callv {Hin Hr : List Ch} {f : FuncId} [FI P f] {z : Operand} {cap : Array Value} {cs : List S} {xs : Array Operand} {at_ : Array TypeId} {ss : List S} {post : (S → List Ch → Prop) → Prop} (is : List Nat) (hz : env.ev z = some (.cell (.val (.func (.func f) #[] cap)))) (hx : env.evs xs.toList = some ss)
    (hcap : ∀ w, StW c H w → SOks w (c.av H) cs cap.toList) (hp : pick is H = some (Hin, Hr)) (con : Con P f (ss ++ cs) Hin post)
    (hpost : post (fun s Hout => K s (Hout ++ Hr))) : OpWp c ⟨d, .call { callee := .value z, args := xs, argTypes := at_ }, ty, pos, af, g⟩ env H K := by
  intro a w h next Q hn
  have happ : ∀ {ss : List S} {vs : List Value}, SOks w (c.av H) ss vs → SOks w (c.av H) (ss ++ cs) (vs ++ cap.toList) := by
    intro ss
    induction ss with
    | nil => intro vs hv; simp only [SOks] at hv; subst hv; simpa using hcap w h.heap
    | cons s ss ih => intro vs hv; obtain ⟨v, r, rfl, h1, h2⟩ := hv; exact ⟨v, _, rfl, h1, ih h2⟩
  refine call_core h con (happ (evs_ok h hx)) hp hpost hn ?_
  simp only [execOp, resolve, invoke, ev_val h hz, Deferred.ofValue, Sem.run_bind, Sem.run_pure, Result.andThen_ok]
  have e1 : (xs.map a.eval) = (xs.toList.map a.eval).toArray := by apply Array.ext'; simp
  rw [e1]
  simp [FI.hrun, ← List.append_toArray]

theorem ow_callv0 {f : FuncId} [FI P f] {z : Operand} {xs : Array Operand} {at_ : Array TypeId} {ss : List S} {s0 : S} (hz : env.ev z = some (.cell (.val (.func (.func f) #[] #[])))) (hx : env.evs xs.toList = some ss) (con : Con P f ss [] (fun K => K s0 []))
    (hK : K s0 H) : OpWp c ⟨d, .call { callee := .value z, args := xs, argTypes := at_ }, ty, pos, af, g⟩ env H K :=
  ow_callv (cs := []) [] hz hx (fun _ _ => rfl) rfl (by simpa using con) hK

/-! Ghost steps -/
theorem jc_ownNil {Q : Exit → Act → World → Prop} {code : Code} (e : TypeId) (k : Nat) (hk : 0 < k) (h : JC c code Q env (.own (.slice none 0 0) e k [] :: H)) : JC c code Q env H :=
  fun a w hs => h a w (st_ownNil hs e k hk)
theorem jl_ownNil {ops : Array Oper} {Q : Exit → Act → World → Prop} {l : List Oper} (e : TypeId) (k : Nat) (hk : 0 < k) (h : JL c ops Q l env (.own (.slice none 0 0) e k [] :: H)) : JL c ops Q l env H :=
  fun a w hs => h a w (st_ownNil hs e k hk)

/-- What is owned becomes what is only read: slot i, chunk j. -/
theorem st_freeze {a : Act} {w : World} {i : Nat} {v : Value} {e : TypeId} {k j : Nat} {rows : List (List C)} {Hr : List Ch} (h : St c env H a w) (hi : env.lookup i = some (.cell (.val v))) (hp : pick [j] H = some ([.own v e k rows], Hr)) (hX : ∀ b ∈ c.X, b ∈ hb Hr) :
    St c ((i, .cell (.list rows)) :: env) Hr a w := by
  have h' : StW c (.own v e k rows :: Hr) w := h.heap.perm (pick_perm hp)
  have hav : c.av (.own v e k rows :: Hr) = c.av H := av_perm c (pick_perm hp)
  obtain ⟨f1, f2, f3⟩ := stw_freeze h' hX
  refine ⟨h.size, h.defers, ?_, f1⟩
  intro t s hl
  rcases lookup_cons hl with ⟨rfl, rfl⟩ | ⟨_, hl⟩
  · have : a.tmps.getD t undef = v := (h.slots t _ hi).1
    rw [this]
    exact f2
  · exact f3 _ _ (by rw [hav]; exact h.slots t s hl)
theorem jc_freeze {Q : Exit → Act → World → Prop} {code : Code} (i j : Nat) {v : Value} {e : TypeId} {k : Nat} {rows : List (List C)} {Hr : List Ch} (hi : env.lookup i = some (.cell (.val v))) (hp : pick [j] H = some ([.own v e k rows], Hr)) (hX : ∀ b ∈ c.X, b ∈ hb Hr)
    (h : JC c code Q ((i, .cell (.list rows)) :: env) Hr) : JC c code Q env H := fun a w hs => h a w (st_freeze hs hi hp hX)
theorem jl_freeze {ops : Array Oper} {Q : Exit → Act → World → Prop} {l : List Oper} (i j : Nat) {v : Value} {e : TypeId} {k : Nat} {rows : List (List C)} {Hr : List Ch} (hi : env.lookup i = some (.cell (.val v))) (hp : pick [j] H = some ([.own v e k rows], Hr)) (hX : ∀ b ∈ c.X, b ∈ hb Hr)
    (h : JL c ops Q l ((i, .cell (.list rows)) :: env) Hr) : JL c ops Q l env H := fun a w hs => h a w (st_freeze hs hi hp hX)
theorem jq_freeze {Q : Exit → Act → World → Prop} {ex : Exit} (i j : Nat) {v : Value} {e : TypeId} {k : Nat} {rows : List (List C)} {Hr : List Ch} (hi : env.lookup i = some (.cell (.val v))) (hp : pick [j] H = some ([.own v e k rows], Hr)) (hX : ∀ b ∈ c.X, b ∈ hb Hr)
    (h : JQ c Q ex ((i, .cell (.list rows)) :: env) Hr) : JQ c Q ex env H := fun a w hs => h a w (st_freeze hs hi hp hX)

theorem st_freezeF {a : Act} {w : World} {i : Nat} {v : Value} {e : TypeId} {k j : Nat} {rows : List (List C)} {Hr : List Ch} (h : St c env H a w) (hi : env.lookup i = some (.cell (.val v))) (hp : pick [j] H = some ([.own v e k rows], Hr)) (hX : c.Fresh v) :
    St c ((i, .cell (.list rows)) :: env) Hr a w := by
  have h' : StW c (.own v e k rows :: Hr) w := h.heap.perm (pick_perm hp)
  have hav : c.av (.own v e k rows :: Hr) = c.av H := av_perm c (pick_perm hp)
  obtain ⟨f1, f2, f3⟩ := stw_freezeF h' hX
  refine ⟨h.size, h.defers, ?_, f1⟩
  intro t s hl
  rcases lookup_cons hl with ⟨rfl, rfl⟩ | ⟨_, hl⟩
  · have : a.tmps.getD t undef = v := (h.slots t _ hi).1
    rw [this]
    exact f2
  · exact f3 _ _ (by rw [hav]; exact h.slots t s hl)
theorem jc_freezeF {Q : Exit → Act → World → Prop} {code : Code} (i j : Nat) {v : Value} {e : TypeId} {k : Nat} {rows : List (List C)} {Hr : List Ch} (hi : env.lookup i = some (.cell (.val v))) (hp : pick [j] H = some ([.own v e k rows], Hr)) (hX : c.Fresh v)
    (h : JC c code Q ((i, .cell (.list rows)) :: env) Hr) : JC c code Q env H := fun a w hs => h a w (st_freezeF hs hi hp hX)
theorem jl_freezeF {ops : Array Oper} {Q : Exit → Act → World → Prop} {l : List Oper} (i j : Nat) {v : Value} {e : TypeId} {k : Nat} {rows : List (List C)} {Hr : List Ch} (hi : env.lookup i = some (.cell (.val v))) (hp : pick [j] H = some ([.own v e k rows], Hr)) (hX : c.Fresh v)
    (h : JL c ops Q l ((i, .cell (.list rows)) :: env) Hr) : JL c ops Q l env H := fun a w hs => h a w (st_freezeF hs hi hp hX)
theorem jq_freezeF {Q : Exit → Act → World → Prop} {ex : Exit} (i j : Nat) {v : Value} {e : TypeId} {k : Nat} {rows : List (List C)} {Hr : List Ch} (hi : env.lookup i = some (.cell (.val v))) (hp : pick [j] H = some ([.own v e k rows], Hr)) (hX : c.Fresh v)
    (h : JQ c Q ex ((i, .cell (.list rows)) :: env) Hr) : JQ c Q ex env H := fun a w hs => h a w (st_freezeF hs hi hp hX)


/-! The function's own body -/
/-- What is asked at its end. -/
def RR (c : Cx P nt) (post : (S → List Ch → Prop) → Prop) (e : Ending) (w' : World) : Prop :=
  ∃ v s Hout, e = .returned v ∧ (∀ K, post K → K s Hout) ∧ SOk w' (fun b => c.A b ∨ b ∈ hb Hout) s v ∧ (∀ ch ∈ Hout, ch.ok w' (fun b => c.A b ∨ b ∈ hb Hout)) ∧
      (hb Hout).Nodup ∧ (∀ b ∈ hb Hout, b ∈ c.X ∨ c.B.heap.size ≤ b) ∧ Grow c.X c.B w'

def enum : Nat → List S → Env
  | _, [] => []
  | n, s :: ss => (n, s) :: enum (n + 1) ss

theorem enum_lookup {w : World} {A : Nat → Prop} : ∀ {ss : List S} {vs : List Value} {n i : Nat} {s : S}, SOks w A ss vs → (enum n ss).lookup i = some s → ∃ v, n ≤ i ∧ vs[i - n]? = some v ∧ SOk w A s v
  | [], _, _, _, _, _, h => by simp [enum] at h
  | s0 :: ss, _, n, i, s, hs, h => by
    obtain ⟨v, r, rfl, h1, h2⟩ := hs
    rcases lookup_cons h with ⟨rfl, rfl⟩ | ⟨hne, h⟩
    · exact ⟨v, Nat.le_refl _, by simp, h1⟩
    · obtain ⟨v', g1, g2, g3⟩ := enum_lookup h2 h
      refine ⟨v', by omega, ?_, g3⟩
      rw [show i - n = (i - (n + 1)) + 1 by omega, List.getElem?_cons_succ]
      exact g2

theorem con_introN {f : FuncId} {fn : Func} {code : Code} {args : List S} {Hin : List Ch} {post : Nat → (S → List Ch → Prop) → Prop} (hf : P.funcs[f]? = some fn) (hbd : fn.body = some code) (hnt : fn.ntmps = nt) (hle : args.length ≤ nt)
    (h : ∀ c : Cx P nt, c.X = hb Hin → JC c code (bodyPost P fn (RR c (post c.B.heap.size))) (enum 0 args) Hin) : ConN P f args Hin post := by
  intro vs w A hA hHA hnd hvs hok hgl
  have hlen := soks_length hvs
  let c : Cx P nt := ⟨w, A, hb Hin, hA⟩
  have hav : ∀ b, c.av Hin b → A b := fun b hb => hb.elim id (hHA b)
  refine calls_of_wp hf hbd ?_
  refine h c rfl _ _ ⟨?_, rfl, ?_, ⟨rfl, rfl, rfl, Nat.le_refl _, fun _ _ _ => rfl, fun ch hch => Ch.up (Up.refl _ _) (fun b hb => .inl (hav b hb)) (fun _ _ => rfl) (hok ch hch), hnd, fun b hb => .inl hb, Gl.up (Up.refl _ _) (fun b hb => .inl (hav b hb)) hgl⟩⟩
  · simp only [Array.size_append, Array.size_replicate, List.size_toArray, hnt]
    omega
  · intro i s hi
    obtain ⟨v, _, h2, h3⟩ := enum_lookup hvs hi
    have hlt : i < vs.length := (List.getElem?_eq_some_iff.1 (by simpa using h2)).1
    rw [Array.getD_eq_getD_getElem?, Array.getElem?_append_left (by simpa using hlt)]
    simp only [List.getElem?_toArray]
    simp only [Nat.sub_zero] at h2
    rw [h2]
    exact sok_up (Up.refl _ _) (fun b hb => .inl (hav b hb)) s v h3

theorem con_intro {f : FuncId} {fn : Func} {code : Code} {args : List S} {Hin : List Ch} {post : (S → List Ch → Prop) → Prop} (hf : P.funcs[f]? = some fn) (hbd : fn.body = some code) (hnt : fn.ntmps = nt) (hle : args.length ≤ nt)
    (h : ∀ c : Cx P nt, c.X = hb Hin → JC c code (bodyPost P fn (RR c post)) (enum 0 args) Hin) : Con P f args Hin post :=
  con_introN hf hbd hnt hle h

theorem stw_grow {w : World} (h : StW c H w) : Grow c.X c.B w := ⟨h.os, h.tape, h.output, h.size, h.block⟩

/-- The results, out of slots and of blocks of one's own. -/
def ResOk (P : Program) [Gl P] (env : Env) (H : List Ch) : List ResultVar → List S → Prop
  | [], ss => ss = []
  | .tmp t :: r, ss => ∃ s sr, ss = s :: sr ∧ env.lookup t = some s ∧ ResOk P env H r sr
  | .cell a t :: r, ss => ∃ s sr b j bt row Hr, ss = s :: sr ∧ env.lookup a = some (.cell (.val (.pointer (some ⟨b, 0, none⟩)))) ∧ pick [j] H = some ([.blk b bt row], Hr) ∧
      (∀ w vs, RdRow w (c.av H) row vs → Cells w b 0 vs → ∃ v, (loadVar t ⟨b, 0, none⟩).run P w = .ok v w ∧ SOk w (c.av H) s v) ∧ ResOk P env H r sr

omit [Gl P] in
theorem res_row [TI P t] (ha : aggB (TI.u P t) = true) {row : List C} (hz : (TI.i P t).size = row.length) {b : Nat} : ∀ w vs, RdRow w (c.av H) row vs → Cells w b 0 vs → ∃ v, (loadVar t ⟨b, 0, none⟩).run P w = .ok v w ∧ SOk w (c.av H) (.row row) v :=
  fun w vs hr hc => ⟨_, run_loadVarN t ha (by rw [hz, rdRow_length hr]) hc, _, rfl, by simpa using hr⟩
omit [Gl P] in
theorem res_cell [TI P t] (ha : aggB (TI.u P t) = false) {c1 : C} {b : Nat} : ∀ w vs, RdRow w (c.av H) [c1] vs → Cells w b 0 vs → ∃ v, (loadVar t ⟨b, 0, none⟩).run P w = .ok v w ∧ SOk w (c.av H) (.cell c1) v :=
  fun w vs hr hc => by
    obtain ⟨v, r, rfl, hv, _⟩ := hr
    exact ⟨v, run_loadVar1 t ha (by simpa using hc 0 v (by simp)), hv⟩

def resOf (tmps : Array Value) : ResultVar → Sem Value
  | .tmp t => pure (tmps.getD t undef)
  | .cell x t => do loadVar t (← asAddr (tmps.getD x undef))
theorem results_eq (fn : Func) (tmps : Array Value) : results fn tmps = (do let vs ← fn.results.mapM (resOf tmps); pure (if h : vs.size = 1 then vs[0] else .tuple vs)) := rfl

theorem res_ok {a : Act} {w : World} (h : St c env H a w) : ∀ {rs : List ResultVar} {ss : List S}, ResOk (c := c) P env H rs ss → ∃ vs, (rs.mapM (resOf a.tmps)).run P w = .ok vs w ∧ SOks w (c.av H) ss vs
  | [], ss, hr => by simp only [ResOk] at hr; subst hr; exact ⟨[], by simp, rfl⟩
  | .tmp t :: r, ss, hr => by
    obtain ⟨s, sr, rfl, h1, h2⟩ := hr
    obtain ⟨vs, g1, g2⟩ := res_ok h h2
    exact ⟨_, by simp only [List.mapM_cons, resOf, Sem.run_bind, Sem.run_pure, Result.andThen_ok, g1], _, _, rfl, h.slots t s h1, g2⟩
  | .cell x t :: r, ss, hr => by
    obtain ⟨s, sr, b, j, bt, row, Hr, rfl, h1, hp, hl, h2⟩ := hr
    obtain ⟨vs, g1, g2⟩ := res_ok h h2
    have hx := h.slots x _ h1
    obtain ⟨cs, hh, hrow⟩ := blk_ok h hp
    obtain ⟨v, hv1, hv2⟩ := hl w cs hrow (by simpa using cells_of_blk hh 0)
    refine ⟨v :: vs, ?_, _, _, rfl, hv2, g2⟩
    have hx' : a.tmps.getD x undef = .pointer (some ⟨b, 0, none⟩) := hx.1
    have e1 : (resOf a.tmps (.cell x t)).run P w = .ok v w := by
      simp only [resOf, hx', asAddr, Sem.run_bind, Sem.run_pure, Result.andThen_ok, hv1]
    simp only [List.mapM_cons, Sem.run_bind, e1, Sem.run_pure, Result.andThen_ok, g1]

def resS : List S → S
  | [s] => s
  | ss => .tup ss

theorem jq_retG {fn : Func} {post : (S → List Ch → Prop) → Prop} {ss : List S} {is : List Nat} {Hout Hr : List Ch} {ex : Exit} (hex : ex = .ret ∨ ex = .normal) (hres : ResOk (c := c) P env H fn.results.toList ss) (hp : pick is H = some (Hout, Hr)) (hpost : ∀ K, post K → K (resS ss) Hout) :
    JQ c (bodyPost P fn (RR c post)) ex env H := by
  intro a w h
  obtain ⟨vs, g1, g2⟩ := res_ok h hres
  have hperm := pick_perm hp
  have h' : StW c (Hr ++ Hout) w := (h.heap.perm hperm).perm List.perm_append_comm
  obtain ⟨d1, d2⟩ := h'.drop
  have hav : c.av (Hr ++ Hout) = c.av H := (av_perm c List.perm_append_comm).trans (av_perm c hperm)
  have hlen := soks_length g2
  have key : ∃ v, (results fn a.tmps).run P w = .ok v w ∧ SOk w (c.av H) (resS ss) v := by
    have hm : (fn.results.mapM (resOf a.tmps)).run P w = .ok vs.toArray w := by
      rw [Array.mapM_eq_mapM_toList, Sem.run_map, g1]
      rfl
    rw [results_eq, Sem.run_bind, hm, Result.andThen_ok]
    match ss, vs, g2, hlen with
    | [], [], g2, _ => exact ⟨_, by simp, [], rfl, rfl⟩
    | [s], [v], g2, _ =>
      obtain ⟨_, _, he, h1, _⟩ := g2
      simp only [List.cons.injEq] at he
      obtain ⟨rfl, _⟩ := he
      exact ⟨v, by simp, h1⟩
    | s1 :: s2 :: sr, v1 :: v2 :: vr, g2, _ => exact ⟨_, by simp, _, rfl, g2⟩
    | [], _ :: _, _, hl => simp at hl
    | [_], [], _, hl => simp at hl
    | [_], _ :: _ :: _, _, hl => simp at hl
    | _ :: _ :: _, [], _, hl => simp at hl
    | _ :: _ :: _, [_], _, hl => simp at hl
  obtain ⟨v, hrun, hv⟩ := key
  have fin : RR c post (.returned v) w := ⟨v, resS ss, Hout, rfl, hpost, d2 _ _ (by rw [hav]; exact hv), d1.ok, d1.nodup, d1.mine, stw_grow d1⟩
  rcases hex with rfl | rfl
  · exact ⟨h.defers, v, hrun, fin⟩
  · exact ⟨h.defers, v, hrun, fin⟩

/-- One result. -/
theorem jq_ret1 {fn : Func} {post : (S → List Ch → Prop) → Prop} {t : Tmp} {s : S} (hres : fn.results = #[.tmp t]) (hl : env.lookup t = some s) (is : List Nat) {Hout Hr : List Ch} (hp : pick is H = some (Hout, Hr)) (hpost : ∀ K, post K → K s Hout) :
    JQ c (bodyPost P fn (RR c post)) .ret env H :=
  jq_retG (ss := [s]) (.inl rfl) (by rw [hres]; exact ⟨s, [], rfl, hl, rfl⟩) hp hpost
theorem jq_ret2 {fn : Func} {post : (S → List Ch → Prop) → Prop} {t u : Tmp} {s s' : S} (hres : fn.results = #[.tmp t, .tmp u]) (hl : env.lookup t = some s) (hl' : env.lookup u = some s') (is : List Nat) {Hout Hr : List Ch} (hp : pick is H = some (Hout, Hr)) (hpost : ∀ K, post K → K (.tup [s, s']) Hout) :
    JQ c (bodyPost P fn (RR c post)) .ret env H :=
  jq_retG (ss := [s, s']) (.inl rfl) (by rw [hres]; exact ⟨s, _, rfl, hl, s', _, rfl, hl', rfl⟩) hp hpost
theorem jq_retRow {fn : Func} {post : (S → List Ch → Prop) → Prop} {a : Tmp} [TI P t] {b : Nat} {bt : TypeId} {row : List C} {Hx : List Ch} (hres : fn.results = #[.cell a t]) (ha : aggB (TI.u P t) = true) (hz : (TI.i P t).size = row.length) (hl : env.lookup a = some (.cell (.val (.pointer (some ⟨b, 0, none⟩))))) (j : Nat) (hj : pick [j] H = some ([.blk b bt row], Hx)) (is : List Nat) {Hout Hr : List Ch} (hp : pick is H = some (Hout, Hr)) (hpost : ∀ K, post K → K (.row row) Hout) :
    JQ c (bodyPost P fn (RR c post)) .ret env H :=
  jq_retG (ss := [.row row]) (.inl rfl) (by rw [hres]; exact ⟨.row row, [], b, j, bt, row, Hx, rfl, hl, hj, res_row ha hz, rfl⟩) hp hpost

/-! Tests, loops -/
theorem jc_cond {Q : Exit → Act → World → Prop} {thn els : Code} {b : Bool} (hx : env.ev x = some (Bl b)) (h1 : b = true → JC c thn Q env H) (h2 : b = false → JC c els Q env H) : JC c (.cond x thn els) Q env H := by
  intro a w h
  have hv : a.eval x = .bool b := ev_val h hx
  cases b with
  | true => exact wp_cond_true hv (h1 rfl a w h)
  | false => exact wp_cond_false hv (h2 rfl a w h)
theorem jc_condd {Q : Exit → Act → World → Prop} {thn els : Code} {p : Prop} [Decidable p] (hx : env.ev x = some (Bl (decide p))) (h1 : p → JC c thn Q env H) (h2 : ¬ p → JC c els Q env H) : JC c (.cond x thn els) Q env H :=
  jc_cond hx (fun h => h1 (by simpa using h)) (fun h => h2 (by simpa using h))

def Env.only (env : Env) (ks : List Nat) : Env := ks.filterMap fun k => (env.lookup k).map fun s => (k, s)

/-- A loop: the slots 'ks' keep what they hold; 'ch' says what becomes of others; 'I' is what else holds. -/
theorem jc_loop {ι : Type} (ks : List Nat) (I : ι → Prop) (ch : ι → Env) (HH : ι → List Ch) (μ : ι → Nat) (i : ι) (is : List Nat) {Q : Exit → Act → World → Prop} {code : Code} {Hr : List Ch} (hI : I i) (hp : pick is H = some (HH i, Hr)) (hE : Env.le (ch i ++ env.only ks) env)
    (hbody : ∀ i, I i → JC c code (Exit.then (fun a w => ∃ j, I j ∧ μ j < μ i ∧ St c (ch j ++ env.only ks) (HH j) a w) Q) (ch i ++ env.only ks) (HH i)) : JC c (.loop code) Q env H := by
  intro a w h
  have h0 : St c (ch i ++ env.only ks) (HH i) a w := by
    have h1 := (h.perm (pick_perm hp)).perm List.perm_append_comm
    exact (h1.drop).weaken hE
  refine wp_loop_ghost (fun n a w => ∃ i, I i ∧ μ i = n ∧ St c (ch i ++ env.only ks) (HH i) a w) (μ i) ⟨i, hI, rfl, h0⟩ ?_
  rintro n a w ⟨i, hI, rfl, hs⟩
  refine Code.wp_mono ?_ (hbody i hI a w hs)
  intro e a w hq
  cases e with
  | normal =>
    obtain ⟨j, hI, hj, hs⟩ := hq
    exact ⟨μ j, hj, j, hI, rfl, hs⟩
  | _ => exact hq

/-- A cut: what holds behind the code at hand, where ways meet again. -/
theorem jc_cut {ι : Type} (ks : List Nat) (I : ι → Prop) (ch : ι → Env) (HH : ι → List Ch) {Q : Exit → Act → World → Prop} {x y : Code}
    (hx : JC c x (Exit.then (fun a w => ∃ i, I i ∧ St c (ch i ++ env.only ks) (HH i) a w) Q) env H) (hy : ∀ i, I i → JC c y Q (ch i ++ env.only ks) (HH i)) : JC c x (Exit.then (fun a w => y.wp P Q a w) Q) env H := by
  intro a w h
  refine Code.wp_mono ?_ (hx a w h)
  intro e a w hq
  cases e with
  | normal => obtain ⟨i, hI, hs⟩ := hq; exact hy i hI a w hs
  | _ => exact hq
theorem jq_cut {ι : Type} {I : ι → Prop} {E : ι → Env} {HH : ι → List Ch} {Q : Exit → Act → World → Prop} (i : ι) (is : List Nat) {Hr : List Ch} (hI : I i) (hp : pick is H = some (HH i, Hr)) (hE : Env.le (E i) env) :
    JQ c (Exit.then (fun a w => ∃ i, I i ∧ St c (E i) (HH i) a w) Q) .normal env H := by
  intro a w h
  have h1 := (h.perm (pick_perm hp)).perm List.perm_append_comm
  exact ⟨i, hI, (h1.drop).weaken hE⟩

/-- The end of a round. -/
theorem jq_again {ι : Type} {I : ι → Prop} {E : ι → Env} {HH : ι → List Ch} {μ : ι → Nat} {Q : Exit → Act → World → Prop} {i : ι} (j : ι) (is : List Nat) {Hr : List Ch} (hI : I j) (hμ : μ j < μ i) (hp : pick is H = some (HH j, Hr)) (hE : Env.le (E j) env) :
    JQ c (Exit.then (fun a w => ∃ j, I j ∧ μ j < μ i ∧ St c (E j) (HH j) a w) Q) .normal env H := by
  intro a w h
  have h1 := (h.perm (pick_perm hp)).perm List.perm_append_comm
  exact ⟨j, hI, hμ, (h1.drop).weaken hE⟩
end
end Go.Vc
