import Derived.Test.YtjnfamgjffnfiaaDoorVc8
namespace Go.Vc
open Go.RowKit

/-- From 'each of them' to 'some of a family'. -/
theorem con_toEx {P : Program} [Gl P] {f : FuncId} {ss : List S} {Hin Hout : List Ch} {ι : Type} {p : ι → Prop} {g : ι → S} (h : Con P f ss Hin (fun K => ∀ i, p i → K (g i) Hout)) : Con P f ss Hin (fun K => K (.ex (fun i : {x // p x} => g i.1)) Hout) := by
  intro vs w A h1 h2 h3 h4 h5 h6
  refine (h vs w A h1 h2 h3 h4 h5 h6).mono ?_
  rintro e w' ⟨v, s, Ho, he, hK, hs, hrest⟩
  obtain ⟨i, hi, rfl, rfl⟩ := hK (fun s' H' => ∃ i, p i ∧ s' = g i ∧ H' = Hout) (fun i hi => ⟨i, hi, rfl, rfl⟩)
  exact ⟨v, _, _, he, fun K hK' => hK', ⟨⟨i, hi⟩, hs⟩, hrest⟩

section
variable {P : Program} [Gl P] {nt : Nat} {c : Cx P nt} {env : Env} {H : List Ch} {K : S → List Ch → Prop}
variable {d : Option Tmp} {ty t t' : TypeId} {pos : String} {af : Array Edge} {g : Option (Nat × Bool)} {x y : Operand}

/-- An operation that looks at what is some of a family: what it gives is some of a family. -/
theorem ow_exarg {ι : Type} {o : Oper} {f : ι → S} {r : ι → S} (t : Nat) (hl : env.lookup t = some (.ex f)) (h : ∀ i, OpWp c o ((t, f i) :: env) H (fun s' H' => s' = r i ∧ H'.Perm H)) : OpWp c o env H (fun s' H' => s' = .ex r ∧ H'.Perm H) := by
  intro a w hs next Q hn
  obtain ⟨i, hi⟩ := st_slot hs hl
  refine h i a w hi next Q ?_
  rintro s H' v w' ⟨rfl, hp⟩ h1 h2 h3
  exact hn (.ex r) H' v w' ⟨rfl, hp⟩ h1 ⟨i, h2⟩ h3
theorem ow_exargC {ι : Type} {o : Oper} {f : ι → C} {r : ι → S} (t : Nat) (hl : env.lookup t = some (.cell (.ex f))) (h : ∀ i, OpWp c o ((t, .cell (f i)) :: env) H (fun s' H' => s' = r i ∧ H'.Perm H)) : OpWp c o env H (fun s' H' => s' = .ex r ∧ H'.Perm H) := by
  intro a w hs next Q hn
  obtain ⟨i, hi⟩ := st_slotC hs hl
  refine h i a w hi next Q ?_
  rintro s H' v w' ⟨rfl, hp⟩ h1 h2 h3
  exact hn (.ex r) H' v w' ⟨rfl, hp⟩ h1 ⟨i, h2⟩ h3

/-! A slice of one's own, cut at its end -/
def trimV (v : Value) (m : Nat) : Value := match v with
  | .slice p _ cap => .slice p m cap
  | v => v
theorem ow_trim [SL P t] {v : Value} {e : TypeId} {k : Nat} {rows : List (List C)} {Hr : List Ch} {m : Int} (j : Nat) (hx : env.ev x = some (.cell (.val v))) (hp : pick [j] H = some ([.own v e k rows], Hr)) (hy : env.ev y = some (In .i64 m)) (h0 : 0 ≤ m) (hle : m.toNat ≤ rows.length)
    (hK : K (.cell (.val (trimV v m.toNat))) H) : OpWp c ⟨d, .slice t x none (some y) none, ty, pos, af, g⟩ env H K :=
  ow_val (fun a w h => by
    obtain ⟨vs, ho, _, _⟩ := h.heap.ok (.own v e k rows) ((pick_perm hp).mem_iff.2 (by simp))
    have key : ∃ p n cap, v = .slice p n cap ∧ m.toNat ≤ cap := by
      rcases ho.2 with ⟨rfl, h0⟩ | ⟨b, cap, cur, rfl, _, _, h1, _⟩
      · exact ⟨none, 0, 0, rfl, by omega⟩
      · exact ⟨_, _, _, rfl, by omega⟩
    obtain ⟨p, n, cap, rfl, hcap⟩ := key
    refine ⟨.slice p m.toNat cap, ?_, rfl, rfl⟩
    have hb : 0 ≤ m ∧ m ≤ (cap : Int) := ⟨h0, by omega⟩
    simp [execOp, ev_val h hx, ev_val h hy, Instr.sliceAt, Instr.slice, Instr.sliceBounds, Instr.sliceBound, asIntOf, run_elem t, run_sizeOf, hb]
    intro _
    cases p <;> simp [Addr.add]) hK

theorem rdRows_take {w : World} {A : Nat → Prop} {k : Nat} : ∀ {rows : List (List C)} {vs : List Value} (m : Nat), RdRows w A k rows vs → m ≤ rows.length → RdRows w A k (rows.take m) (vs.take (m * k))
  | rows, vs, 0, _, _ => by simp [RdRows]
  | [], _, m + 1, _, hm => absurd hm (by simp)
  | r0 :: rows, _, m + 1, h, hm => by
    obtain ⟨c0, r, rfl, h1, h2, h3⟩ := h
    refine ⟨c0, r.take (m * k), ?_, h1, h2, rdRows_take m h3 (by simpa using hm)⟩
    rw [List.take_append, List.take_of_length_le (by rw [h1, Nat.add_mul]; omega), h1, Nat.add_mul, Nat.one_mul, Nat.add_sub_cancel]
theorem st_trim {a : Act} {w : World} {j : Nat} {v : Value} {e : TypeId} {k : Nat} {rows : List (List C)} {Hr : List Ch} (m : Nat) (h : St c env H a w) (hp : pick [j] H = some ([.own v e k rows], Hr)) (hm : m ≤ rows.length) :
    St c env (.own (trimV v m) e k (rows.take m) :: Hr) a w := by
  have h1 := h.perm (pick_perm hp)
  have hob : (trimV v m).ownBlock = v.ownBlock := by
    cases v
    case slice p _ _ => cases p <;> rfl
    all_goals rfl
  have hbe : hb (.own (trimV v m) e k (rows.take m) :: Hr) = hb (.own v e k rows :: Hr) := by simp [hb_cons, Ch.bs, hob]
  have hav' : c.av (.own (trimV v m) e k (rows.take m) :: Hr) = c.av (.own v e k rows :: Hr) := by funext b; simp only [Cx.av, hbe]
  have hav : c.av (.own v e k rows :: Hr) = c.av H := av_perm c (pick_perm hp)
  obtain ⟨vs, ho, hr, hk⟩ := h1.heap.ok (.own v e k rows) (by simp)
  refine ⟨h.size, h.defers, fun i s hi => by rw [hav', hav]; exact h.slots i s hi, h.heap.os, h.heap.tape, h.heap.output, h.heap.size, h.heap.block, ?_, by rw [hbe]; exact h1.heap.nodup, by rw [hbe]; exact h1.heap.mine, by rw [hav', hav]; exact h.heap.gl⟩
  intro ch hch
  rw [hav']
  rcases List.mem_cons.1 hch with rfl | hch
  · refine ⟨vs.take (m * k), ⟨?_, ?_⟩, rdRows_take m hr hm, hk⟩
    · have h5 := ho.1
      have h6 : m * k ≤ rows.length * k := Nat.mul_le_mul_right _ hm
      simp only [List.length_take]
      rw [Nat.min_eq_left hm, h5, Nat.min_eq_left h6]
    · have hl : (rows.take m).length = m := by simp; omega
      rw [hl]
      rcases ho.2 with ⟨rfl, h0⟩ | ⟨b, cap, cur, rfl, g1, g2, g3, g4, g5, g6⟩
      · left
        have : m = 0 := by omega
        subst this
        exact ⟨rfl, rfl⟩
      · refine .inr ⟨b, cap, cur, rfl, g1, g2, by omega, g4, g5, ?_⟩
        rw [← g6, List.take_take, Nat.min_eq_left (Nat.mul_le_mul_right _ hm)]
  · exact h1.heap.ok ch (List.mem_cons_of_mem _ hch)
theorem jc_trim {Q : Exit → Act → World → Prop} {code : Code} {v : Value} {e : TypeId} {k : Nat} {rows : List (List C)} {Hr : List Ch} (j m : Nat) (hp : pick [j] H = some ([.own v e k rows], Hr)) (hm : m ≤ rows.length)
    (h : JC c code Q env (.own (trimV v m) e k (rows.take m) :: Hr)) : JC c code Q env H := fun a w hs => h a w (st_trim m hs hp hm)
theorem jq_trim {Q : Exit → Act → World → Prop} {ex : Exit} {v : Value} {e : TypeId} {k : Nat} {rows : List (List C)} {Hr : List Ch} (j m : Nat) (hp : pick [j] H = some ([.own v e k rows], Hr)) (hm : m ≤ rows.length)
    (h : JQ c Q ex env (.own (trimV v m) e k (rows.take m) :: Hr)) : JQ c Q ex env H := fun a w hs => h a w (st_trim m hs hp hm)
theorem jl_trim {ops : Array Oper} {l : List Oper} {Q : Exit → Act → World → Prop} {v : Value} {e : TypeId} {k : Nat} {rows : List (List C)} {Hr : List Ch} (j m : Nat) (hp : pick [j] H = some ([.own v e k rows], Hr)) (hm : m ≤ rows.length)
    (h : JL c ops Q l env (.own (trimV v m) e k (rows.take m) :: Hr)) : JL c ops Q l env H := fun a w hs => h a w (st_trim m hs hp hm)
end
end Go.Vc
