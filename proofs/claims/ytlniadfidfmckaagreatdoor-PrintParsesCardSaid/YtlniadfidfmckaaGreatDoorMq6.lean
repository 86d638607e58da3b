/- What is proved: PrintParses of the package timeboundlaw04 returns true for all its arguments, and its arguments read as before. The card ties the listed tables (two of math/bits, the powers of ten, the keywords, the signs, the operators of the lines of the grammar and of comparisons) to the text of the program. -/
import Derived.Test.YtlniadfidfmckaaGreatDoorMq5
import Derived.KernelRfl
import Derived.Test.YtlniadfidfmckaaGreatDoorCards
import Derived.Test.YtlniadfidfmckaaGreatDoorTie
import Derived.SliceStrings
import Derived.WalkKit
import Derived.ProofKit
import Derived.OpenShut
import Derived.LaidMore
import Derived.Stop.Joined
import Derived.Stop.LaidErr
import Derived.Deep.DeepHandedRow
import Derived.Lib.LaidTab
import Derived.Lib.SmallJoins
import Derived.Carry
import Derived.Deep.DeepWitnessRowRef
section
namespace Go.Proofs.YtlniadfidfmckaaGreatDoor
open Go.Vc
attribute [local irreducible] JL JC JQ OpWp Con ConN Pan ConE OpPan HP HT HOk hasW idxW isA isNum isNm numAt txtAt lineAt opAt lx lpx sx sxp
set_option maxHeartbeats 4000000

def finT (l : List Tok) (b : Nat) : R T → Fin
  | .ok t c => .ret (fun K => K (.row t.row') [Pz b l c])
  | .er code p => .pan (stopV l code p)
def JnP (l : List Tok) (F : Nat) : Prop := ∀ b k a, k ≤ 2 → a ≤ l.length → need l (k + 1) a ≤ F → ConE Tryz.prog 134 [Ptr b, In .i64 (k : Int)] [Pz b l a] (finT l b (sx false l F (k + 1) a))
def ExP (l : List Tok) (F : Nat) : Prop := ∀ b a, a ≤ l.length → need l 0 a ≤ F → ConE Tryz.prog 117 [Ptr b] [Pz b l a] (finT l b (sx false l F 0 a))
def FaP (l : List Tok) (F : Nat) : Prop := ∀ b a, a ≤ l.length → need l 3 a ≤ F → ConE Tryz.prog 146 [Ptr b] [Pz b l a] (finT l b (sx false l F 3 a))
theorem finT_ok {l : List Tok} {b : Nat} {P : Program} [Gl P] {f : FuncId} {args : List S} {Hin : List Ch} {r : R T} {t : T} {c : Nat} (h : ConE P f args Hin (finT l b r)) (e : r = .ok t c) : Con P f args Hin (fun K => K (.row t.row') [Pz b l c]) := by subst e; unfold finT ConE at h; exact h
theorem finT_er {l : List Tok} {b : Nat} {P : Program} [Gl P] {f : FuncId} {args : List S} {Hin : List Ch} {r : R T} {code : Int} {p : Nat} (h : ConE P f args Hin (finT l b r)) (e : r = .er code p) : Pan P f args Hin (stopV l code p) := by subst e; unfold finT ConE at h; exact h
theorem dpr_y {fr : Bool} {t : T} (h : ¬ (fr = false ∧ 8 < t.dep)) (a : Nat) : dpR fr t a = .ok t a := by unfold dpR; rw [if_neg h]
theorem dpr_n {fr : Bool} {t : T} (h : fr = false ∧ 8 < t.dep) (a : Nat) : dpR fr t a = .er 4 (a - 1) := by unfold dpR; rw [if_pos h]
section
variable {l : List Tok} {a b : Nat} (hl : l.length ≤ 1000000)
theorem pnode_y (t : T) (h : ¬ 8 < t.dep) : Con Tryz.prog 136 [Ptr b, .row t.row'] [Pz b l a] (fun K => K (.row t.row') [Pz b l a]) := by
  have hD := Depth_c 8 t (by omega)
  rw [dl_eq] at hD
  have hd' : ¬ ((min t.dep (8 + 1) : Nat) : Int) > 8 := by omega
  refine con_intro Tryz.func136 rfl rfl (Nat.le_of_ble_eq_true rfl) (fun c hc => R_ (o_ r_ (ci_ r_ (fun bx => o_ r_ (bl_ r_ r_ (fun bl => T_ (am_ (R_ (A_ 1 r_ (o_ r_ (bm_ r_ (hD) (o_ r_ (bz_ r_ r_ (T_ (ap_ r_ w_ (as_ (al_ (R_ (A_ 1 r_ ?_)))))))))))))))))))
  exact S_ 0 r_ (T_ (ar_ (jq_retRowS rfl rfl rfl rfl 0 rfl (fun K h => h) (bc_ 2 r_ sub_end))))
include hl
theorem pnode_n (t : T) (h : 8 < t.dep) (ha1 : 1 ≤ a) (ha : a ≤ l.length) : Pan Tryz.prog 136 [Ptr b, .row t.row'] [Pz b l a] (stopV l 4 (a - 1)) := by
  have hD := Depth_c 8 t (by omega)
  rw [dl_eq] at hD
  have hd' : ((min t.dep (8 + 1) : Nat) : Int) > 8 := by omega
  have hF := pfail_c (a := a) (b := b) hl 4 (a - 1) (by omega)
  rw [show ((a - 1 : Nat) : Int) = (a : Int) - 1 by omega] at hF
  refine pan_intro Tryz.func136 rfl rfl (Nat.le_of_ble_eq_true rfl) (fun c hc => R_ (o_ r_ (ci_ r_ (fun bx => o_ r_ (bl_ r_ r_ (fun bl => T_ (am_ (R_ (A_ 1 r_ (o_ r_ (bm_ r_ (hD) (o_ r_ (bz_ r_ r_ (T_ (aq_ r_ u_ (an_ (M_ r_ (M_ r_ (N_ r_ ?_)))))))))))))))))))
  refine F_ r_ (L_ 2 r_ (o_ r_ (cg_ r_ r_ g_ ?_)))
  exact jl_pan (op_pan [2] rfl rfl (hF)) (by (repeat (first | refine pq_then ?_ | refine pq_block ?_)); exact pq_fin (by first | rfl | assumption))
theorem pexpr_step (F : Nat) (hJ : JnP l F) : ExP l (F + 1) := by
  intro b a ha hN
  unfold need at hN
  have con := hJ b 0 a (by omega) ha (by unfold need; omega)
  refine con_introE Tryz.func117 rfl rfl (Nat.le_of_ble_eq_true rfl) (fun c hc => ?_)
  cases hs : sx false l F 1 a with
  | er code p =>
    have e : finT l b (sx false l (F + 1) 0 a) = .pan (stopV l code p) := by rw [sx, if_neg (by omega), hs]; rfl
    have con := finT_er con hs
    refine R_ (o_ r_ (bl_ r_ r_ (fun bl => T_ (R_ (M_ r_ ?_)))))
    exact jl_pan (op_pan [1] rfl rfl (con)) (by (repeat (first | refine pq_then ?_ | refine pq_block ?_)); exact pq_fin (by first | rfl | assumption))
  | ok x c =>
    have hbd := sx_bd _ _ _ _ _ hs
    have con := finT_ok con hs
    cases ho : opAt l cmpL c with
    | none =>
      have e : finT l b (sx false l (F + 1) 0 a) = .ret (fun K => K (.row x.row') [Pz b l c]) := by rw [sx, if_neg (by omega), hs]; show finT l b (sxp false l cmpL (sx false l F 1) 1 x c) = _; rw [sxp, ho]; rfl
      refine R_ (o_ r_ (bl_ r_ r_ (fun bl => T_ (R_ (M_ r_ (o_ r_ (bi_ [1] r_ r_ (con) (o_ r_ (bl_ r_ r_ (fun bl => S_ 0 r_ (T_ (am_ (R_ (M_ r_ (o_ r_ (dd_ gl_cmps r_ r_ r_ (o_ r_ (bt_ [] rfl rfl (one_c b cmpL) (fun pp hpp => o_ r_ (cx_ (cs := [Ptr _, Ptr _]) [0, 0, 1] rfl rfl (fun _ _ => ⟨_, _, rfl, ⟨rfl, rfl⟩, _, _, rfl, ⟨rfl, rfl⟩, rfl⟩) rfl (op1_none hl g_ ho _ _) (E_ r_ ?_)))))))))))))))))))))
      exact T_ (R_ (M_ r_ (o_ r_ (bx_ r_ r_ (T_ (ap_ r_ r_ (as_ (al_ (R_ (A_ 3 r_ (S_ 4 r_ (T_ (ar_ (jq_fin e (jq_retRowS rfl rfl rfl rfl 0 rfl (fun K h => h) (bc_ 3 r_ sub_end))))))))))))))))
    | some o =>
      have ho0 : ¬ o = 0 := opAt_pos (k := 0) ho
      have hlt := opAt_lt ho
      have con2 := hJ b 0 (c + 1) (by omega) (by omega) (by unfold need; omega)
      refine R_ (o_ r_ (bl_ r_ r_ (fun bl => T_ (R_ (M_ r_ (o_ r_ (bi_ [1] r_ r_ (con) (o_ r_ (bl_ r_ r_ (fun bl => S_ 0 r_ (T_ (am_ (R_ (M_ r_ (o_ r_ (dd_ gl_cmps r_ r_ r_ (o_ r_ (bt_ [] rfl rfl (one_c b cmpL) (fun pp hpp => o_ r_ (cx_ (cs := [Ptr _, Ptr _]) [0, 0, 1] rfl rfl (fun _ _ => ⟨_, _, rfl, ⟨rfl, rfl⟩, _, _, rfl, ⟨rfl, rfl⟩, rfl⟩) rfl (op1_some hl g_ ho _ _) (E_ r_ ?_)))))))))))))))))))))
      refine T_ (R_ (M_ r_ (o_ r_ (bx_ r_ r_ (T_ (aq_ r_ u_ ?_))))))
      cases hs2 : sx false l F 1 (c + 1) with
      | er code p =>
        have e : finT l b (sx false l (F + 1) 0 a) = .pan (stopV l code p) := by rw [sx, if_neg (by omega), hs]; show finT l b (sxp false l cmpL (sx false l F 1) 1 x c) = _; rw [sxp, ho]; dsimp only; rw [hs2]; rfl
        have con2 := finT_er con2 hs2
        refine jc_hp1 7 (n := 8) rfl 3 k_ rfl (fun cs1 hcs1 => ?_)
        obtain ⟨u10, u11, u12, u13, u14, rfl⟩ := len5 hcs1
        refine df_ (i := 0) rfl k_ k_ k_ b_ (by (repeat (first | refine pani_then ?_ | refine pani_block ?_)); exact pani_body) (dk_ rfl) ?_
        refine df_ (i := 1) rfl k_ k_ k_ b_ (by (repeat (first | refine pani_then ?_ | refine pani_block ?_)); exact pani_body) (dk_ rfl) ?_
        refine df_ (i := 2) rfl k_ k_ k_ b_ (by (repeat (first | refine pani_then ?_ | refine pani_block ?_)); exact pani_body) (dn_ 3 rfl rfl rfl mem0 rfl) ?_
        refine df_ (i := 3) rfl k_ k_ k_ b_ (by (repeat (first | refine pani_then ?_ | refine pani_block ?_)); exact pani_body) (dk_ rfl) ?_
        refine hp_exact 3 rfl mem0 ?_
        exact hp_pan (i := 4) rfl k_ (op_pan [3] rfl rfl (con2)) (by (repeat (first | refine pq_then ?_ | refine pq_block ?_)); exact pq_fin (by first | rfl | assumption))
      | ok y d =>
        have hbd2 := sx_bd _ _ _ _ _ hs2
        have con2 := finT_ok con2 hs2
        by_cases hd : 8 < (T.bn o x y).dep
        · have e : finT l b (sx false l (F + 1) 0 a) = .pan (stopV l 4 (d - 1)) := by rw [sx, if_neg (by omega), hs]; show finT l b (sxp false l cmpL (sx false l F 1) 1 x c) = _; rw [sxp, ho]; dsimp only; rw [hs2]; dsimp only; rw [dpr_n ⟨rfl, hd⟩]; rfl
          refine jc_hp1 7 (n := 8) rfl 3 k_ rfl (fun cs1 hcs1 => ?_)
          obtain ⟨u10, u11, u12, u13, u14, rfl⟩ := len5 hcs1
          refine df_ (i := 0) rfl k_ k_ k_ b_ (by (repeat (first | refine pani_then ?_ | refine pani_block ?_)); exact pani_body) (dk_ rfl) ?_
          refine df_ (i := 1) rfl k_ k_ k_ b_ (by (repeat (first | refine pani_then ?_ | refine pani_block ?_)); exact pani_body) (dk_ rfl) ?_
          refine df_ (i := 2) rfl k_ k_ k_ b_ (by (repeat (first | refine pani_then ?_ | refine pani_block ?_)); exact pani_body) (dn_ 3 rfl rfl rfl mem0 rfl) ?_
          refine df_ (i := 3) rfl k_ k_ k_ b_ (by (repeat (first | refine pani_then ?_ | refine pani_block ?_)); exact pani_body) (dk_ rfl) ?_
          refine hp_exact 3 rfl mem0 (dg_ (i := 4) r_ k_ b_ (bi_ [3] r_ r_ (con2) ⟨?_, ?_⟩))
          exact keep1 1 rfl
          refine dg_ (i := 5) r_ k_ b_ (bm_ r_ (binary_c o x y) ⟨?_, ?_⟩)
          exact keep1 1 rfl
          exact hp_pan (i := 6) rfl k_ (op_pan [0] rfl rfl (pnode_n hl _ hd g_ g_)) (by (repeat (first | refine pq_then ?_ | refine pq_block ?_)); exact pq_fin (by first | rfl | assumption))
        · have e : finT l b (sx false l (F + 1) 0 a) = .ret (fun K => K (.row (T.bn o x y).row') [Pz b l d]) := by rw [sx, if_neg (by omega), hs]; show finT l b (sxp false l cmpL (sx false l F 1) 1 x c) = _; rw [sxp, ho]; dsimp only; rw [hs2]; dsimp only; rw [dpr_y (fun h => hd h.2)]; dsimp only; rw [sxp]; rfl
          refine jc_hp1 7 (n := 8) rfl 3 k_ rfl (fun cs1 hcs1 => ?_)
          obtain ⟨u10, u11, u12, u13, u14, rfl⟩ := len5 hcs1
          refine df_ (i := 0) rfl k_ k_ k_ b_ (by (repeat (first | refine pani_then ?_ | refine pani_block ?_)); exact pani_body) (dk_ rfl) ?_
          refine df_ (i := 1) rfl k_ k_ k_ b_ (by (repeat (first | refine pani_then ?_ | refine pani_block ?_)); exact pani_body) (dk_ rfl) ?_
          refine df_ (i := 2) rfl k_ k_ k_ b_ (by (repeat (first | refine pani_then ?_ | refine pani_block ?_)); exact pani_body) (dn_ 3 rfl rfl rfl mem0 rfl) ?_
          refine df_ (i := 3) rfl k_ k_ k_ b_ (by (repeat (first | refine pani_then ?_ | refine pani_block ?_)); exact pani_body) (dk_ rfl) ?_
          refine hp_exact 3 rfl mem0 (dg_ (i := 4) r_ k_ b_ (bi_ [3] r_ r_ (con2) ⟨?_, ?_⟩))
          exact keep1 1 rfl
          refine dg_ (i := 5) r_ k_ b_ (bm_ r_ (binary_c o x y) ⟨?_, ?_⟩)
          exact keep1 1 rfl
          refine dg_ (i := 6) r_ k_ b_ (bi_ [0] r_ r_ (pnode_y _ hd) ⟨?_, ?_⟩)
          exact keep1 1 rfl
          exact hp_tail (dj_ (i := 7) rfl k_ (by decide) (bk_ 1 rfl rfl rfl rfl rfl rfl (ht_done k_ (al_ (R_ (A_ 0 r_ (S_ 4 r_ (T_ (ar_ (jq_fin e (jq_retRowS rfl rfl rfl rfl 0 rfl (fun K h => h) (bc_ 2 r_ sub_end))))))))))))
omit hl in
theorem pjoined_top (F b a : Nat) (hF : FaP l F) (ha : a ≤ l.length) (hN : need l 3 a ≤ F) : ConE Tryz.prog 134 [Ptr b, In .i64 ((2 : Nat) : Int)] [Pz b l a] (finT l b (sx false l F 3 a)) := by
  have con := hF b a ha hN
  refine con_introE Tryz.func134 rfl rfl (Nat.le_of_ble_eq_true rfl) (fun c hc => ?_)
  cases hs : sx false l F 3 a with
  | er code p =>
    have e : finT l b (.er code p) = .pan (stopV l code p) := rfl
    have con := finT_er con hs
    refine R_ (o_ r_ (bl_ r_ r_ (fun bl => T_ (am_ (R_ (M_ r_ (o_ r_ (bn_ r_ r_ (T_ (aq_ r_ x_ (R_ (M_ r_ ?_))))))))))))
    exact jl_pan (op_pan [1] rfl rfl (con)) (by (repeat (first | refine pq_then ?_ | refine pq_block ?_)); exact pq_fin (by first | rfl | assumption))
  | ok x c =>
    have e : finT l b (.ok x c) = .ret (fun K => K (.row x.row') [Pz b l c]) := rfl
    have con := finT_ok con hs
    refine R_ (o_ r_ (bl_ r_ r_ (fun bl => T_ (am_ (R_ (M_ r_ (o_ r_ (bn_ r_ r_ (T_ (aq_ r_ x_ (R_ (M_ r_ (o_ r_ (bi_ [1] r_ r_ (con) (S_ 1 r_ (T_ (ar_ (aw_ ?_))))))))))))))))))
    exact jq_fin e (jq_retRowS rfl rfl rfl rfl 0 rfl (fun K h => h) (bc_ 1 r_ sub_end))
theorem pjoined_step (F k b a : Nat) (hk : k ≤ 1) (hJ : ∀ a, a ≤ l.length → need l (k + 2) a ≤ F → ConE Tryz.prog 134 [Ptr b, In .i64 ((k : Int) + 1)] [Pz b l a] (finT l b (sx false l F (k + 2) a)))
    (ha : a ≤ l.length) (hN : need l (k + 1) a ≤ F + 1) : ConE Tryz.prog 134 [Ptr b, In .i64 (k : Int)] [Pz b l a] (finT l b (sx false l (F + 1) (k + 1) a)) := by
  unfold need at hN
  have con := hJ a ha (by unfold need; omega)
  have hk2 : ¬ (k : Int) = 2 := by omega
  refine con_introE Tryz.func134 rfl rfl (Nat.le_of_ble_eq_true rfl) (fun c hc => R_ (o_ r_ (bl_ r_ r_ (fun bl => T_ (am_ (R_ (M_ r_ (o_ r_ (bn_ r_ r_ (T_ (ap_ r_ w_ (as_ (al_ (R_ (M_ r_ (M_ r_ (o_ r_ (de_ (n := 2) (e := 27) r_ r_ r_ g_ g_ ?_))))))))))))))))))
  refine o_ r_ (dd_ (e := .list ((opsL (k + 1)).map Wrow)) gl_lines rfl rfl (by rcases (show k = 0 ∨ k = 1 by omega) with rfl | rfl <;> rfl) ?_)
  cases hs : sx false l F (k + 2) a with
  | er code p =>
    have e : finT l b (sx false l (F + 1) (k + 1) a) = .pan (stopV l code p) := by rw [sx, if_neg (by omega), hs]; rfl
    have con := finT_er con hs
    refine o_ r_ (bt_ [] rfl rfl (one_c b (opsL (k + 1))) (fun pp hpp => E_ r_ (T_ (R_ (M_ r_ (M_ r_ (o_ r_ (bj_ r_ r_ g_ ?_))))))))
    exact jl_pan (op_pan [3] rfl rfl (con)) (by (repeat (first | refine pq_then ?_ | refine pq_block ?_)); exact pq_fin (by first | rfl | assumption))
  | ok x0 c0 =>
    have hbd := sx_bd _ _ _ _ _ hs
    have con := finT_ok con hs
    have e : sx false l (F + 1) (k + 1) a = sxp false l (opsL (k + 1)) (sx false l F (k + 2)) F x0 c0 := by rw [sx, if_neg (by omega), hs]; dsimp only; rw [if_neg (Nat.succ_ne_zero k)]
    generalize hr : sx false l (F + 1) (k + 1) a = r at e ⊢
    clear hr
    obtain ⟨o0, q0, ho0⟩ : ∃ (o0 : Int) (q0 : Nat), (opAt l (opsL (k + 1)) c0 = none ∧ o0 = 0 ∧ q0 = c0) ∨ (opAt l (opsL (k + 1)) c0 = some o0 ∧ ¬ o0 = 0 ∧ q0 = c0 + 1) := by
      cases h : opAt l (opsL (k + 1)) c0 with
      | none => exact ⟨0, c0, .inl ⟨rfl, rfl, rfl⟩⟩
      | some o => exact ⟨o, c0 + 1, .inr ⟨rfl, opAt_pos h, rfl⟩⟩
    have con1 : ∀ p q : Nat, Con Tryz.prog 147 [Ptr p, Ptr q] [Cap1 p (opsL (k + 1)), Cap2 q b, Pz b l c0] (fun K => K (In .i64 o0) [Cap1 p (opsL (k + 1)), Cap2 q b, Pz b l q0]) := by
      intro p q
      rcases ho0 with ⟨h, rfl, rfl⟩ | ⟨h, _, rfl⟩
      · exact op1_none hl g_ h p q
      · exact op1_some hl g_ h p q
    refine o_ r_ (bt_ [] rfl rfl (one_c b (opsL (k + 1))) (fun pp hpp => E_ r_ (T_ (R_ (M_ r_ (M_ r_ (o_ r_ (bj_ r_ r_ g_ (o_ r_ (bi_ [3] r_ r_ (con) (o_ r_ (bl_ r_ r_ (fun bl => S_ 0 r_ (T_ (am_ (R_ (M_ r_ (o_ r_ (cx_ (cs := [Ptr _, Ptr _]) [2, 2, 1] rfl rfl (fun _ _ => ⟨_, _, rfl, ⟨rfl, rfl⟩, _, _, rfl, ⟨rfl, rfl⟩, rfl⟩) rfl (con1 _ _) (E_ r_ ?_))))))))))))))))))))
    refine T_ (au_ ?_)
    rename_i bR
    clear con1 con
    refine jc_loopS (ι := T × Nat × Nat × Int × Nat) [] (fun i => (a < i.2.1 ∧ i.2.1 ≤ l.length) ∧ l.length - i.2.1 ≤ i.2.2.1 ∧ ((opAt l (opsL (k + 1)) i.2.1 = none ∧ i.2.2.2.1 = 0 ∧ i.2.2.2.2 = i.2.1) ∨ (opAt l (opsL (k + 1)) i.2.1 = some i.2.2.2.1 ∧ ¬ i.2.2.2.1 = 0 ∧ i.2.2.2.2 = i.2.1 + 1)) ∧ r = sxp false l (opsL (k + 1)) (sx false l F (k + 2)) i.2.2.1 i.1 i.2.1)
      (fun i => [(0, Ptr b), (1, In .i64 (k : Int)), (4, Ptr bR), (5, .cell (.val (.func (.func 147) #[] #[.pointer (some ⟨pp.1, 0, none⟩), .pointer (some ⟨pp.2, 0, none⟩)]))), (6, Ptr bl), (7, In .i64 i.2.2.2.1)])
      (fun i => [Cap1 pp.1 (opsL (k + 1)), Cap2 pp.2 b, Pz b l i.2.2.2.2, .blk bl 53 i.1.row', .blk bR 53 [.val (.int .i64 0), .val (.int .i64 0), .val (.string ⟨#[]⟩), .val (.int .i64 0), .val (.slice none 0 0)]]) (fun i => l.length - i.2.1) (x0, c0, F, o0, q0) ⟨hbd, by dsimp only; omega, ho0, e⟩ ?_ ?_ ?_
    · exact bc_ 0 r_ (bc_ 0 r_ (bc_ 0 r_ (bc_ 0 r_ (bc_ 0 r_ sub_end))))
    · (repeat (first | exact True.intro | refine ⟨rfl, ?_⟩))
    clear ho0 hpp e
    rintro ⟨x, c, n, o, q⟩ ⟨⟨hac, hcl⟩, hn, ho, hi⟩
    dsimp only at hac hcl hn ho hi ⊢
    refine jc_reset [(0, Ptr b), (1, In .i64 (k : Int)), (4, Ptr bR), (5, .cell (.val (.func (.func 147) #[] #[.pointer (some ⟨pp.1, 0, none⟩), .pointer (some ⟨pp.2, 0, none⟩)]))), (6, Ptr bl), (7, In .i64 o)] [Cap1 pp.1 (opsL (k + 1)), Cap2 pp.2 b, Pz b l q, .blk bl 53 x.row', .blk bR 53 [.val (.int .i64 0), .val (.int .i64 0), .val (.string ⟨#[]⟩), .val (.int .i64 0), .val (.slice none 0 0)]] ?_ ⟨[0, 0, 0, 0, 0], [], rfl⟩ ?_
    · (repeat (first | exact True.intro | refine ⟨rfl, ?_⟩))
    rcases ho with ⟨ho, rfl, rfl⟩ | ⟨ho, hn0, rfl⟩
    · have e : finT l b r = .ret (fun K => K (.row x.row') [Pz b l q]) := by rw [hi]; cases n <;> rw [sxp] <;> (try rw [ho]) <;> rfl
      refine am_ (R_ (M_ r_ (o_ r_ (bx_ r_ r_ (T_ (ap_ r_ r_ (av_ (ax_ (ax_ (ba_ (al_ (R_ (A_ 3 r_ (S_ 4 r_ (T_ (ar_ ?_))))))))))))))))
      exact jq_fin e (jq_retRowS rfl rfl rfl rfl 0 rfl (fun K h => h) (bc_ 3 r_ sub_end))
    · have hlt := opAt_lt ho
      obtain ⟨n, rfl⟩ : ∃ m, n = m + 1 := ⟨n - 1, by omega⟩
      have con2 := hJ (c + 1) (by omega) (by unfold need; omega)
      refine am_ (R_ (M_ r_ (o_ r_ (bx_ r_ r_ (T_ (aq_ r_ u_ (as_ (al_ (B_ ?_)))))))))
      cases hs2 : sx false l F (k + 2) (c + 1) with
      | er code p =>
        have e : finT l b r = .pan (stopV l code p) := by rw [hi, sxp, ho]; dsimp only; rw [hs2]; rfl
        have con2 := finT_er con2 hs2
        refine jc_hp1 9 (n := 10) rfl 3 k_ rfl (fun cs1 hcs1 => ?_)
        obtain ⟨u10, u11, u12, u13, u14, rfl⟩ := len5 hcs1
        refine df_ (i := 0) rfl k_ k_ k_ b_ (by (repeat (first | refine pani_then ?_ | refine pani_block ?_)); exact pani_body) (dk_ rfl) ?_
        refine df_ (i := 1) rfl k_ k_ k_ b_ (by (repeat (first | refine pani_then ?_ | refine pani_block ?_)); exact pani_body) (dk_ rfl) ?_
        refine df_ (i := 2) rfl k_ k_ k_ b_ (by (repeat (first | refine pani_then ?_ | refine pani_block ?_)); exact pani_body) (dn_ 3 rfl rfl rfl mem0 rfl) ?_
        refine df_ (i := 3) rfl k_ k_ k_ b_ (by (repeat (first | refine pani_then ?_ | refine pani_block ?_)); exact pani_body) (dk_ rfl) ?_
        refine df_ (i := 4) rfl k_ k_ k_ b_ (by (repeat (first | refine pani_then ?_ | refine pani_block ?_)); exact pani_body) (dk_ rfl) ?_
        refine df_ (i := 5) rfl k_ k_ k_ b_ (by (repeat (first | refine pani_then ?_ | refine pani_block ?_)); exact pani_body) (do_ rfl rfl g_) ?_
        refine hp_exact 3 rfl mem0 ?_
        exact hp_pan (i := 6) rfl k_ (op_pan [3] rfl rfl (con2)) (by (repeat (first | refine pq_then ?_ | refine pq_block ?_)); exact pq_fin (by first | rfl | assumption))
      | ok y d =>
        have hbd2 := sx_bd _ _ _ _ _ hs2
        have con2 := finT_ok con2 hs2
        by_cases hd : 8 < (T.bn o x y).dep
        · have e : finT l b r = .pan (stopV l 4 (d - 1)) := by rw [hi, sxp, ho]; dsimp only; rw [hs2]; dsimp only; rw [dpr_n ⟨rfl, hd⟩]; rfl
          refine jc_hp1 9 (n := 10) rfl 3 k_ rfl (fun cs1 hcs1 => ?_)
          obtain ⟨u10, u11, u12, u13, u14, rfl⟩ := len5 hcs1
          refine df_ (i := 0) rfl k_ k_ k_ b_ (by (repeat (first | refine pani_then ?_ | refine pani_block ?_)); exact pani_body) (dk_ rfl) ?_
          refine df_ (i := 1) rfl k_ k_ k_ b_ (by (repeat (first | refine pani_then ?_ | refine pani_block ?_)); exact pani_body) (dk_ rfl) ?_
          refine df_ (i := 2) rfl k_ k_ k_ b_ (by (repeat (first | refine pani_then ?_ | refine pani_block ?_)); exact pani_body) (dn_ 3 rfl rfl rfl mem0 rfl) ?_
          refine df_ (i := 3) rfl k_ k_ k_ b_ (by (repeat (first | refine pani_then ?_ | refine pani_block ?_)); exact pani_body) (dk_ rfl) ?_
          refine df_ (i := 4) rfl k_ k_ k_ b_ (by (repeat (first | refine pani_then ?_ | refine pani_block ?_)); exact pani_body) (dk_ rfl) ?_
          refine df_ (i := 5) rfl k_ k_ k_ b_ (by (repeat (first | refine pani_then ?_ | refine pani_block ?_)); exact pani_body) (do_ rfl rfl g_) ?_
          refine hp_exact 3 rfl mem0 (dg_ (i := 6) r_ k_ b_ (bi_ [3] r_ r_ (con2) ⟨?_, ?_⟩))
          exact keep1 1 rfl
          refine dg_ (i := 7) r_ k_ b_ (bm_ r_ (binary_c o x y) ⟨?_, ?_⟩)
          exact keep1 1 rfl
          exact hp_pan (i := 8) rfl k_ (op_pan [0] rfl rfl (pnode_n hl _ hd g_ g_)) (by (repeat (first | refine pq_then ?_ | refine pq_block ?_)); exact pq_fin (by first | rfl | assumption))
        · have e : r = sxp false l (opsL (k + 1)) (sx false l F (k + 2)) n (.bn o x y) d := by rw [hi, sxp, ho]; dsimp only; rw [hs2]; dsimp only; rw [dpr_y (fun h => hd h.2)]
          refine jc_hp1 9 (n := 10) rfl 3 k_ rfl (fun cs1 hcs1 => ?_)
          obtain ⟨u10, u11, u12, u13, u14, rfl⟩ := len5 hcs1
          refine df_ (i := 0) rfl k_ k_ k_ b_ (by (repeat (first | refine pani_then ?_ | refine pani_block ?_)); exact pani_body) (dk_ rfl) ?_
          refine df_ (i := 1) rfl k_ k_ k_ b_ (by (repeat (first | refine pani_then ?_ | refine pani_block ?_)); exact pani_body) (dk_ rfl) ?_
          refine df_ (i := 2) rfl k_ k_ k_ b_ (by (repeat (first | refine pani_then ?_ | refine pani_block ?_)); exact pani_body) (dn_ 3 rfl rfl rfl mem0 rfl) ?_
          refine df_ (i := 3) rfl k_ k_ k_ b_ (by (repeat (first | refine pani_then ?_ | refine pani_block ?_)); exact pani_body) (dk_ rfl) ?_
          refine df_ (i := 4) rfl k_ k_ k_ b_ (by (repeat (first | refine pani_then ?_ | refine pani_block ?_)); exact pani_body) (dk_ rfl) ?_
          refine df_ (i := 5) rfl k_ k_ k_ b_ (by (repeat (first | refine pani_then ?_ | refine pani_block ?_)); exact pani_body) (do_ rfl rfl g_) ?_
          refine hp_exact 3 rfl mem0 (dg_ (i := 6) r_ k_ b_ (bi_ [3] r_ r_ (con2) ⟨?_, ?_⟩))
          exact keep1 1 rfl
          refine dg_ (i := 7) r_ k_ b_ (bm_ r_ (binary_c o x y) ⟨?_, ?_⟩)
          exact keep1 1 rfl
          refine dg_ (i := 8) r_ k_ b_ (bi_ [0] r_ r_ (pnode_y _ hd) ⟨?_, ?_⟩)
          exact keep1 1 rfl
          refine hp_tail (dj_ (i := 9) rfl k_ (by decide) (bk_ 1 rfl rfl rfl rfl rfl rfl (ht_done k_ ?_)))
          cases ho2 : opAt l (opsL (k + 1)) d with
          | none =>
            refine ay_ (al_ (an_ (M_ r_ (o_ r_ (cx_ (cs := [Ptr _, Ptr _]) [2, 2, 1] rfl rfl (fun _ _ => ⟨_, _, rfl, ⟨rfl, rfl⟩, _, _, rfl, ⟨rfl, rfl⟩, rfl⟩) rfl (op1_none hl g_ ho2 _ _) (E_ r_ (ak_ (jq_againS (i := (x, c, n + 1, o, c + 1)) ((T.bn o x y, d, n, 0, d) : T × Nat × Nat × Int × Nat) ⟨⟨by dsimp only; omega, hbd2.2⟩, by dsimp only; omega, .inl ⟨ho2, rfl, rfl⟩, e⟩ (by dsimp only; omega) ?_ ?_))))))))
            · exact bc_ 0 r_ (bc_ 0 r_ (bc_ 0 r_ (bc_ 0 r_ (bc_ 0 r_ sub_end))))
            · (repeat (first | exact True.intro | refine ⟨rfl, ?_⟩))
          | some o2 =>
            have hlt2 := opAt_lt ho2
            refine ay_ (al_ (an_ (M_ r_ (o_ r_ (cx_ (cs := [Ptr _, Ptr _]) [2, 2, 1] rfl rfl (fun _ _ => ⟨_, _, rfl, ⟨rfl, rfl⟩, _, _, rfl, ⟨rfl, rfl⟩, rfl⟩) rfl (op1_some hl g_ ho2 _ _) (E_ r_ (ak_ (jq_againS (i := (x, c, n + 1, o, c + 1)) ((T.bn o x y, d, n, o2, d + 1) : T × Nat × Nat × Int × Nat) ⟨⟨by dsimp only; omega, hbd2.2⟩, by dsimp only; omega, .inr ⟨ho2, opAt_pos ho2, rfl⟩, e⟩ (by dsimp only; omega) ?_ ?_))))))))
            · exact bc_ 0 r_ (bc_ 0 r_ (bc_ 0 r_ (bc_ 0 r_ (bc_ 0 r_ sub_end))))
            · (repeat (first | exact True.intro | refine ⟨rfl, ?_⟩))
omit hl in
theorem ix_row (s : ByteArray) (x : T) : (T.ix s x).row' = [.val (.int .i64 3), .val (.int .i64 0), .val (.string s), .val (.int .i64 0), .list [x.row']] := by
  rw [← T.row_eq x]; rfl
theorem pfactor_step (F : Nat) (hF : FaP l F) (hX : ExP l F) : FaP l (F + 1) := by
  intro b a ha hN
  unfold need at hN
  refine con_introE Tryz.func146 rfl rfl (Nat.le_of_ble_eq_true rfl) (fun c hc => ?_)
  cases h1 : isNum l a with
  | true =>
    have e : finT l b (sx false l (F + 1) 3 a) = .ret (fun K => K (.row (T.nu (numAt l a)).row') [Pz b l (a + 1)]) := by rw [sx, if_pos (Nat.le_refl _), if_pos h1]; rfl
    refine R_ (o_ r_ (bl_ r_ r_ (fun bl => T_ (B_ (R_ (M_ r_ (o_ r_ (bi_ [1] r_ r_ (numbered_y ha h1) (E_ r_ (T_ (aq_ r_ r_ (R_ (M_ r_ (o_ r_ (bi_ [0] r_ r_ (pnum_ok hl ha h1) (o_ r_ (bu_ r_ r_ r_ r_ r_ (S_ 1 r_ (T_ ?_)))))))))))))))))))
    refine ar_ (az_ (aw_ (jq_fin e (jq_row 0 (T.nu (numAt l a)).row' rfl ?_ ?_))))
    · (repeat (first | exact RowLe.nil | refine RowLe.cons (CLe.refl _) ?_ | refine RowLe.cons CLe.nil ?_))
    · exact jq_retRowS rfl rfl rfl rfl 0 rfl (fun K h => h) (bc_ 1 r_ sub_end)
  | false =>
    have h1' : ¬ isNum l a = true := by rw [h1]; decide
    cases h2 : isA l a W45 with
    | true =>
      have hlt := isA_lt h2
      cases h3 : isNum l (a + 1) with
      | true =>
        have e : finT l b (sx false l (F + 1) 3 a) = .ret (fun K => K (.row (T.nu (ngI (numAt l (a + 1)))).row') [Pz b l (a + 2)]) := by rw [sx, if_pos (Nat.le_refl _), if_neg h1', if_pos h2, if_pos h3]; rfl
        refine R_ (o_ r_ (bl_ r_ r_ (fun bl => T_ (B_ (R_ (M_ r_ (o_ r_ (bi_ [1] r_ r_ (numbered_n ha h1) (E_ r_ (T_ (ap_ r_ r_ (R_ (M_ r_ (o_ r_ (bi_ [0] r_ r_ (has_y hl ha h2) (E_ r_ (T_ (aq_ r_ r_ ?_))))))))))))))))))
        refine am_ (R_ (M_ r_ (o_ r_ (bi_ [0] r_ r_ (numbered_y g_ h3) (T_ (aq_ r_ r_ (R_ (M_ r_ (o_ r_ (bi_ [0] r_ r_ (pnum_ok hl g_ h3) (o_ r_ (ow_negW r_ (o_ r_ (bu_ r_ r_ r_ r_ r_ (S_ 1 r_ (T_ (ar_ (aw_ (az_ ?_)))))))))))))))))))
        refine aw_ (jq_fin e (jq_row 0 (T.nu (ngI (numAt l (a + 1)))).row' rfl ?_ ?_))
        · (repeat (first | exact RowLe.nil | refine RowLe.cons (CLe.refl _) ?_ | refine RowLe.cons CLe.nil ?_))
        · exact jq_retRowS rfl rfl rfl rfl 0 rfl (fun K h => h) (bc_ 1 r_ sub_end)
      | false =>
        have h3' : ¬ isNum l (a + 1) = true := by rw [h3]; decide
        have con := hF b (a + 1) (by omega) (by unfold need; omega)
        cases hr : sx false l F 3 (a + 1) with
        | er code p =>
          have e : finT l b (sx false l (F + 1) 3 a) = .pan (stopV l code p) := by rw [sx, if_pos (Nat.le_refl _), if_neg h1', if_pos h2, if_neg h3', hr]; rfl
          have con := finT_er con hr
          refine R_ (o_ r_ (bl_ r_ r_ (fun bl => T_ (B_ (R_ (M_ r_ (o_ r_ (bi_ [1] r_ r_ (numbered_n ha h1) (E_ r_ (T_ (ap_ r_ r_ (R_ (M_ r_ (o_ r_ (bi_ [0] r_ r_ (has_y hl ha h2) (E_ r_ (T_ (aq_ r_ r_ ?_))))))))))))))))))
          refine am_ (R_ (M_ r_ (o_ r_ (bi_ [0] r_ r_ (numbered_n g_ h3) (T_ (ap_ r_ r_ (as_ (al_ (R_ (M_ r_ (o_ r_ (bu_ r_ r_ r_ r_ r_ (M_ r_ ?_)))))))))))))
          exact jl_pan (op_pan [0] rfl rfl (con)) (by (repeat (first | refine pq_then ?_ | refine pq_block ?_)); exact pq_fin (by first | rfl | assumption))
        | ok x c =>
          have hbd := sx_bd _ _ _ _ _ hr
          have con := finT_ok con hr
          by_cases hd : 8 < (T.bn 2 (.nu 0) x).dep
          · have e : finT l b (sx false l (F + 1) 3 a) = .pan (stopV l 4 (c - 1)) := by rw [sx, if_pos (Nat.le_refl _), if_neg h1', if_pos h2, if_neg h3', hr]; dsimp only; rw [dpr_n ⟨rfl, hd⟩]; rfl
            refine R_ (o_ r_ (bl_ r_ r_ (fun bl => T_ (B_ (R_ (M_ r_ (o_ r_ (bi_ [1] r_ r_ (numbered_n ha h1) (E_ r_ (T_ (ap_ r_ r_ (R_ (M_ r_ (o_ r_ (bi_ [0] r_ r_ (has_y hl ha h2) (E_ r_ (T_ (aq_ r_ r_ ?_))))))))))))))))))
            refine am_ (R_ (M_ r_ (o_ r_ (bi_ [0] r_ r_ (numbered_n g_ h3) (T_ (ap_ r_ r_ (as_ (al_ (R_ (M_ r_ (o_ r_ (bu_ r_ r_ r_ r_ r_ (M_ r_ (o_ r_ (bi_ [0] r_ r_ (con) (o_ r_ (bm_ r_ (binaryN_c 2 0 x) ?_)))))))))))))))))
            exact jl_pan (op_pan [0] rfl rfl (pnode_n hl _ hd g_ g_)) (by (repeat (first | refine pq_then ?_ | refine pq_block ?_)); exact pq_fin (by first | rfl | assumption))
          · have e : finT l b (sx false l (F + 1) 3 a) = .ret (fun K => K (.row (T.bn 2 (.nu 0) x).row') [Pz b l c]) := by rw [sx, if_pos (Nat.le_refl _), if_neg h1', if_pos h2, if_neg h3', hr]; dsimp only; rw [dpr_y (fun h => hd h.2)]; rfl
            refine R_ (o_ r_ (bl_ r_ r_ (fun bl => T_ (B_ (R_ (M_ r_ (o_ r_ (bi_ [1] r_ r_ (numbered_n ha h1) (E_ r_ (T_ (ap_ r_ r_ (R_ (M_ r_ (o_ r_ (bi_ [0] r_ r_ (has_y hl ha h2) (E_ r_ (T_ (aq_ r_ r_ ?_))))))))))))))))))
            refine am_ (R_ (M_ r_ (o_ r_ (bi_ [0] r_ r_ (numbered_n g_ h3) (T_ (ap_ r_ r_ (as_ (al_ (R_ (M_ r_ (o_ r_ (bu_ r_ r_ r_ r_ r_ (M_ r_ (o_ r_ (bi_ [0] r_ r_ (con) (o_ r_ (bm_ r_ (binaryN_c 2 0 x) (o_ r_ (bi_ [0] r_ r_ (pnode_y _ hd) (S_ 1 r_ ?_))))))))))))))))))))
            exact T_ (ar_ (az_ (aw_ (jq_fin e (jq_retRowS rfl rfl rfl rfl 0 rfl (fun K h => h) (bc_ 1 r_ sub_end))))))
    | false =>
      have h2' : ¬ isA l a W45 = true := by rw [h2]; decide
      cases h3 : isNm l a with
      | true =>
        have hlt := isNm_lt h3
        cases h4 : isA l (a + 1) W91 with
        | true =>
          have hlt2 := isA_lt h4
          have con := hX b (a + 2) (by omega) (by unfold need; omega)
          cases hr : sx false l F 0 (a + 2) with
          | er code p =>
            have e : finT l b (sx false l (F + 1) 3 a) = .pan (stopV l code p) := by rw [sx, if_pos (Nat.le_refl _), if_neg h1', if_neg h2', if_pos h3, if_pos h4, hr]; rfl
            have con := finT_er con hr
            refine R_ (o_ r_ (bl_ r_ r_ (fun bl => T_ (B_ (R_ (M_ r_ (o_ r_ (bi_ [1] r_ r_ (numbered_n ha h1) (E_ r_ (T_ (ap_ r_ r_ (R_ (M_ r_ (o_ r_ (bi_ [0] r_ r_ (has_n hl ha h2) (E_ r_ (T_ (ap_ r_ r_ ?_))))))))))))))))))
            refine R_ (M_ r_ (o_ r_ (bi_ [0] r_ r_ (named_y ha h3) (o_ r_ (cd_ r_ (E_ r_ (T_ (ap_ r_ r_ (as_ (ay_ (al_ (R_ (M_ r_ (o_ r_ (bi_ [0] r_ r_ (pname_ok hl ha h3) (E_ r_ (T_ (am_ ?_))))))))))))))))))
            refine R_ (M_ r_ (o_ r_ (bi_ [0] r_ r_ (has_y hl g_ h4) (o_ r_ (cd_ r_ (T_ (ap_ r_ r_ (as_ (al_ (R_ (M_ r_ ?_)))))))))))
            exact jl_pan (op_pan [0] rfl rfl (con)) (by (repeat (first | refine pq_then ?_ | refine pq_block ?_)); exact pq_fin (by first | rfl | assumption))
          | ok x c =>
            have hbd := sx_bd _ _ _ _ _ hr
            have con := finT_ok con hr
            cases h5 : isA l c W93 with
            | true =>
              have hlt5 := isA_lt h5
              by_cases hd : 8 < (T.ix (txtAt l a) x).dep
              · have e : finT l b (sx false l (F + 1) 3 a) = .pan (stopV l 4 c) := by rw [sx, if_pos (Nat.le_refl _), if_neg h1', if_neg h2', if_pos h3, if_pos h4, hr]; dsimp only; rw [if_pos h5, dpr_n ⟨rfl, hd⟩]; rfl
                have hN := pnode_n (b := b) (a := c + 1) hl _ hd (by omega) (by omega)
                rw [show c + 1 - 1 = c by omega, ix_row] at hN
                refine R_ (o_ r_ (bl_ r_ r_ (fun bl => T_ (B_ (R_ (M_ r_ (o_ r_ (bi_ [1] r_ r_ (numbered_n ha h1) (E_ r_ (T_ (ap_ r_ r_ (R_ (M_ r_ (o_ r_ (bi_ [0] r_ r_ (has_n hl ha h2) (E_ r_ (T_ (ap_ r_ r_ ?_))))))))))))))))))
                refine R_ (M_ r_ (o_ r_ (bi_ [0] r_ r_ (named_y ha h3) (o_ r_ (cd_ r_ (E_ r_ (T_ (ap_ r_ r_ (as_ (ay_ (al_ (R_ (M_ r_ (o_ r_ (bi_ [0] r_ r_ (pname_ok hl ha h3) (E_ r_ (T_ (am_ ?_))))))))))))))))))
                refine R_ (M_ r_ (o_ r_ (bi_ [0] r_ r_ (has_y hl g_ h4) (o_ r_ (cd_ r_ (T_ (ap_ r_ r_ (as_ (al_ (R_ (M_ r_ (o_ r_ (bi_ [0] r_ r_ (con) (o_ r_ (bl_ r_ r_ (fun bl => S_ 0 r_ (T_ (R_ (M_ r_ ?_)))))))))))))))))))
                refine o_ r_ (bi_ [1] r_ r_ (pword_ok hl g_ _ h5) (T_ (R_ (M_ r_ (M_ r_ (A_ 1 r_ (o_ r_ (bq_ r_ r_ b_ r_ r_ b_ (o_ r_ (bu_ r_ r_ r_ r_ r_ ?_))))))))))
                exact jl_pan (op_pan [0] rfl rfl (hN)) (by (repeat (first | refine pq_then ?_ | refine pq_block ?_)); exact pq_fin (by first | rfl | assumption))
              · have e : finT l b (sx false l (F + 1) 3 a) = .ret (fun K => K (.row (T.ix (txtAt l a) x).row') [Pz b l (c + 1)]) := by rw [sx, if_pos (Nat.le_refl _), if_neg h1', if_neg h2', if_pos h3, if_pos h4, hr]; dsimp only; rw [if_pos h5, dpr_y (fun h => hd h.2)]; rfl
                have hN := pnode_y (b := b) (l := l) (a := c + 1) _ hd
                rw [ix_row] at e hN
                refine R_ (o_ r_ (bl_ r_ r_ (fun bl => T_ (B_ (R_ (M_ r_ (o_ r_ (bi_ [1] r_ r_ (numbered_n ha h1) (E_ r_ (T_ (ap_ r_ r_ (R_ (M_ r_ (o_ r_ (bi_ [0] r_ r_ (has_n hl ha h2) (E_ r_ (T_ (ap_ r_ r_ ?_))))))))))))))))))
                refine R_ (M_ r_ (o_ r_ (bi_ [0] r_ r_ (named_y ha h3) (o_ r_ (cd_ r_ (E_ r_ (T_ (ap_ r_ r_ (as_ (ay_ (al_ (R_ (M_ r_ (o_ r_ (bi_ [0] r_ r_ (pname_ok hl ha h3) (E_ r_ (T_ (am_ ?_))))))))))))))))))
                refine R_ (M_ r_ (o_ r_ (bi_ [0] r_ r_ (has_y hl g_ h4) (o_ r_ (cd_ r_ (T_ (ap_ r_ r_ (as_ (al_ (R_ (M_ r_ (o_ r_ (bi_ [0] r_ r_ (con) (o_ r_ (bl_ r_ r_ (fun bl => S_ 0 r_ (T_ (R_ (M_ r_ ?_)))))))))))))))))))
                exact o_ r_ (bi_ [1] r_ r_ (pword_ok hl g_ _ h5) (T_ (R_ (M_ r_ (M_ r_ (A_ 1 r_ (o_ r_ (bq_ r_ r_ b_ r_ r_ b_ (o_ r_ (bu_ r_ r_ r_ r_ r_ (o_ r_ (bi_ [0] r_ r_ (hN) (S_ 2 r_ (T_ (ar_ (jq_fin e (jq_retRowS rfl rfl rfl rfl 0 rfl (fun K h => h) (bc_ 1 r_ sub_end))))))))))))))))))
            | false =>
              have h5' : ¬ isA l c W93 = true := by rw [h5]; decide
              have e : finT l b (sx false l (F + 1) 3 a) = .pan (stopV l 1 c) := by rw [sx, if_pos (Nat.le_refl _), if_neg h1', if_neg h2', if_pos h3, if_pos h4, hr]; dsimp only; rw [if_neg h5']; rfl
              refine R_ (o_ r_ (bl_ r_ r_ (fun bl => T_ (B_ (R_ (M_ r_ (o_ r_ (bi_ [1] r_ r_ (numbered_n ha h1) (E_ r_ (T_ (ap_ r_ r_ (R_ (M_ r_ (o_ r_ (bi_ [0] r_ r_ (has_n hl ha h2) (E_ r_ (T_ (ap_ r_ r_ ?_))))))))))))))))))
              refine R_ (M_ r_ (o_ r_ (bi_ [0] r_ r_ (named_y ha h3) (o_ r_ (cd_ r_ (E_ r_ (T_ (ap_ r_ r_ (as_ (ay_ (al_ (R_ (M_ r_ (o_ r_ (bi_ [0] r_ r_ (pname_ok hl ha h3) (E_ r_ (T_ (am_ ?_))))))))))))))))))
              refine R_ (M_ r_ (o_ r_ (bi_ [0] r_ r_ (has_y hl g_ h4) (o_ r_ (cd_ r_ (T_ (ap_ r_ r_ (as_ (al_ (R_ (M_ r_ (o_ r_ (bi_ [0] r_ r_ (con) (o_ r_ (bl_ r_ r_ (fun bl => S_ 0 r_ (T_ (R_ (M_ r_ ?_)))))))))))))))))))
              exact jl_pan (op_pan [1] rfl rfl (pword_er hl g_ _ h5)) (by (repeat (first | refine pq_then ?_ | refine pq_block ?_)); exact pq_fin (by first | rfl | assumption))
        | false =>
          have h4' : ¬ isA l (a + 1) W91 = true := by rw [h4]; decide
          have e : finT l b (sx false l (F + 1) 3 a) = .ret (fun K => K (.row (T.nm (txtAt l a)).row') [Pz b l (a + 1)]) := by rw [sx, if_pos (Nat.le_refl _), if_neg h1', if_neg h2', if_pos h3, if_neg h4']; rfl
          refine R_ (o_ r_ (bl_ r_ r_ (fun bl => T_ (B_ (R_ (M_ r_ (o_ r_ (bi_ [1] r_ r_ (numbered_n ha h1) (E_ r_ (T_ (ap_ r_ r_ (R_ (M_ r_ (o_ r_ (bi_ [0] r_ r_ (has_n hl ha h2) (E_ r_ (T_ (ap_ r_ r_ ?_))))))))))))))))))
          refine R_ (M_ r_ (o_ r_ (bi_ [0] r_ r_ (named_y ha h3) (o_ r_ (cd_ r_ (E_ r_ (T_ (ap_ r_ r_ (as_ (ay_ (al_ (R_ (M_ r_ (o_ r_ (bi_ [0] r_ r_ (pname_ok hl ha h3) (E_ r_ (T_ (am_ ?_))))))))))))))))))
          refine R_ (M_ r_ (o_ r_ (bi_ [0] r_ r_ (has_n hl g_ h4) (o_ r_ (cd_ r_ (T_ (aq_ r_ r_ (R_ (M_ r_ (o_ r_ (bu_ r_ r_ r_ r_ r_ (S_ 1 r_ (T_ (ar_ (aw_ (jq_fin e (jq_row 0 (T.nm (txtAt l a)).row' rfl ?_ ?_)))))))))))))))))
          · (repeat (first | exact RowLe.nil | refine RowLe.cons (CLe.refl _) ?_ | refine RowLe.cons CLe.nil ?_))
          · exact jq_retRowS rfl rfl rfl rfl 0 rfl (fun K h => h) (bc_ 1 r_ sub_end)
      | false =>
        have h3' : ¬ isNm l a = true := by rw [h3]; decide
        cases h4 : isA l a W40 with
        | true =>
          have hlt := isA_lt h4
          have con := hX b (a + 1) (by omega) (by unfold need; omega)
          cases hr : sx false l F 0 (a + 1) with
          | er code p =>
            have e : finT l b (sx false l (F + 1) 3 a) = .pan (stopV l code p) := by rw [sx, if_pos (Nat.le_refl _), if_neg h1', if_neg h2', if_neg h3', if_pos h4, hr]; rfl
            have con := finT_er con hr
            refine R_ (o_ r_ (bl_ r_ r_ (fun bl => T_ (B_ (R_ (M_ r_ (o_ r_ (bi_ [1] r_ r_ (numbered_n ha h1) (E_ r_ (T_ (ap_ r_ r_ (R_ (M_ r_ (o_ r_ (bi_ [0] r_ r_ (has_n hl ha h2) (E_ r_ (T_ (ap_ r_ r_ ?_))))))))))))))))))
            refine R_ (M_ r_ (o_ r_ (bi_ [0] r_ r_ (named_n ha h3) (o_ r_ (cd_ r_ (E_ r_ (T_ (aq_ r_ r_ (R_ (M_ r_ (o_ r_ (bi_ [0] r_ r_ (pword_ok hl ha _ h4) (T_ (R_ (M_ r_ ?_)))))))))))))))
            exact jl_pan (op_pan [0] rfl rfl (con)) (by (repeat (first | refine pq_then ?_ | refine pq_block ?_)); exact pq_fin (by first | rfl | assumption))
          | ok x c =>
            have hbd := sx_bd _ _ _ _ _ hr
            have con := finT_ok con hr
            cases h5 : isA l c W41 with
            | true =>
              have e : finT l b (sx false l (F + 1) 3 a) = .ret (fun K => K (.row x.row') [Pz b l (c + 1)]) := by rw [sx, if_pos (Nat.le_refl _), if_neg h1', if_neg h2', if_neg h3', if_pos h4, hr]; dsimp only; rw [if_pos h5]; rfl
              refine R_ (o_ r_ (bl_ r_ r_ (fun bl => T_ (B_ (R_ (M_ r_ (o_ r_ (bi_ [1] r_ r_ (numbered_n ha h1) (E_ r_ (T_ (ap_ r_ r_ (R_ (M_ r_ (o_ r_ (bi_ [0] r_ r_ (has_n hl ha h2) (E_ r_ (T_ (ap_ r_ r_ ?_))))))))))))))))))
              refine R_ (M_ r_ (o_ r_ (bi_ [0] r_ r_ (named_n ha h3) (o_ r_ (cd_ r_ (E_ r_ (T_ (aq_ r_ r_ (R_ (M_ r_ (o_ r_ (bi_ [0] r_ r_ (pword_ok hl ha _ h4) (T_ (R_ (M_ r_ (o_ r_ (bi_ [0] r_ r_ (con) (o_ r_ (bl_ r_ r_ (fun bl => S_ 0 r_ ?_))))))))))))))))))))
              exact T_ (R_ (M_ r_ (o_ r_ (bi_ [1] r_ r_ (pword_ok hl g_ _ h5) (T_ (R_ (A_ 1 r_ (S_ 2 r_ (T_ (ar_ (az_ (aw_ (jq_fin e (jq_retRowS rfl rfl rfl rfl 0 rfl (fun K h => h) (bc_ 1 r_ sub_end)))))))))))))))
            | false =>
              have h5' : ¬ isA l c W41 = true := by rw [h5]; decide
              have e : finT l b (sx false l (F + 1) 3 a) = .pan (stopV l 1 c) := by rw [sx, if_pos (Nat.le_refl _), if_neg h1', if_neg h2', if_neg h3', if_pos h4, hr]; dsimp only; rw [if_neg h5']; rfl
              refine R_ (o_ r_ (bl_ r_ r_ (fun bl => T_ (B_ (R_ (M_ r_ (o_ r_ (bi_ [1] r_ r_ (numbered_n ha h1) (E_ r_ (T_ (ap_ r_ r_ (R_ (M_ r_ (o_ r_ (bi_ [0] r_ r_ (has_n hl ha h2) (E_ r_ (T_ (ap_ r_ r_ ?_))))))))))))))))))
              refine R_ (M_ r_ (o_ r_ (bi_ [0] r_ r_ (named_n ha h3) (o_ r_ (cd_ r_ (E_ r_ (T_ (aq_ r_ r_ (R_ (M_ r_ (o_ r_ (bi_ [0] r_ r_ (pword_ok hl ha _ h4) (T_ (R_ (M_ r_ (o_ r_ (bi_ [0] r_ r_ (con) (o_ r_ (bl_ r_ r_ (fun bl => S_ 0 r_ ?_))))))))))))))))))))
              refine T_ (R_ (M_ r_ ?_))
              exact jl_pan (op_pan [1] rfl rfl (pword_er hl g_ _ h5)) (by (repeat (first | refine pq_then ?_ | refine pq_block ?_)); exact pq_fin (by first | rfl | assumption))
        | false =>
          have h4' : ¬ isA l a W40 = true := by rw [h4]; decide
          have e : finT l b (sx false l (F + 1) 3 a) = .pan (stopV l 1 a) := by rw [sx, if_pos (Nat.le_refl _), if_neg h1', if_neg h2', if_neg h3', if_neg h4']; rfl
          refine R_ (o_ r_ (bl_ r_ r_ (fun bl => T_ (B_ (R_ (M_ r_ (o_ r_ (bi_ [1] r_ r_ (numbered_n ha h1) (E_ r_ (T_ (ap_ r_ r_ (R_ (M_ r_ (o_ r_ (bi_ [0] r_ r_ (has_n hl ha h2) (E_ r_ (T_ (ap_ r_ r_ ?_))))))))))))))))))
          refine R_ (M_ r_ (o_ r_ (bi_ [0] r_ r_ (named_n ha h3) (o_ r_ (cd_ r_ (E_ r_ (T_ (aq_ r_ r_ (R_ (M_ r_ ?_))))))))))
          exact jl_pan (op_pan [0] rfl rfl (pword_er hl ha _ h4)) (by (repeat (first | refine pq_then ?_ | refine pq_block ?_)); exact pq_fin (by first | rfl | assumption))
/-- The strict parser of expressions is the program's. -/
theorem pexpr_all : ∀ F : Nat, FaP l F ∧ ExP l F ∧ JnP l F
  | 0 => ⟨fun b a ha h => absurd h (by unfold need; omega), fun b a ha h => absurd h (by unfold need; omega), fun b k a hk ha h => absurd h (by unfold need; omega)⟩
  | F + 1 => by
    obtain ⟨h1, h2, h3⟩ := pexpr_all F
    have f1 := pfactor_step hl F h1 h2
    refine ⟨f1, pexpr_step hl F h3, ?_⟩
    intro b k a hk ha hN
    rcases (show k = 0 ∨ k = 1 ∨ k = 2 by omega) with rfl | rfl | rfl
    · exact pjoined_step hl F 0 b a g_ (fun a ha h => h3 b 1 a g_ ha h) ha hN
    · exact pjoined_step hl F 1 b a g_ (fun a ha h => h3 b 2 a g_ ha h) ha hN
    · exact pjoined_top (F + 1) b a f1 ha hN
theorem exG_c (ha : a ≤ l.length) : ConE Tryz.prog 117 [Ptr b] [Pz b l a] (finT l b (exG l a)) := (pexpr_all hl (5 * l.length + 4)).2.1 b a ha (by unfold need; omega)
end
end Go.Proofs.YtlniadfidfmckaaGreatDoor
end

section
namespace Go.Proofs.YtlniadfidfmckaaGreatDoor
open Go.Vc
def finR {α : Type} (l : List Tok) (b : Nat) (g : α → S) : R α → Fin
  | .ok x c => .ret (fun K => K (g x) [Pz b l c])
  | .er code p => .pan (stopV l code p)
section
variable {α : Type} {l : List Tok} {b : Nat} {g : α → S} {f : FuncId} {args : List S} {Hin : List Ch} {r : R α}
theorem finR_con {x : α} {c : Nat} (h : ConE Tryz.prog f args Hin (finR l b g (.ok x c))) : Con Tryz.prog f args Hin (fun K => K (g x) [Pz b l c]) := h
theorem finR_pan {code : Int} {p : Nat} (h : ConE Tryz.prog f args Hin (finR l b g (.er code p))) : Pan Tryz.prog f args Hin (stopV l code p) := h
theorem con_finR {x : α} {c : Nat} (e : r = .ok x c) (h : Con Tryz.prog f args Hin (fun K => K (g x) [Pz b l c])) : ConE Tryz.prog f args Hin (finR l b g r) := by subst e; exact h
theorem pan_finR {code : Int} {p : Nat} (e : r = .er code p) (h : Pan Tryz.prog f args Hin (stopV l code p)) : ConE Tryz.prog f args Hin (finR l b g r) := by subst e; exact h
end
attribute [local irreducible] JL JC JQ OpWp Con ConN Pan ConE OpPan HP HT HOk hasW idxW isA isNum isNm numAt txtAt lineAt opAt lx lpx sx sxp exG
set_option maxHeartbeats 4000000

structure PC {α : Type} (f : FuncId) (l : List Tok) (b : Nat) (args : List S) (a : Nat) (g : α → S) (r : R α) : Prop where
  con : ConE Tryz.prog f (Ptr b :: args) [Pz b l a] (finR l b g r)
  bd : ∀ x c, r = .ok x c → a < c ∧ c ≤ l.length
theorem jl_bindE {nt : Nat} {c : Cx Tryz.prog nt} {env : Env} {H Hr : List Ch} {ops : Array Oper} {ls : List Oper} {Q : Exit → Act → World → Prop} {α β : Type} {gA : α → S} {gB : β → S} {l : List Tok} {b a : Nat} {r : R α} {f : α → Nat → R β} {fin0 : Fin} {fid : FuncId} [FI Tryz.prog fid] {args : List S} {xs : Array Operand} {at_ : Array TypeId} {d : Tmp} {ty : TypeId} {pos : String} {af : Array Edge} (is : List Nat)
    (hx : env.evs xs.toList = some (Ptr b :: args)) (hp : pick is H = some ([Pz b l a], Hr)) (con : PC fid l b args a gA r) (he : fin0 = finR l b gB (r.bind f)) (hq : ∀ v, fin0 = .pan v → PanQ c Q v) (hd : d < nt)
    (h : ∀ x c', r = .ok x c' → a < c' ∧ c' ≤ l.length → fin0 = finR l b gB (f x c') → JL c ops Q ls ((d, gA x) :: env) ([Pz b l c'] ++ Hr)) : JL c ops Q (⟨some d, .call { callee := .value (.func fid), args := xs, argTypes := at_ }, ty, pos, af, none⟩ :: ls) env H := by
  obtain ⟨con, bd⟩ := con
  cases r with
  | ok x c' => exact jl_op (ow_call1 is hx hp (finR_con con) (h x c' rfl (bd _ _ rfl) he)) hd
  | er code p => exact jl_pan (op_pan is hx hp (finR_pan con)) (hq _ he)
theorem hp_bindE {nt : Nat} {c : Cx Tryz.prog nt} {env : Env} {H Hr : List Ch} {ops : Array Oper} {Q : Exit → Act → World → Prop} {Sw : World → Prop} {m fuel : Nat} {listed : Array Bool} {i : Nat} {α β : Type} {gA : α → S} {gB : β → S} {l : List Tok} {b a : Nat} {r : R α} {f : α → Nat → R β} {fin0 : Fin} {fid : FuncId} [FI Tryz.prog fid] {args : List S} {xs : Array Operand} {at_ : Array TypeId} {d : Tmp} {ty : TypeId} {pos : String} {af : Array Edge}
    (hi : ops[i]? = some ⟨some d, .call { callee := .value (.func fid), args := xs, argTypes := at_ }, ty, pos, af, none⟩) (hr : Region.ready .any ops listed = [i]) (hd : d < nt) (is : List Nat)
    (hx : env.evs xs.toList = some (Ptr b :: args)) (hp : pick is H = some ([Pz b l a], Hr)) (con : PC fid l b args a gA r) (he : fin0 = finR l b gB (r.bind f)) (hq : ∀ v, fin0 = .pan v → PanQ c Q v)
    (h : ∀ x c', r = .ok x c' → a < c' ∧ c' ≤ l.length → fin0 = finR l b gB (f x c') → (∀ w, StW c ([Pz b l c'] ++ Hr) w → Sw w) ∧ HP c ops Q Sw m fuel (listed.setIfInBounds i true) ((d, gA x) :: env) ([Pz b l c'] ++ Hr)) : HP c ops Q Sw m (fuel + 1) listed env H := by
  obtain ⟨con, bd⟩ := con
  cases r with
  | ok x c' => exact hp_op hi hr hd (ow_call1 is hx hp (finR_con con) (h x c' rfl (bd _ _ rfl) he))
  | er code p => exact hp_pan hi hr (op_pan is hx hp (finR_pan con)) (hq _ he)
theorem R.bind_ok {α : Type} (r : R α) : (r.bind fun x b => .ok x b) = r := by cases r <;> rfl
section
variable {l : List Tok} {a b : Nat} (hl : l.length ≤ 1000000) (ha : a ≤ l.length)
include hl ha
theorem pword_p (w : ByteArray) : PC 65 l b [Str w] a (fun _ : Unit => .tup []) (wdG l w a) := by
  unfold wdG
  cases h : isA l a w with
  | true => exact ⟨con_finR (if_pos rfl) (pword_ok hl ha w h), fun x c e => by have := isA_lt h; rw [if_pos rfl] at e; cases e; omega⟩
  | false => exact ⟨pan_finR (if_neg Bool.false_ne_true) (pword_er hl ha w h), fun x c e => by rw [if_neg Bool.false_ne_true] at e; cases e⟩
theorem pname_p : PC 63 l b [] a (fun s : ByteArray => Str s) (nmG l a) := by
  unfold nmG
  cases h : isNm l a with
  | true => exact ⟨con_finR (if_pos rfl) (pname_ok hl ha h), fun x c e => by have := isNm_lt h; rw [if_pos rfl] at e; cases e; omega⟩
  | false => exact ⟨pan_finR (if_neg Bool.false_ne_true) (pname_er hl ha h), fun x c e => by rw [if_neg Bool.false_ne_true] at e; cases e⟩
theorem pnum_p : PC 64 l b [] a (fun n : Int => In .i64 n) (nuG l a) := by
  unfold nuG
  cases h : isNum l a with
  | true => exact ⟨con_finR (if_pos rfl) (pnum_ok hl ha h), fun x c e => by have := isNum_lt h; rw [if_pos rfl] at e; cases e; omega⟩
  | false => exact ⟨pan_finR (if_neg Bool.false_ne_true) (pnum_er hl ha h), fun x c e => by rw [if_neg Bool.false_ne_true] at e; cases e⟩
theorem pexpr_p : PC 117 l b [] a (fun t : T => .row t.row') (exG l a) := by
  refine ⟨?_, fun x c e => by unfold exG at e; exact sx_bd _ _ _ _ _ e⟩
  have := exG_c (b := b) hl ha
  cases h : exG l a with
  | ok t c => exact con_finR rfl (finT_ok this h)
  | er code p => exact pan_finR rfl (finT_er this h)
theorem pnumber_p : PC 97 l b [] a (fun n : Int => In .i64 n) (nbG l a) := by
  have hbd : ∀ x c, nbG l a = .ok x c → a < c ∧ c ≤ l.length := by
    intro x c e
    unfold nbG at e
    split at e
    · rename_i h
      have := isA_lt h
      cases h2 : nuG l (a + 1) with
      | ok y d =>
        rw [h2] at e
        have := (pnum_p (b := b) hl (show a + 1 ≤ l.length by omega)).bd _ _ h2
        simp only [R.bind] at e
        cases e
        omega
      | er code p => rw [h2] at e; cases e
    · exact (pnum_p (b := b) hl ha).bd _ _ e
  refine ⟨(con_introE Tryz.func97 rfl rfl (Nat.le_of_ble_eq_true rfl) (fun c hc => ?_)), hbd⟩
  generalize hfin : finR l b (fun n : Int => In .i64 n) (nbG l a) = fin0
  have e := hfin.symm
  cases h : isA l a W45 with
  | true =>
    have hlt := isA_lt h
    rw [nbG, if_pos h] at e
    refine R_ (E_ r_ (T_ (am_ (R_ (M_ r_ (o_ r_ (bi_ [0] r_ r_ (has_y hl ha h) (T_ (aq_ r_ r_ (R_ (M_ r_ (jl_bindE [0] rfl rfl (pnum_p hl g_) e (fun v hv => by (repeat (first | refine pq_then ?_ | refine pq_block ?_)); exact pq_fin hv) (nb rfl) (fun n c h2 g2 e => ?_)))))))))))))
    exact o_ r_ (ow_negW r_ (E_ r_ (T_ (ar_ (aw_ (jq_fin e (jq_ret1S rfl rfl (fun K h => h) (bc_ 0 r_ sub_end))))))))
  | false =>
    rw [nbG, if_neg (by rw [h]; decide), ← R.bind_ok (nuG l a)] at e
    refine R_ (E_ r_ (T_ (am_ (R_ (M_ r_ (o_ r_ (bi_ [0] r_ r_ (has_n hl ha h) (T_ (ap_ r_ r_ (as_ (al_ (R_ (M_ r_ (jl_bindE [0] rfl rfl (pnum_p hl ha) e (fun v hv => by (repeat (first | refine pq_then ?_ | refine pq_block ?_)); exact pq_fin hv) (nb rfl) (fun n c h2 g2 e => ?_)))))))))))))))
    exact E_ r_ (T_ (ar_ (jq_fin e (jq_ret1S rfl rfl (fun K h => h) (bc_ 0 r_ sub_end)))))
end
end Go.Proofs.YtlniadfidfmckaaGreatDoor
end

section
namespace Go.Proofs.YtlniadfidfmckaaGreatDoor
open Go.Vc
attribute [local irreducible] JL JC JQ OpWp Con ConN Pan ConE OpPan HP HT HOk hasW idxW isA isNum isNm numAt txtAt lineAt opAt lx lpx sx sxp exG
set_option maxHeartbeats 4000000

/-- No name is a brace (so it is with the tokens of a text). -/
def NmOk (l : List Tok) : Prop := ∀ a, isNm l a = true → isA l a Kcb = false
theorem kw_nm {l : List Tok} {a : Nat} {w : ByteArray} (h : isA l a w = true) (hw : hasW w = true) : isNm l a = false := by
  have hlt := isA_lt h
  rw [isA_get w hlt] at h
  rw [isNm_get hlt]
  simp only [Bool.and_eq_true, decide_eq_true_eq] at h
  rw [h.2, hw]; simp
theorem isA_ne {l : List Tok} {a : Nat} {w u : ByteArray} (h : isA l a w = true) (hw : ¬ w = u) : isA l a u = false := by
  have hlt := isA_lt h
  rw [isA_get w hlt] at h
  rw [isA_get u hlt]
  simp only [Bool.and_eq_true, decide_eq_true_eq] at h
  rw [h.2, decide_eq_false hw]; simp
theorem start_n {l : List Tok} {a : Nat} (h : startA l a = false) : isA l a Kif = false ∧ isA l a Kwhile = false ∧ isA l a Klock = false ∧ isNm l a = false := by
  unfold startA at h
  simp only [Bool.or_eq_false_iff] at h
  exact ⟨h.1.1.1, h.1.1.2, h.1.2, h.2⟩
theorem start_lt {l : List Tok} {a : Nat} (h : startA l a = true) : a < l.length := by
  rcases Nat.lt_or_ge a l.length with h' | h'
  · exact h'
  · rw [startA, isA_end _ (by omega), isA_end _ (by omega), isA_end _ (by omega), isNm_end (by omega)] at h; cases h
theorem start_cb {l : List Tok} (hN : NmOk l) {a : Nat} (h : isA l a Kcb = true) : startA l a = false := by
  rw [startA, isA_ne h (by decide), isA_ne h (by decide), isA_ne h (by decide)]
  cases h2 : isNm l a with
  | true => rw [hN a h2] at h; cases h
  | false => rfl
/-- The program's statement: as the reference's, but that it is looked at first. -/
def stG (l : List Tok) (F w a : Nat) : R Sm := if startA l a = true then (if 8 ≤ w then .er 4 a else stmtG l F w a) else .er 1 a
abbrev SmS (s : Sm) : S := .row s.row'
abbrev SlS (ss : List Sm) : S := .cell (.list (ss.map Sm.row))
theorem bind_okE {α β : Type} (x : α) (a : Nat) (f : α → Nat → R β) : (R.ok x a : R α).bind f = f x a := rfl
/-- What a composed step gives: first the one, then the other. -/
theorem bind_bd {α β : Type} {l : List Tok} {a : Nat} {r : R α} {f : α → Nat → R β} (h : ∀ x c, r = .ok x c → a < c ∧ c ≤ l.length) (k : ∀ x c, r = .ok x c → ∀ y d, f x c = .ok y d → c ≤ d ∧ d ≤ l.length) : ∀ y d, r.bind f = .ok y d → a < d ∧ d ≤ l.length := by
  intro y d e
  cases r with
  | ok x c =>
    have h1 := h x c rfl
    have h2 := k x c rfl y d e
    omega
  | er code p => cases e
theorem wdG_bd {l : List Tok} {w : ByteArray} {a : Nat} : ∀ x c, wdG l w a = .ok x c → a < c ∧ c ≤ l.length := by
  intro x c e
  unfold wdG at e
  split at e
  · rename_i h; have := isA_lt h; cases e; omega
  · cases e
theorem nmG_bd {l : List Tok} {a : Nat} : ∀ x c, nmG l a = .ok x c → a < c ∧ c ≤ l.length := by
  intro x c e
  unfold nmG at e
  split at e
  · rename_i h; have := isNm_lt h; cases e; omega
  · cases e
theorem nuG_bd {l : List Tok} {a : Nat} : ∀ x c, nuG l a = .ok x c → a < c ∧ c ≤ l.length := by
  intro x c e
  unfold nuG at e
  split at e
  · rename_i h; have := isNum_lt h; cases e; omega
  · cases e
theorem exG_bd {l : List Tok} {a : Nat} : ∀ x c, exG l a = .ok x c → a < c ∧ c ≤ l.length := by
  intro x c e
  unfold exG at e
  exact sx_bd _ _ _ _ _ e
theorem stmtsL_bd {l : List Tok} {st : Nat → R Sm} {w : Nat} (hs : ∀ a x c, st a = .ok x c → a < c ∧ c ≤ l.length) : ∀ (n a : Nat) (acc ss : List Sm) (c : Nat), a ≤ l.length → stmtsL l st w n a acc = .ok ss c → a ≤ c ∧ c ≤ l.length
  | 0, a, acc, ss, c, h, e => by simp only [stmtsL, R.ok.injEq] at e; omega
  | n + 1, a, acc, ss, c, h, e => by
    rw [stmtsL] at e
    split at e
    · split at e
      · cases e
      · cases h1 : st a with
        | er code p => rw [h1] at e; cases e
        | ok x b =>
          rw [h1] at e
          have h2 := hs _ _ _ h1
          have h3 := stmtsL_bd hs n b _ _ _ h2.2 e
          omega
    · simp only [R.ok.injEq] at e; omega
theorem blkG_bd {l : List Tok} {st : Nat → R Sm} {w n a : Nat} (hs : ∀ a x c, st a = .ok x c → a < c ∧ c ≤ l.length) : ∀ x c, blkG l st w n a = .ok x c → a < c ∧ c ≤ l.length :=
  bind_bd wdG_bd fun _ b hb y d e => by
    have h0 := wdG_bd _ _ hb
    cases h1 : stmtsL l st w n b [] with
    | er code p => rw [h1] at e; cases e
    | ok ss c =>
      rw [h1] at e
      have h2 := stmtsL_bd hs n b _ _ _ h0.2 h1
      cases h3 : wdG l Kcb c with
      | er code p => rw [bind_okE, h3] at e; cases e
      | ok u d' =>
        rw [bind_okE, h3, bind_okE] at e
        have h4 := wdG_bd _ _ h3
        cases e
        omega
theorem ok_bd {α : Type} {l : List Tok} {x : α} {a : Nat} (ha : a ≤ l.length) : ∀ y d, R.ok x a = .ok y d → a ≤ d ∧ d ≤ l.length := by
  intro y d e; cases e; omega
theorem bd_le {α : Type} {l : List Tok} {a : Nat} {r : R α} (h : ∀ x c, r = .ok x c → a < c ∧ c ≤ l.length) : ∀ x c, r = .ok x c → a ≤ c ∧ c ≤ l.length := fun x c e => by have := h x c e; omega
theorem stmtG_bd {l : List Tok} : ∀ (F w a : Nat) (x : Sm) (c : Nat), stmtG l F w a = .ok x c → a < c ∧ c ≤ l.length
  | 0, _, _, _, _, e => by simp [stmtG] at e
  | F + 1, w, a, x, c, e => by
    have ih := stmtG_bd (l := l) F
    have hB : ∀ b, ∀ x c, blkG l (stmtG l F (w + 1)) (w + 1) F b = .ok x c → b < c ∧ c ≤ l.length := fun b => blkG_bd (fun a x c => ih (w + 1) a x c)
    rw [stmtG] at e
    split at e
    · have h := bind_bd exG_bd (fun _ b _ => bd_le (bind_bd wdG_bd (fun _ b _ => bd_le (bind_bd nuG_bd (fun _ b _ => bd_le (bind_bd (hB _) (fun _ b hb => by
        have := hB _ _ _ hb
        split
        · rename_i h
          have := isA_lt h
          exact fun y d e => by have := bind_bd (a := b) (fun x c e => by have := hB _ _ _ e; omega) (fun _ b hb => ok_bd (hB _ _ _ hb).2) y d e; omega
        · exact ok_bd this.2))))))) x c e
      omega
    · split at e
      · have h := bind_bd exG_bd (fun _ b _ => bd_le (bind_bd wdG_bd (fun _ b _ => bd_le (bind_bd nuG_bd (fun _ b _ => bd_le (bind_bd wdG_bd (fun _ b _ => bd_le (bind_bd nuG_bd (fun _ b _ => bd_le (bind_bd (hB _) (fun _ b hb => ok_bd (hB _ _ _ hb).2)))))))))) ) x c e
        omega
      · split at e
        · have h := bind_bd nmG_bd (fun _ b _ => bd_le (bind_bd (hB _) (fun _ b hb => ok_bd (hB _ _ _ hb).2))) x c e
          omega
        · refine bind_bd nmG_bd (fun _ b _ => ?_) x c e
          split
          · exact fun y d e => by
              have := bind_bd exG_bd (fun _ b _ => bd_le (bind_bd wdG_bd (fun _ b _ => bd_le (bind_bd wdG_bd (fun _ b _ => bd_le (bind_bd exG_bd (fun _ b hb => ok_bd (exG_bd _ _ hb).2))))))) y d e
              omega
          · exact bd_le (bind_bd wdG_bd (fun _ b _ => bd_le (bind_bd exG_bd (fun _ b hb => ok_bd (exG_bd _ _ hb).2))))
end Go.Proofs.YtlniadfidfmckaaGreatDoor
end

section
namespace Go.Proofs.YtlniadfidfmckaaGreatDoor
open Go.Vc
attribute [local irreducible] JL JC JQ OpWp Con ConN Pan ConE OpPan HP HT HOk hasW idxW isA isNum isNm numAt txtAt lineAt opAt lx lpx sx sxp exG startA stmtG stmtsL blkG wdG nmG nuG nbG
set_option maxHeartbeats 4000000

def StP (l : List Tok) (F : Nat) : Prop := ∀ (b w a : Nat) (d : Int), d = (w : Int) + 1 → w ≤ 8 → a ≤ l.length → l.length - a + 1 ≤ F → PC 98 l b [In .i64 d] a SmS (stG l F w a)
def BkP (l : List Tok) (F : Nat) : Prop := ∀ (b w a : Nat) (d : Int), d = (w : Int) + 1 → w ≤ 8 → a ≤ l.length → l.length - a ≤ F → PC 118 l b [In .i64 d] a SlS (blkG l (stmtG l F w) w F a)
theorem cle_T1 (x : T) : CLe (.list [x.row']) (.list ([x].map T.row)) := CLe.eq (by simp [T.row_eq])
section
variable {l : List Tok} {a b : Nat} (hl : l.length ≤ 1000000)
include hl
theorem pstmt_step (F : Nat) (hB : BkP l F) : StP l (F + 1) := by
  intro b w a d hd hw ha hF
  refine ⟨?_, fun x c e => by
    unfold stG at e
    split at e
    · split at e
      · cases e
      · exact stmtG_bd _ _ _ _ _ e
    · cases e⟩
  refine con_introE Tryz.func98 rfl rfl (Nat.le_of_ble_eq_true rfl) (fun c hc => ?_)
  generalize hfin : finR l b SmS (stG l (F + 1) w a) = fin0
  have e := hfin.symm
  rw [stG] at e
  cases hst : startA l a with
  | false =>
    rw [if_neg (by rw [hst]; decide)] at e
    have e : fin0 = .pan (stopV l 1 a) := e
    obtain ⟨h1, h2, h3, h4⟩ := start_n hst
    refine R_ (o_ r_ (bl_ r_ r_ (fun bl => T_ (am_ (R_ (M_ r_ (o_ r_ (bi_ [1] r_ r_ (named_n ha h4) (o_ r_ (cd_ r_ (M_ r_ (ah_ r_ r_ b_ (bd_ r_ (ah_ r_ r_ b_ (bi_ [0] r_ r_ (is_n ha h1) (ah_ r_ r_ b_ (cd_ r_ (o_ r_ (bp_ r_ r_ r_ (M_ r_ (ah_ r_ r_ b_ (bd_ r_ (ah_ r_ r_ b_ (bi_ [0] r_ r_ (is_n ha h2) ?_))))))))))))))))))))))))
    refine ah_ r_ r_ b_ (cd_ r_ (o_ r_ (bp_ r_ r_ r_ (M_ r_ (ah_ r_ r_ b_ (bd_ r_ (ah_ r_ r_ b_ (bi_ [0] r_ r_ (is_n ha h3) (ah_ r_ r_ b_ (cd_ r_ (o_ r_ (bp_ r_ r_ r_ (T_ (aq_ r_ r_ (an_ (M_ r_ (M_ r_ (N_ r_ (F_ r_ (L_ 0 r_ ?_))))))))))))))))))))
    exact jl_pan (op_pan [0] rfl rfl (pfail_c hl 1 a g_)) (by (repeat (first | refine pq_then ?_ | refine pq_block ?_)); exact pq_fin (by first | rfl | assumption))
  | true =>
    have hlt := start_lt hst
    rw [if_pos hst] at e
    by_cases hw8 : 8 ≤ w
    · rw [if_pos hw8] at e
      have e : fin0 = .pan (stopV l 4 a) := e
      have hd8 : d > 8 := by omega
      cases h4 : isNm l a with
      | true =>
        refine R_ (o_ r_ (bl_ r_ r_ (fun bl => T_ (am_ (R_ (M_ r_ (o_ r_ (bi_ [1] r_ r_ (named_y ha h4) (o_ r_ (cd_ r_ (M_ r_ (ai_ r_ r_ b_ (ai_ r_ r_ b_ (ai_ r_ r_ b_ (o_ r_ (bv_ r_ r_ r_ (M_ r_ (ai_ r_ r_ b_ (ai_ r_ r_ b_ ?_)))))))))))))))))))
        refine ai_ r_ r_ b_ (o_ r_ (bv_ r_ r_ r_ (M_ r_ (ai_ r_ r_ b_ (ai_ r_ r_ b_ (ai_ r_ r_ b_ (o_ r_ (bv_ r_ r_ r_ (T_ (ap_ r_ r_ (as_ (al_ (am_ (R_ (M_ r_ (o_ r_ (bz_ r_ r_ (T_ ?_))))))))))))))))))
        refine aq_ r_ u_ (an_ (M_ r_ (M_ r_ (N_ r_ (F_ r_ (L_ 0 r_ ?_))))))
        exact jl_pan (op_pan [0] rfl rfl (pfail_c hl 4 a g_)) (by (repeat (first | refine pq_then ?_ | refine pq_block ?_)); exact pq_fin (by first | rfl | assumption))
      | false =>
        cases h1 : isA l a Kif with
        | true =>
          refine R_ (o_ r_ (bl_ r_ r_ (fun bl => T_ (am_ (R_ (M_ r_ (o_ r_ (bi_ [1] r_ r_ (named_n ha h4) (o_ r_ (cd_ r_ (M_ r_ (ah_ r_ r_ b_ (bd_ r_ (ah_ r_ r_ b_ (bi_ [0] r_ r_ (is_y ha h1) (ah_ r_ r_ b_ (cd_ r_ (o_ r_ (bp_ r_ r_ r_ (M_ r_ (ai_ r_ r_ b_ (ai_ r_ r_ b_ ?_))))))))))))))))))))))
          refine ai_ r_ r_ b_ (o_ r_ (bv_ r_ r_ r_ (M_ r_ (ai_ r_ r_ b_ (ai_ r_ r_ b_ (ai_ r_ r_ b_ (o_ r_ (bv_ r_ r_ r_ (T_ (ap_ r_ r_ (as_ (al_ (am_ (R_ (M_ r_ (o_ r_ (bz_ r_ r_ (T_ ?_))))))))))))))))))
          refine aq_ r_ u_ (an_ (M_ r_ (M_ r_ (N_ r_ (F_ r_ (L_ 0 r_ ?_))))))
          exact jl_pan (op_pan [0] rfl rfl (pfail_c hl 4 a g_)) (by (repeat (first | refine pq_then ?_ | refine pq_block ?_)); exact pq_fin (by first | rfl | assumption))
        | false =>
          cases h2 : isA l a Kwhile with
          | true =>
            refine R_ (o_ r_ (bl_ r_ r_ (fun bl => T_ (am_ (R_ (M_ r_ (o_ r_ (bi_ [1] r_ r_ (named_n ha h4) (o_ r_ (cd_ r_ (M_ r_ (ah_ r_ r_ b_ (bd_ r_ (ah_ r_ r_ b_ (bi_ [0] r_ r_ (is_n ha h1) (ah_ r_ r_ b_ (cd_ r_ (o_ r_ (bp_ r_ r_ r_ (M_ r_ (ah_ r_ r_ b_ (bd_ r_ (ah_ r_ r_ b_ (bi_ [0] r_ r_ (is_y ha h2) ?_))))))))))))))))))))))))
            refine ah_ r_ r_ b_ (cd_ r_ (o_ r_ (bp_ r_ r_ r_ (M_ r_ (ai_ r_ r_ b_ (ai_ r_ r_ b_ (ai_ r_ r_ b_ (o_ r_ (bv_ r_ r_ r_ (T_ (ap_ r_ r_ (as_ (al_ (am_ (R_ (M_ r_ (o_ r_ (bz_ r_ r_ (T_ ?_)))))))))))))))))))
            refine aq_ r_ u_ (an_ (M_ r_ (M_ r_ (N_ r_ (F_ r_ (L_ 0 r_ ?_))))))
            exact jl_pan (op_pan [0] rfl rfl (pfail_c hl 4 a g_)) (by (repeat (first | refine pq_then ?_ | refine pq_block ?_)); exact pq_fin (by first | rfl | assumption))
          | false =>
            have h3 : isA l a Klock = true := by rw [startA, h1, h2, h4] at hst; simpa using hst
            refine R_ (o_ r_ (bl_ r_ r_ (fun bl => T_ (am_ (R_ (M_ r_ (o_ r_ (bi_ [1] r_ r_ (named_n ha h4) (o_ r_ (cd_ r_ (M_ r_ (ah_ r_ r_ b_ (bd_ r_ (ah_ r_ r_ b_ (bi_ [0] r_ r_ (is_n ha h1) (ah_ r_ r_ b_ (cd_ r_ (o_ r_ (bp_ r_ r_ r_ (M_ r_ (ah_ r_ r_ b_ (bd_ r_ (ah_ r_ r_ b_ (bi_ [0] r_ r_ (is_n ha h2) ?_))))))))))))))))))))))))
            refine ah_ r_ r_ b_ (cd_ r_ (o_ r_ (bp_ r_ r_ r_ (M_ r_ (ah_ r_ r_ b_ (bd_ r_ (ah_ r_ r_ b_ (bi_ [0] r_ r_ (is_y ha h3) (ah_ r_ r_ b_ (cd_ r_ (o_ r_ (bp_ r_ r_ r_ (T_ (ap_ r_ r_ (as_ (al_ (am_ (R_ (M_ r_ (o_ r_ (bz_ r_ r_ (T_ ?_))))))))))))))))))))))
            refine aq_ r_ u_ (an_ (M_ r_ (M_ r_ (N_ r_ (F_ r_ (L_ 0 r_ ?_))))))
            exact jl_pan (op_pan [0] rfl rfl (pfail_c hl 4 a g_)) (by (repeat (first | refine pq_then ?_ | refine pq_block ?_)); exact pq_fin (by first | rfl | assumption))
    · rw [if_neg hw8, stmtG] at e
      have hd8 : ¬ d > 8 := by omega
      cases h1 : isA l a Kif with
      | true =>
        rw [if_pos h1] at e
        have h4 := kw_nm h1 (by decide +kernel)
        refine R_ (o_ r_ (bl_ r_ r_ (fun bl => T_ (am_ (R_ (M_ r_ (o_ r_ (bi_ [1] r_ r_ (named_n ha h4) (o_ r_ (cd_ r_ (M_ r_ (ah_ r_ r_ b_ (bd_ r_ (ah_ r_ r_ b_ (bi_ [0] r_ r_ (is_y ha h1) (ah_ r_ r_ b_ (cd_ r_ (o_ r_ (bp_ r_ r_ r_ (M_ r_ (ai_ r_ r_ b_ (ai_ r_ r_ b_ ?_))))))))))))))))))))))
        refine ai_ r_ r_ b_ (o_ r_ (bv_ r_ r_ r_ (M_ r_ (ai_ r_ r_ b_ (ai_ r_ r_ b_ (ai_ r_ r_ b_ (o_ r_ (bv_ r_ r_ r_ (T_ (ap_ r_ r_ (as_ (al_ (am_ (R_ (M_ r_ (o_ r_ (bz_ r_ r_ (T_ ?_))))))))))))))))))
        refine ap_ r_ w_ (as_ (al_ (B_ (R_ (M_ r_ (o_ r_ (bi_ [0] r_ r_ (has_y hl ha h1) (E_ r_ (T_ (aq_ r_ r_ (R_ (M_ r_ (jl_bindE [0] rfl rfl (pexpr_p hl g_) e (fun v hv => by (repeat (first | refine pq_then ?_ | refine pq_block ?_)); exact pq_fin hv) (nb rfl) (fun x b1 k1 g1 e => ?_))))))))))))))
        refine o_ r_ (bq_ r_ r_ b_ r_ r_ b_ (o_ r_ (bu_ r_ r_ r_ r_ r_ (o_ r_ (bl_ r_ r_ (fun bl => S_ 0 r_ (T_ (R_ (M_ r_ (jl_bindE [1] rfl rfl (pword_p hl g_ Klabel) e (fun v hv => by (repeat (first | refine pq_then ?_ | refine pq_block ?_)); exact pq_fin hv) (nb rfl) (fun u b2 k2 g2 e => ?_)))))))))))
        refine T_ (R_ (M_ r_ (jl_bindE [0] rfl rfl (pnum_p hl g_) e (fun v hv => by (repeat (first | refine pq_then ?_ | refine pq_block ?_)); exact pq_fin hv) (nb rfl) (fun n b3 k3 g3 e => ?_))))
        refine F_ r_ (W_ 1 r_ (T_ (R_ (M_ r_ (M_ r_ (o_ r_ (bj_ r_ r_ g_ (jl_bindE [1] rfl rfl (hB b (w + 1) b3 _ g_ g_ g_ g_) e (fun v hv => by (repeat (first | refine pq_then ?_ | refine pq_block ?_)); exact pq_fin hv) (nb rfl) (fun t b4 k4 g4 e => ?_)))))))))
        refine F_ r_ (W_ 1 r_ (T_ (am_ (am_ ?_))))
        cases h5 : isA l b4 Kelse with
        | true =>
          have hlt5 := isA_lt h5
          rw [if_pos h5] at e
          refine an_ (M_ r_ (o_ r_ (bi_ [1] r_ r_ (has_y hl g_ h5) (T_ (aq_ r_ r_ (an_ (M_ r_ (M_ r_ (o_ r_ (bj_ r_ r_ g_ (jl_bindE [0] rfl rfl (hB b (w + 1) (b4 + 1) _ g_ g_ g_ g_) e (fun v hv => by (repeat (first | refine pq_then ?_ | refine pq_block ?_)); exact pq_fin hv) (nb rfl) (fun t2 b5 k5 g5 e => ?_))))))))))))
          refine F_ r_ (W_ 1 r_ (T_ (R_ (A_ 0 r_ (S_ 2 r_ (T_ (ar_ (az_ (aw_ (jq_row 0 (Sm.mk 3 ⟨#[]⟩ [] [x] 0 n t t2).row' rfl ?_ ?_))))))))))
          · (repeat (first | exact RowLe.nil | refine RowLe.cons (CLe.refl _) ?_ | refine RowLe.cons CLe.nil ?_))
            refine RowLe.cons (cle_T1 _) ?_
            (repeat (first | exact RowLe.nil | refine RowLe.cons (CLe.refl _) ?_ | refine RowLe.cons CLe.nil ?_))
          exact jq_fin e (jq_retRowS rfl rfl rfl rfl 0 rfl (fun K h => h) (bc_ 2 r_ sub_end))
        | false =>
          rw [if_neg (by rw [h5]; decide)] at e
          refine an_ (M_ r_ (o_ r_ (bi_ [1] r_ r_ (has_n hl g_ h5) (T_ (ap_ r_ r_ (as_ (al_ (R_ (A_ 1 r_ (S_ 2 r_ (T_ (ar_ (az_ (aw_ (jq_row 0 (Sm.mk 3 ⟨#[]⟩ [] [x] 0 n t []).row' rfl ?_ ?_)))))))))))))))
          · (repeat (first | exact RowLe.nil | refine RowLe.cons (CLe.refl _) ?_ | refine RowLe.cons CLe.nil ?_))
            refine RowLe.cons (cle_T1 _) ?_
            (repeat (first | exact RowLe.nil | refine RowLe.cons (CLe.refl _) ?_ | refine RowLe.cons CLe.nil ?_))
          exact jq_fin e (jq_retRowS rfl rfl rfl rfl 0 rfl (fun K h => h) (bc_ 1 r_ sub_end))
      | false =>
        rw [if_neg (by rw [h1]; decide)] at e
        cases h2 : isA l a Kwhile with
        | true =>
          rw [if_pos h2] at e
          have h4 := kw_nm h2 (by decide +kernel)
          refine R_ (o_ r_ (bl_ r_ r_ (fun bl => T_ (am_ (R_ (M_ r_ (o_ r_ (bi_ [1] r_ r_ (named_n ha h4) (o_ r_ (cd_ r_ (M_ r_ (ah_ r_ r_ b_ (bd_ r_ (ah_ r_ r_ b_ (bi_ [0] r_ r_ (is_n ha h1) (ah_ r_ r_ b_ (cd_ r_ (o_ r_ (bp_ r_ r_ r_ (M_ r_ (ah_ r_ r_ b_ (bd_ r_ (ah_ r_ r_ b_ (bi_ [0] r_ r_ (is_y ha h2) ?_))))))))))))))))))))))))
          refine ah_ r_ r_ b_ (cd_ r_ (o_ r_ (bp_ r_ r_ r_ (M_ r_ (ai_ r_ r_ b_ (ai_ r_ r_ b_ (ai_ r_ r_ b_ (o_ r_ (bv_ r_ r_ r_ (T_ (ap_ r_ r_ (as_ (al_ (am_ (R_ (M_ r_ (o_ r_ (bz_ r_ r_ (T_ ?_)))))))))))))))))))
          refine ap_ r_ w_ (as_ (al_ (B_ (R_ (M_ r_ (o_ r_ (bi_ [0] r_ r_ (has_n hl ha h1) (E_ r_ (T_ (ap_ r_ r_ (R_ (M_ r_ (o_ r_ (bi_ [0] r_ r_ (has_y hl ha h2) (E_ r_ (T_ (aq_ r_ r_ ?_)))))))))))))))))
          refine R_ (M_ r_ (jl_bindE [0] rfl rfl (pexpr_p hl g_) e (fun v hv => by (repeat (first | refine pq_then ?_ | refine pq_block ?_)); exact pq_fin hv) (nb rfl) (fun x b1 k1 g1 e => ?_)))
          refine o_ r_ (bq_ r_ r_ b_ r_ r_ b_ (o_ r_ (bu_ r_ r_ r_ r_ r_ (o_ r_ (bl_ r_ r_ (fun bl => S_ 0 r_ (T_ (R_ (M_ r_ (jl_bindE [1] rfl rfl (pword_p hl g_ Kmax) e (fun v hv => by (repeat (first | refine pq_then ?_ | refine pq_block ?_)); exact pq_fin hv) (nb rfl) (fun u b2 k2 g2 e => ?_)))))))))))
          refine T_ (R_ (M_ r_ (jl_bindE [0] rfl rfl (pnum_p hl g_) e (fun v hv => by (repeat (first | refine pq_then ?_ | refine pq_block ?_)); exact pq_fin hv) (nb rfl) (fun m b3 k3 g3 e => ?_))))
          refine F_ r_ (W_ 1 r_ (T_ (R_ (M_ r_ (jl_bindE [1] rfl rfl (pword_p hl g_ Klabel) e (fun v hv => by (repeat (first | refine pq_then ?_ | refine pq_block ?_)); exact pq_fin hv) (nb rfl) (fun v b4 k4 g4 e => ?_))))))
          refine T_ (R_ (M_ r_ (jl_bindE [0] rfl rfl (pnum_p hl g_) e (fun v hv => by (repeat (first | refine pq_then ?_ | refine pq_block ?_)); exact pq_fin hv) (nb rfl) (fun n b5 k5 g5 e => ?_))))
          refine F_ r_ (W_ 1 r_ (T_ (R_ (M_ r_ (M_ r_ (o_ r_ (bj_ r_ r_ g_ (jl_bindE [1] rfl rfl (hB b (w + 1) b5 _ g_ g_ g_ g_) e (fun v hv => by (repeat (first | refine pq_then ?_ | refine pq_block ?_)); exact pq_fin hv) (nb rfl) (fun t b6 k6 g6 e => ?_)))))))))
          refine F_ r_ (W_ 1 r_ (T_ (R_ (A_ 0 r_ (S_ 2 r_ (T_ (ar_ (az_ (aw_ (jq_row 0 (Sm.mk 4 ⟨#[]⟩ [] [x] m n t []).row' rfl ?_ ?_))))))))))
          · (repeat (first | exact RowLe.nil | refine RowLe.cons (CLe.refl _) ?_ | refine RowLe.cons CLe.nil ?_))
            refine RowLe.cons (cle_T1 _) ?_
            (repeat (first | exact RowLe.nil | refine RowLe.cons (CLe.refl _) ?_ | refine RowLe.cons CLe.nil ?_))
          exact jq_fin e (jq_retRowS rfl rfl rfl rfl 0 rfl (fun K h => h) (bc_ 2 r_ sub_end))
        | false =>
          rw [if_neg (by rw [h2]; decide)] at e
          cases h3 : isA l a Klock with
          | true =>
            rw [if_pos h3] at e
            have h4 := kw_nm h3 (by decide +kernel)
            refine R_ (o_ r_ (bl_ r_ r_ (fun bl => T_ (am_ (R_ (M_ r_ (o_ r_ (bi_ [1] r_ r_ (named_n ha h4) (o_ r_ (cd_ r_ (M_ r_ (ah_ r_ r_ b_ (bd_ r_ (ah_ r_ r_ b_ (bi_ [0] r_ r_ (is_n ha h1) (ah_ r_ r_ b_ (cd_ r_ (o_ r_ (bp_ r_ r_ r_ (M_ r_ (ah_ r_ r_ b_ (bd_ r_ (ah_ r_ r_ b_ (bi_ [0] r_ r_ (is_n ha h2) ?_))))))))))))))))))))))))
            refine ah_ r_ r_ b_ (cd_ r_ (o_ r_ (bp_ r_ r_ r_ (M_ r_ (ah_ r_ r_ b_ (bd_ r_ (ah_ r_ r_ b_ (bi_ [0] r_ r_ (is_y ha h3) (ah_ r_ r_ b_ (cd_ r_ (o_ r_ (bp_ r_ r_ r_ (T_ (ap_ r_ r_ (as_ (al_ (am_ (R_ (M_ r_ (o_ r_ (bz_ r_ r_ (T_ ?_))))))))))))))))))))))
            refine ap_ r_ w_ (as_ (al_ (B_ (R_ (M_ r_ (o_ r_ (bi_ [0] r_ r_ (has_n hl ha h1) (E_ r_ (T_ (ap_ r_ r_ (R_ (M_ r_ (o_ r_ (bi_ [0] r_ r_ (has_n hl ha h2) (E_ r_ (T_ (ap_ r_ r_ ?_)))))))))))))))))
            refine R_ (M_ r_ (o_ r_ (bi_ [0] r_ r_ (has_y hl ha h3) (E_ r_ (T_ (aq_ r_ r_ (R_ (M_ r_ (jl_bindE [0] rfl rfl (pname_p hl g_) e (fun v hv => by (repeat (first | refine pq_then ?_ | refine pq_block ?_)); exact pq_fin hv) (nb rfl) (fun s b1 k1 g1 e => ?_))))))))))
            refine o_ r_ (bu_ r_ r_ r_ r_ r_ (o_ r_ (bl_ r_ r_ (fun bl => S_ 0 r_ (T_ (R_ (M_ r_ (M_ r_ (o_ r_ (bj_ r_ r_ g_ (jl_bindE [1] rfl rfl (hB b (w + 1) b1 _ g_ g_ g_ g_) e (fun v hv => by (repeat (first | refine pq_then ?_ | refine pq_block ?_)); exact pq_fin hv) (nb rfl) (fun t b6 k6 g6 e => ?_))))))))))))
            refine F_ r_ (W_ 1 r_ (T_ (R_ (A_ 0 r_ (S_ 2 r_ (T_ (ar_ (az_ (aw_ (jq_row 0 (Sm.mk 5 s [] [] 0 0 t []).row' rfl ?_ ?_))))))))))
            · (repeat (first | exact RowLe.nil | refine RowLe.cons (CLe.refl _) ?_ | refine RowLe.cons CLe.nil ?_))
            exact jq_fin e (jq_retRowS rfl rfl rfl rfl 0 rfl (fun K h => h) (bc_ 2 r_ sub_end))
          | false =>
            rw [if_neg (by rw [h3]; decide)] at e
            have h4 : isNm l a = true := by rw [startA, h1, h2, h3] at hst; simpa using hst
            refine R_ (o_ r_ (bl_ r_ r_ (fun bl => T_ (am_ (R_ (M_ r_ (o_ r_ (bi_ [1] r_ r_ (named_y ha h4) (o_ r_ (cd_ r_ (M_ r_ (ai_ r_ r_ b_ (ai_ r_ r_ b_ (ai_ r_ r_ b_ (o_ r_ (bv_ r_ r_ r_ (M_ r_ (ai_ r_ r_ b_ (ai_ r_ r_ b_ ?_)))))))))))))))))))
            refine ai_ r_ r_ b_ (o_ r_ (bv_ r_ r_ r_ (M_ r_ (ai_ r_ r_ b_ (ai_ r_ r_ b_ (ai_ r_ r_ b_ (o_ r_ (bv_ r_ r_ r_ (T_ (ap_ r_ r_ (as_ (al_ (am_ (R_ (M_ r_ (o_ r_ (bz_ r_ r_ (T_ ?_))))))))))))))))))
            refine ap_ r_ w_ (as_ (al_ (B_ (R_ (M_ r_ (o_ r_ (bi_ [0] r_ r_ (has_n hl ha h1) (E_ r_ (T_ (ap_ r_ r_ (R_ (M_ r_ (o_ r_ (bi_ [0] r_ r_ (has_n hl ha h2) (E_ r_ (T_ (ap_ r_ r_ ?_)))))))))))))))))
            refine R_ (M_ r_ (o_ r_ (bi_ [0] r_ r_ (has_n hl ha h3) (E_ r_ (T_ (ap_ r_ r_ (as_ (ay_ (al_ (R_ (M_ r_ (jl_bindE [0] rfl rfl (pname_p hl ha) e (fun v hv => by (repeat (first | refine pq_then ?_ | refine pq_block ?_)); exact pq_fin hv) (nb rfl) (fun s b1 k1 g1 e => ?_)))))))))))))
            refine o_ r_ (bu_ r_ r_ r_ r_ r_ (o_ r_ (bl_ r_ r_ (fun bl => S_ 0 r_ (T_ (am_ (am_ ?_)))))))
            cases h5 : isA l b1 W91 with
            | true =>
              have hlt5 := isA_lt h5
              rw [if_pos h5] at e
              refine an_ (M_ r_ (o_ r_ (bi_ [1] r_ r_ (has_y hl g_ h5) (T_ (aq_ r_ r_ (R_ (M_ r_ (jl_bindE [0] rfl rfl (pexpr_p hl g_) e (fun v hv => by (repeat (first | refine pq_then ?_ | refine pq_block ?_)); exact pq_fin hv) (nb rfl) (fun i b2 k2 g2 e => ?_)))))))))
              refine o_ r_ (bq_ r_ r_ b_ r_ r_ b_ (F_ r_ (W_ 1 r_ (F_ r_ (W_ 0 r_ (T_ (an_ (M_ r_ (jl_bindE [1] rfl rfl (pword_p hl g_ W93) e (fun v hv => by (repeat (first | refine pq_then ?_ | refine pq_block ?_)); exact pq_fin hv) (nb rfl) (fun u b3 k3 g3 e => ?_))))))))))
              refine T_ (R_ (M_ r_ (jl_bindE [0] rfl rfl (pword_p hl g_ Keq) e (fun v hv => by (repeat (first | refine pq_then ?_ | refine pq_block ?_)); exact pq_fin hv) (nb rfl) (fun u2 b4 k4 g4 e => ?_))))
              refine T_ (R_ (M_ r_ (jl_bindE [0] rfl rfl (pexpr_p hl g_) e (fun v hv => by (repeat (first | refine pq_then ?_ | refine pq_block ?_)); exact pq_fin hv) (nb rfl) (fun v b5 k5 g5 e => ?_))))
              refine o_ r_ (bq_ r_ r_ b_ r_ r_ b_ (F_ r_ (W_ 1 r_ (T_ (R_ (A_ 0 r_ (S_ 2 r_ (T_ (ar_ (jq_row 0 (Sm.mk 2 s [i] [v] 0 0 [] []).row' rfl ?_ ?_))))))))))
              · (repeat (first | exact RowLe.nil | refine RowLe.cons (CLe.refl _) ?_ | refine RowLe.cons CLe.nil ?_))
                refine RowLe.cons (cle_T1 _) (RowLe.cons (cle_T1 _) ?_)
                (repeat (first | exact RowLe.nil | refine RowLe.cons (CLe.refl _) ?_ | refine RowLe.cons CLe.nil ?_))
              exact jq_fin e (jq_retRowS rfl rfl rfl rfl 0 rfl (fun K h => h) (bc_ 2 r_ sub_end))
            | false =>
              rw [if_neg (by rw [h5]; decide)] at e
              refine an_ (M_ r_ (o_ r_ (bi_ [1] r_ r_ (has_n hl g_ h5) (T_ (ap_ r_ r_ (as_ (al_ (R_ (M_ r_ (jl_bindE [0] rfl rfl (pword_p hl g_ Keq) e (fun v hv => by (repeat (first | refine pq_then ?_ | refine pq_block ?_)); exact pq_fin hv) (nb rfl) (fun u2 b4 k4 g4 e => ?_)))))))))))
              refine T_ (R_ (M_ r_ (jl_bindE [0] rfl rfl (pexpr_p hl g_) e (fun v hv => by (repeat (first | refine pq_then ?_ | refine pq_block ?_)); exact pq_fin hv) (nb rfl) (fun v b5 k5 g5 e => ?_))))
              refine o_ r_ (bq_ r_ r_ b_ r_ r_ b_ (F_ r_ (W_ 1 r_ (T_ (R_ (A_ 0 r_ (S_ 2 r_ (T_ (ar_ (jq_row 0 (Sm.mk 1 s [] [v] 0 0 [] []).row' rfl ?_ ?_))))))))))
              · (repeat (first | exact RowLe.nil | refine RowLe.cons (CLe.refl _) ?_ | refine RowLe.cons CLe.nil ?_))
                refine RowLe.cons (cle_T1 _) ?_
                (repeat (first | exact RowLe.nil | refine RowLe.cons (CLe.refl _) ?_ | refine RowLe.cons CLe.nil ?_))
              exact jq_fin e (jq_retRowS rfl rfl rfl rfl 0 rfl (fun K h => h) (bc_ 2 r_ sub_end))
omit hl in
theorem smrows (ss : List Sm) : ss.map Sm.row' = ss.map Sm.row := by rw [show Sm.row' = Sm.row from funext fun s => (Sm.row_eq s).symm]
omit hl in
theorem stmtsL_stop {st : Nat → R Sm} {w a : Nat} (h : startA l a = false) (n : Nat) (acc : List Sm) : stmtsL l st w n a acc = .ok acc a := by
  cases n with
  | zero => rw [stmtsL]
  | succ n => rw [stmtsL, if_neg (by rw [h]; decide)]
omit hl in
theorem wdG_y {w : ByteArray} {a : Nat} (h : isA l a w = true) : wdG l w a = .ok () (a + 1) := by rw [wdG, if_pos h]
omit hl in
theorem wdG_n {w : ByteArray} {a : Nat} (h : isA l a w = false) : wdG l w a = .er 1 a := by rw [wdG, if_neg (by rw [h]; decide)]
omit hl in
/-- What the program does at a place where the block does not end. -/
theorem stmts_go {F w c n : Nat} {kw : ByteArray} {acc : List Sm} (h : isA l c kw = false) (hn : l.length - c ≤ n) : ((stmtsL l (stmtG l F w) w n c acc).bind fun ss c => (wdG l kw c).bind fun _ d => .ok ss d) = (stG l F w c).bind fun s d => (stmtsL l (stmtG l F w) w (n - 1) d (acc ++ [s])).bind fun ss c => (wdG l kw c).bind fun _ d => .ok ss d := by
  cases hs : startA l c with
  | false => rw [stmtsL_stop hs, bind_okE, wdG_n h, stG, if_neg (by rw [hs]; decide)]; rfl
  | true =>
    have := start_lt hs
    obtain ⟨n, rfl⟩ : ∃ m, n = m + 1 := ⟨n - 1, by omega⟩
    rw [stmtsL, if_pos hs, stG, if_pos hs]
    by_cases hw : 8 ≤ w
    · rw [if_pos hw, if_pos hw]; rfl
    · rw [if_neg hw, if_neg hw]
      cases stmtG l F w c <;> rfl
theorem pblock_of (hN : NmOk l) (F : Nat) (hS : StP l F) : BkP l F := by
  intro b w a d hd hw ha hF
  refine ⟨(con_introE Tryz.func118 rfl rfl (Nat.le_of_ble_eq_true rfl) (fun c hc => ?_)), fun x c e => blkG_bd (fun a x c => stmtG_bd _ _ _ _ _) x c e⟩
  generalize hfin : finR l b SlS (blkG l (stmtG l F w) w F a) = fin0
  have e := hfin.symm
  rw [blkG] at e
  refine R_ (E_ r_ (T_ (R_ (M_ r_ (jl_bindE [0] rfl rfl (pword_p hl ha Kob) e (fun v hv => by (repeat (first | refine pq_then ?_ | refine pq_block ?_)); exact pq_fin hv) (nb rfl) (fun u b1 k1 g1 e => ?_))))))
  refine T_ (R_ (E_ r_ (T_ (B_ (jc_ownNil 51 8 g_ ?_)))))
  refine jc_loopS (ι := List Sm × Nat × Nat × Value) [] (fun i => (b1 ≤ i.2.1 ∧ i.2.1 ≤ l.length) ∧ l.length - i.2.1 ≤ i.2.2.1 ∧ i.1.length ≤ i.2.1 ∧ fin0 = finR l b SlS ((stmtsL l (stmtG l F w) w i.2.2.1 i.2.1 i.1).bind fun ss c => (wdG l Kcb c).bind fun _ d => .ok ss d))
    (fun i => [(0, Ptr b), (1, In .i64 d), (5, .cell (.val i.2.2.2))]) (fun i => [Pz b l i.2.1, .own i.2.2.2 51 8 (i.1.map Sm.row')]) (fun i => l.length + 1 - i.2.1) ([], b1, F, .slice none 0 0) ⟨⟨Nat.le_refl _, g1.2⟩, by dsimp only; omega, Nat.zero_le _, e⟩ ?_ ?_ ?_
  · exact bc_ 1 r_ (bc_ 0 r_ sub_end)
  · (repeat (first | exact True.intro | refine ⟨rfl, ?_⟩))
  clear e
  rintro ⟨acc, c, n, v⟩ ⟨⟨h1, h2⟩, hn, hacc, e⟩
  dsimp only at h1 h2 hn hacc e ⊢
  refine jc_reset [(0, Ptr b), (1, In .i64 d), (5, .cell (.val v))] [Pz b l c, .own v 51 8 (acc.map Sm.row')] ?_ ⟨[0, 0], [], rfl⟩ ?_
  · (repeat (first | exact True.intro | refine ⟨rfl, ?_⟩))
  cases h : isA l c Kcb with
  | true =>
    rw [stmtsL_stop (start_cb hN h), bind_okE, wdG_y h, bind_okE] at e
    refine am_ (R_ (M_ r_ (o_ r_ (bi_ [0] r_ r_ (has_y hl h2 h) (o_ r_ (cd_ r_ (T_ (ap_ r_ r_ (av_ (ax_ (ax_ (ba_ (al_ (R_ (M_ r_ (E_ r_ (T_ ?_)))))))))))))))))
    exact ar_ (jq_freeze 4 1 rfl rfl (by rw [hc]; simp [hb, Ch.bs]) (jq_fin e (jq_ret1S rfl rfl (fun K h => by rw [smrows]; exact h) (bc_ 0 r_ sub_end))))
  | false =>
    rw [stmts_go h hn] at e
    refine am_ (R_ (M_ r_ (o_ r_ (bi_ [0] r_ r_ (has_n hl h2 h) (o_ r_ (cd_ r_ (T_ (aq_ r_ r_ (as_ (al_ (au_ (an_ (M_ r_ (M_ r_ (M_ r_ (jl_bindE [0] rfl rfl (hS b w c _ hd hw h2 g_) e (fun v hv => by (repeat (first | refine pq_then ?_ | refine pq_block ?_)); exact pq_fin hv) (nb rfl) (fun s c2 k2 g2 e => ?_)))))))))))))))))
    refine o_ r_ (bq_ r_ r_ b_ r_ r_ b_ (o_ r_ (ow_append1 1 (s) rfl rfl rfl rfl rfl rfl rfl (fun s => rfl) (by show (_ + _) * 136 ≤ _; first | omega | (simp only [List.length_append]; omega)) (by first | omega | (simp only [List.length_append]; omega)) (fun v2 hv2 => E_ r_ (ak_ (ay_ ?_))))))
    refine jq_againS (i := (acc, c, n, v)) ((acc ++ [s], c2, n - 1, v2) : List Sm × Nat × Nat × Value) ⟨⟨by dsimp only; omega, g2.2⟩, by dsimp only; omega, by dsimp only; simp only [List.length_append, List.length_singleton]; omega, e⟩ (by dsimp only; omega) ?_ ?_
    · exact bc_ 1 r_ (bc_ 0 r_ sub_end)
    · (repeat (first | exact True.intro | refine ⟨rfl, ?_⟩))
theorem pstmt_all (hN : NmOk l) : ∀ F : Nat, StP l F
  | 0 => fun b w a d hd hw ha h => absurd h (by omega)
  | F + 1 => pstmt_step hl F (pblock_of hl hN F (pstmt_all hN F))
end
end Go.Proofs.YtlniadfidfmckaaGreatDoor
end

section
namespace Go.Proofs.YtlniadfidfmckaaGreatDoor
open Go.Vc
set_option maxHeartbeats 4000000

section
variable (l : List Tok) (nm : ByteArray) (pe de pr ji : Int)
def tkF (i : List Inp) (v : List ByteArray) (ar : List Arr) (m : List Md) (c : List Clm) (b : Nat) : R Tk := (bodyG l b).bind fun ss b => .ok ⟨nm, pe, de, pr, ji, i, v, ar, m, c, ss⟩ b
def tkE (i : List Inp) (v : List ByteArray) (ar : List Arr) (m : List Md) (b : Nat) : R Tk := (lpG l Knever (clG l) (l.length + 1) b []).bind fun c b => tkF l nm pe de pr ji i v ar m c b
def tkD (i : List Inp) (v : List ByteArray) (ar : List Arr) (b : Nat) : R Tk := (lpG l Kmode (mdG l) (l.length + 1) b []).bind fun m b => tkE l nm pe de pr ji i v ar m b
def tkC (i : List Inp) (v : List ByteArray) (b : Nat) : R Tk := (lpG l Karray (arG l) (l.length + 1) b []).bind fun ar b => tkD l nm pe de pr ji i v ar b
def tkB (i : List Inp) (b : Nat) : R Tk := (lpG l Kvar (nmG l) (l.length + 1) b []).bind fun v b => tkC l nm pe de pr ji i v b
def tkA (b : Nat) : R Tk := (lpG l Kinput (inG l) (l.length + 1) b []).bind fun i b => tkB l nm pe de pr ji i b
def tk4 (b : Nat) : R Tk := (dcG l Kjitter b).bind fun ji b => tkA l nm pe de pr ji b
def tk3 (b : Nat) : R Tk := (dcG l Kpriority b).bind fun pr b => tk4 l nm pe de pr b
def tk2 (b : Nat) : R Tk := (dcG l Kdeadline b).bind fun de b => tk3 l nm pe de b
def tk1 (b : Nat) : R Tk := (dcG l Kperiod b).bind fun pe b => tk2 l nm pe b
end
theorem taskG_eq (l : List Tok) (a : Nat) : taskG l a = (nmG l a).bind fun nm b => tk1 l nm b := rfl
theorem R.bind_assoc {α β γ : Type} (r : R α) (f : α → Nat → R β) (g : β → Nat → R γ) : (r.bind f).bind g = r.bind fun x a => (f x a).bind g := by cases r <;> rfl
theorem lpG_stop {α : Type} {l : List Tok} {kw : ByteArray} {one : Nat → R α} {a : Nat} (h : isA l a kw = false) (n : Nat) (acc : List α) : lpG l kw one n a acc = .ok acc a := by
  cases n with
  | zero => rw [lpG]
  | succ n => rw [lpG, if_neg (by rw [h]; decide)]
theorem lpG_go {α β : Type} {l : List Tok} {kw : ByteArray} {one : Nat → R α} {a n : Nat} (h : isA l a kw = true) (hn : l.length - a ≤ n) (acc : List α) (K : List α → Nat → R β) : (lpG l kw one n a acc).bind K = (one (a + 1)).bind fun x b => (lpG l kw one (n - 1) b (acc ++ [x])).bind K := by
  have := isA_lt h
  obtain ⟨n, rfl⟩ : ∃ m, n = m + 1 := ⟨n - 1, by omega⟩
  rw [lpG, if_pos h, R.bind_assoc]
  rfl
theorem stmts_goK {β : Type} {l : List Tok} {F w c n : Nat} {kw : ByteArray} {acc : List Sm} (h : isA l c kw = false) (hn : l.length - c ≤ n) (K : List Sm → Nat → R β) : ((stmtsL l (stmtG l F w) w n c acc).bind fun ss c => (wdG l kw c).bind fun _ d => K ss d) = (stG l F w c).bind fun s d => (stmtsL l (stmtG l F w) w (n - 1) d (acc ++ [s])).bind fun ss c => (wdG l kw c).bind fun _ d => K ss d := by
  cases hs : startA l c with
  | false => rw [stmtsL_stop hs, bind_okE, wdG_n h, stG, if_neg (by rw [hs]; decide)]; rfl
  | true =>
    have := start_lt hs
    obtain ⟨n, rfl⟩ : ∃ m, n = m + 1 := ⟨n - 1, by omega⟩
    rw [stmtsL, if_pos hs, stG, if_pos hs]
    by_cases hw : 8 ≤ w
    · rw [if_pos hw, if_pos hw]; rfl
    · rw [if_neg hw, if_neg hw]
      cases stmtG l F w c <;> rfl
theorem bind_le {α β : Type} {l : List Tok} {a : Nat} {r : R α} {f : α → Nat → R β} (h : ∀ x c, r = .ok x c → a ≤ c ∧ c ≤ l.length) (k : ∀ x c, c ≤ l.length → ∀ y d, f x c = .ok y d → c ≤ d ∧ d ≤ l.length) : ∀ y d, r.bind f = .ok y d → a ≤ d ∧ d ≤ l.length := by
  intro y d e
  cases r with
  | ok x c =>
    have h1 := h x c rfl
    have h2 := k x c h1.2 y d e
    omega
  | er code p => cases e
theorem nbG_bd {l : List Tok} {a : Nat} : ∀ x c, nbG l a = .ok x c → a < c ∧ c ≤ l.length := by
  unfold nbG
  split
  · rename_i h
    have := isA_lt h
    exact fun y d e => by
      have := bind_bd (a := a + 1) nuG_bd (fun _ b hb => ok_bd (nuG_bd _ _ hb).2) y d e
      omega
  · exact nuG_bd
theorem lpG_bd {α : Type} {l : List Tok} {kw : ByteArray} {one : Nat → R α} (hs : ∀ a x c, one a = .ok x c → a < c ∧ c ≤ l.length) : ∀ (n a : Nat) (acc ss : List α) (c : Nat), a ≤ l.length → lpG l kw one n a acc = .ok ss c → a ≤ c ∧ c ≤ l.length
  | 0, a, acc, ss, c, h, e => by simp only [lpG, R.ok.injEq] at e; omega
  | n + 1, a, acc, ss, c, h, e => by
    rw [lpG] at e
    split at e
    · cases h1 : one (a + 1) with
      | er code p => rw [h1] at e; cases e
      | ok x b =>
        rw [h1] at e
        have h2 := hs _ _ _ h1
        have h3 := lpG_bd hs n b _ _ _ h2.2 e
        omega
    · simp only [R.ok.injEq] at e; omega
theorem dcG_bd {l : List Tok} {kw : ByteArray} {a : Nat} : ∀ x c, dcG l kw a = .ok x c → a < c ∧ c ≤ l.length := bind_bd wdG_bd fun _ _ _ => bd_le nuG_bd
theorem inG_bd {l : List Tok} (a : Nat) : ∀ x c, inG l a = .ok x c → a < c ∧ c ≤ l.length := bind_bd nmG_bd fun _ _ _ => bd_le (bind_bd nbG_bd fun _ _ _ => bd_le (bind_bd nbG_bd fun _ _ hb => ok_bd (nbG_bd _ _ hb).2))
theorem arG_bd {l : List Tok} (a : Nat) : ∀ x c, arG l a = .ok x c → a < c ∧ c ≤ l.length := bind_bd nmG_bd fun _ _ _ => bd_le (bind_bd nuG_bd fun _ _ hb => ok_bd (nuG_bd _ _ hb).2)
theorem mdG_bd {l : List Tok} (a : Nat) : ∀ x c, mdG l a = .ok x c → a < c ∧ c ≤ l.length := bind_bd nmG_bd fun _ _ _ => bd_le (bind_bd nmG_bd fun _ _ _ => bd_le (bind_bd nbG_bd fun _ _ _ => bd_le (bind_bd nbG_bd fun _ _ hb => ok_bd (nbG_bd _ _ hb).2)))
theorem clG_bd {l : List Tok} (a : Nat) : ∀ x c, clG l a = .ok x c → a < c ∧ c ≤ l.length := bind_bd nuG_bd fun _ _ _ => bd_le (bind_bd nuG_bd fun _ _ hb => ok_bd (nuG_bd _ _ hb).2)
theorem bodyG_bd {l : List Tok} {a : Nat} : ∀ x c, bodyG l a = .ok x c → a < c ∧ c ≤ l.length :=
  bind_bd wdG_bd fun _ _ hb => bind_le (fun _ _ e => stmtsL_bd (fun _ _ _ => stmtG_bd _ _ _ _ _) _ _ _ _ _ (wdG_bd _ _ hb).2 e) fun _ _ _ => bd_le (bind_bd wdG_bd fun _ _ hd => ok_bd (wdG_bd _ _ hd).2)
theorem taskG_bd {l : List Tok} {a : Nat} : ∀ x c, taskG l a = .ok x c → a < c ∧ c ≤ l.length :=
  bind_bd nmG_bd fun _ _ _ => bind_le (bd_le dcG_bd) fun _ _ _ => bind_le (bd_le dcG_bd) fun _ _ _ => bind_le (bd_le dcG_bd) fun _ _ _ => bind_le (bd_le dcG_bd) fun _ _ h =>
    bind_le (fun _ _ e => lpG_bd inG_bd _ _ _ _ _ h e) fun _ _ h => bind_le (fun _ _ e => lpG_bd (fun _ => nmG_bd) _ _ _ _ _ h e) fun _ _ h => bind_le (fun _ _ e => lpG_bd arG_bd _ _ _ _ _ h e) fun _ _ h => bind_le (fun _ _ e => lpG_bd mdG_bd _ _ _ _ _ h e) fun _ _ h =>
      bind_le (fun _ _ e => lpG_bd clG_bd _ _ _ _ _ h e) fun _ _ _ => bind_le (bd_le bodyG_bd) fun _ _ h => ok_bd h
theorem start_end {l : List Tok} {a : Nat} (h : isA l a Kend = true) : startA l a = false := by
  rw [startA, isA_ne h (by decide), isA_ne h (by decide), isA_ne h (by decide), kw_nm h (by decide +kernel)]; rfl
abbrev TkS (t : Tk) : S := .row t.row
abbrev zSm : List C := [.val (.int .i64 0), .val (.string ⟨#[]⟩), .val (.slice none 0 0), .val (.slice none 0 0), .val (.int .i64 0), .val (.int .i64 0), .val (.slice none 0 0), .val (.slice none 0 0)]
abbrev zSmV : List Value := [.int .i64 0, .string ⟨#[]⟩, .slice none 0 0, .slice none 0 0, .int .i64 0, .int .i64 0, .slice none 0 0, .slice none 0 0]
theorem set_snoc.{u} {α : Type u} (l : List α) (x y : α) (n : Nat) (h : n = l.length) : (l ++ [x]).set n y = l ++ [y] := by subst h; simp
theorem get_snoc.{u} {α : Type u} (l : List α) (x : α) (n : Nat) (h : n = l.length) : (l ++ [x])[n]? = some x := by subst h; simp
end Go.Proofs.YtlniadfidfmckaaGreatDoor
end

section
namespace Go.Proofs.YtlniadfidfmckaaGreatDoor
open Go.Vc
set_option maxHeartbeats 4000000
attribute [local irreducible] JL JC JQ OpWp Con ConN Pan ConE OpPan HP HT HOk hasW idxW isA isNum isNm numAt txtAt lineAt opAt lx lpx sx sxp exG startA stmtG stmtsL blkG wdG nmG nuG nbG lpG dcG stG tkA tkB tkC tkD tkE tkF tk1 tk2 tk3 tk4
theorem hp_two_bindE {nt : Nat} {c : Cx Tryz.prog nt} {env : Env} {H Hr : List Ch} {ops : Array Oper} {Q : Exit → Act → World → Prop} {Sw : World → Prop} {m fuel : Nat} {listed : Array Bool} {i j di : Nat} {opi : Op} {ti : TypeId} {pi : String} {afi : Array Edge} {s0 : S} {α β : Type} {gA : α → S} {gB : β → S} {l : List Tok} {b a : Nat} {r : R α} {f : α → Nat → R β} {fin0 : Fin} {fid : FuncId} [FI Tryz.prog fid] {args : List S} {xs : Array Operand} {at_ : Array TypeId} {d : Tmp} {ty : TypeId} {pos : String} {af : Array Edge}
    (hi : ops[i]? = some ⟨some di, opi, ti, pi, afi, none⟩) (hj : ops[j]? = some ⟨some d, .call { callee := .value (.func fid), args := xs, argTypes := at_ }, ty, pos, af, none⟩) (hr : (Region.ready .any ops listed == [i, j] || Region.ready .any ops listed == [j, i]) = true)
    (hri : Region.ready .any ops (listed.setIfInBounds i true) = [j]) (hrj : Region.ready .any ops (listed.setIfInBounds j true) = [i]) (hdi : di < nt) (hd : d < nt) (hne : (di == d) = false) (hno : env.lookup di = none) (hkeep : ∀ w, StW c H w → Sw w)
    (h0 : OpWp c ⟨some di, opi, ti, pi, afi, none⟩ env H (fun s H' => s = s0 ∧ H' = H)) (h1 : ∀ s H', OpWp c ⟨some di, opi, ti, pi, afi, none⟩ ((d, s) :: env) H' (fun s H'' => s = s0 ∧ H'' = H'))
    (is : List Nat) (hx : env.evs xs.toList = some (Ptr b :: args)) (hp : pick is H = some ([Pz b l a], Hr)) (con : PC fid l b args a gA r) (he : fin0 = finR l b gB (r.bind f)) (hq : ∀ v, fin0 = .pan v → PanQ c Q v)
    (h : ∀ x c', r = .ok x c' → a < c' ∧ c' ≤ l.length → fin0 = finR l b gB (f x c') → (∀ w, StW c ([Pz b l c'] ++ Hr) w → Sw w) ∧ HP c ops Q Sw m fuel ((listed.setIfInBounds i true).setIfInBounds j true) ((d, gA x) :: (di, s0) :: env) ([Pz b l c'] ++ Hr)) : HP c ops Q Sw m (fuel + 2) listed env H := by
  obtain ⟨con, bd⟩ := con
  cases r with
  | ok x c' => exact hp_two hi hj hr hri hrj hdi hd hne hno hkeep h0 h1 (ow_call1 is hx hp (finR_con con) (h x c' rfl (bd _ _ rfl) he))
  | er code p => exact hp_two_pan hi hj rfl hr hri hdi hno hkeep h0 (op_pan is hx hp (finR_pan con)) (hq _ he)
section
variable {l : List Tok} (hl : l.length ≤ 1000000)
include hl

theorem ptask_p (hN : NmOk l) {a b : Nat} (ha : a ≤ l.length) : PC 66 l b [] a TkS (taskG l a) := by
  have hS := pstmt_all hl hN (l.length + 1)
  refine ⟨(con_introE Tryz.func66 rfl rfl (Nat.le_of_ble_eq_true rfl) (fun c hc => ?_)), taskG_bd⟩
  generalize hfin : finR l b TkS (taskG l a) = fin0
  have e := hfin.symm
  clear hfin
  rw [taskG_eq] at e
  refine R_ (o_ r_ (bl_ r_ r_ (fun bl => T_ (R_ (M_ r_ (jl_bindE [1] rfl rfl (pname_p hl ha) e (fun v hv => by (repeat (first | refine pq_then ?_ | refine pq_block ?_)); exact pq_fin hv) (nb rfl) ?_))))))
  clear e
  intro nm b1 k1 g1 e
  refine o_ r_ (bu_ r_ r_ r_ r_ r_ (o_ r_ (bl_ r_ r_ (fun bl => S_ 0 r_ (T_ (am_ (am_ ?_)))))))
  rename_i bR
  revert bl
  intro bT
  refine an_ (F_ r_ (o_ r_ (bu_ r_ r_ r_ r_ r_ (F_ r_ (o_ r_ (bu_ r_ r_ r_ r_ r_ (F_ r_ (o_ r_ (bu_ r_ r_ r_ r_ r_ (F_ r_ (o_ r_ (bu_ r_ r_ r_ r_ r_ (o_ r_ (bq_ r_ r_ b_ r_ r_ b_ (o_ r_ (br_ r_ (fun hlen => M_ r_ (T_ (au_ ?_)))))))))))))))))))
  refine jc_loopS (ι := Nat × Nat × Int × Int × Int × Int) [] (fun i => (b1 ≤ i.2.1 ∧ i.2.1 ≤ l.length) ∧ ((i.1 = 0 ∧ i.2.2.1 = 0 ∧ i.2.2.2.1 = 0 ∧ i.2.2.2.2.1 = 0 ∧ i.2.2.2.2.2 = 0 ∧ fin0 = finR l b TkS (tk1 l nm i.2.1)) ∨ (i.1 = 1 ∧ i.2.2.2.1 = 0 ∧ i.2.2.2.2.1 = 0 ∧ i.2.2.2.2.2 = 0 ∧ fin0 = finR l b TkS (tk2 l nm i.2.2.1 i.2.1)) ∨ (i.1 = 2 ∧ i.2.2.2.2.1 = 0 ∧ i.2.2.2.2.2 = 0 ∧ fin0 = finR l b TkS (tk3 l nm i.2.2.1 i.2.2.2.1 i.2.1)) ∨ (i.1 = 3 ∧ i.2.2.2.2.2 = 0 ∧ fin0 = finR l b TkS (tk4 l nm i.2.2.1 i.2.2.2.1 i.2.2.2.2.1 i.2.1)) ∨ (i.1 = 4 ∧ fin0 = finR l b TkS (tkA l nm i.2.2.1 i.2.2.2.1 i.2.2.2.2.1 i.2.2.2.2.2 i.2.1)))) (fun i => [(0, Ptr b), (2, Ptr bR), (3, Ptr bT), (17, .cell (.list [[.val (.string Kperiod), .val (.pointer (some ⟨bT, 1, none⟩))], [.val (.string Kdeadline), .val (.pointer (some ⟨bT, 2, none⟩))], [.val (.string Kpriority), .val (.pointer (some ⟨bT, 3, none⟩))], [.val (.string Kjitter), .val (.pointer (some ⟨bT, 4, none⟩))]])), (18, In .i64 4), (19, In .i64 (i.1 : Int))]) (fun i => [Pz b l i.2.1, .blk bR 41 [.val (.string ⟨#[]⟩), .val (.int .i64 0), .val (.int .i64 0), .val (.int .i64 0), .val (.int .i64 0), .val (.slice none 0 0), .val (.slice none 0 0), .val (.slice none 0 0), .val (.slice none 0 0), .val (.slice none 0 0), .val (.slice none 0 0)], .blk bT 41 [.val (.string nm), .val (.int .i64 i.2.2.1), .val (.int .i64 i.2.2.2.1), .val (.int .i64 i.2.2.2.2.1), .val (.int .i64 i.2.2.2.2.2), .val (.slice none 0 0), .val (.slice none 0 0), .val (.slice none 0 0), .val (.slice none 0 0), .val (.slice none 0 0), .val (.slice none 0 0)]]) (fun i => 4 - i.1) (0, b1, 0, 0, 0, 0) ⟨⟨Nat.le_refl _, g1.2⟩, .inl ⟨rfl, rfl, rfl, rfl, rfl, e⟩⟩ ?_ ?_ ?_
  · exact bc_ 1 r_ (bc_ 1 r_ (bc_ 0 r_ sub_end))
  · (repeat (first | exact True.intro | refine ⟨rfl, ?_⟩))
  clear e
  rintro ⟨KK, c, pe, de, pr, ji⟩ ⟨⟨h1, h2⟩, hk⟩
  dsimp only at h1 h2 hk ⊢
  refine jc_reset [(0, Ptr b), (2, Ptr bR), (3, Ptr bT), (17, .cell (.list [[.val (.string Kperiod), .val (.pointer (some ⟨bT, 1, none⟩))], [.val (.string Kdeadline), .val (.pointer (some ⟨bT, 2, none⟩))], [.val (.string Kpriority), .val (.pointer (some ⟨bT, 3, none⟩))], [.val (.string Kjitter), .val (.pointer (some ⟨bT, 4, none⟩))]])), (18, In .i64 4), (19, In .i64 (KK : Int))] [Pz b l c, .blk bR 41 [.val (.string ⟨#[]⟩), .val (.int .i64 0), .val (.int .i64 0), .val (.int .i64 0), .val (.int .i64 0), .val (.slice none 0 0), .val (.slice none 0 0), .val (.slice none 0 0), .val (.slice none 0 0), .val (.slice none 0 0), .val (.slice none 0 0)], .blk bT 41 [.val (.string nm), .val (.int .i64 pe), .val (.int .i64 de), .val (.int .i64 pr), .val (.int .i64 ji), .val (.slice none 0 0), .val (.slice none 0 0), .val (.slice none 0 0), .val (.slice none 0 0), .val (.slice none 0 0), .val (.slice none 0 0)]] ?_ ⟨[0, 0, 0], [], rfl⟩ ?_
  · (repeat (first | exact True.intro | refine ⟨rfl, ?_⟩))
  rcases hk with ⟨rfl, rfl, rfl, rfl, rfl, e⟩ | ⟨rfl, rfl, rfl, rfl, e⟩ | ⟨rfl, rfl, rfl, e⟩ | ⟨rfl, rfl, e⟩ | ⟨rfl, e⟩
  · rw [tk1, dcG, R.bind_assoc] at e
    refine R_ (o_ r_ (bw_ r_ r_ (T_ (am_ (aq_ r_ r_ (as_ (al_ (B_ (R_ (o_ r_ (ow_indexAddr r_ r_ g_ r_ r_ b_ (o_ r_ (cr_ r_ r_ r_ (o_ r_ (bl_ r_ r_ (fun bl => S_ 0 r_ (T_ (R_ (M_ r_ ?_)))))))))))))))))))
    refine F_ r_ (L_ 0 r_ (jl_bindE [1] rfl rfl (pword_p hl h2 Kperiod) e (fun v hv => by (repeat (first | refine pq_then ?_ | refine pq_block ?_)); exact pq_fin hv) (nb rfl) ?_))
    clear e
    intro u c1 k1 g2 e
    refine T_ (jc_hpV 4 (n := 6) rfl 1 [.string Kperiod, .pointer (some ⟨bT, 1, none⟩)] k_ rfl rfl (df_ (i := 0) rfl k_ k_ k_ b_ (by (repeat (first | refine pani_then ?_ | refine pani_block ?_)); exact pani_body) (dl_ rfl rfl rfl b_) ?_))
    refine df_ (i := 1) rfl k_ k_ k_ b_ (by (repeat (first | refine pani_then ?_ | refine pani_block ?_)); exact pani_body) (dm_ 1 rfl rfl rfl mem0 rfl) ?_
    refine df_ (i := 2) rfl k_ k_ k_ b_ (by (repeat (first | refine pani_then ?_ | refine pani_block ?_)); exact pani_body) (dk_ rfl) ?_
    refine hp_bindE (i := 3) rfl k_ (nb rfl) [0] rfl rfl (pnum_p hl g_) e (fun v hv => by (repeat (first | refine pq_then ?_ | refine pq_block ?_)); exact pq_fin hv) ?_
    clear e
    intro x c2 k2 g3 e
    refine ⟨?_, ?_⟩
    exact keep1 1 rfl
    refine df_ (i := 4) rfl k_ k_ k_ b_ (by (repeat (first | refine pani_then ?_ | refine pani_block ?_)); exact pani_body) (dr_ rfl) ?_
    refine hp_tail (dj_ (i := 5) rfl k_ (by decide) (ca_ 3 rfl rfl rfl rfl b_ (ht_done k_ (ay_ (al_ (an_ (o_ r_ (bj_ r_ r_ g_ (M_ r_ (ak_ (jq_againS (i := (0, c, 0, 0, 0, 0)) ((1, c2, x, 0, 0, 0) : Nat × Nat × Int × Int × Int × Int) ⟨⟨by dsimp only; omega, g3.2⟩, .inr (.inl ⟨rfl, rfl, rfl, rfl, e⟩)⟩ (by dsimp only; omega) ?_ ?_)))))))))))
    · exact bc_ 1 r_ (bc_ 2 r_ (bc_ 0 r_ sub_end))
    · (repeat (first | exact True.intro | refine ⟨rfl, ?_⟩))
  · rw [tk2, dcG, R.bind_assoc] at e
    refine R_ (o_ r_ (bw_ r_ r_ (T_ (am_ (aq_ r_ r_ (as_ (al_ (B_ (R_ (o_ r_ (ow_indexAddr r_ r_ g_ r_ r_ b_ (o_ r_ (cr_ r_ r_ r_ (o_ r_ (bl_ r_ r_ (fun bl => S_ 0 r_ (T_ (R_ (M_ r_ ?_)))))))))))))))))))
    refine F_ r_ (L_ 0 r_ (jl_bindE [1] rfl rfl (pword_p hl h2 Kdeadline) e (fun v hv => by (repeat (first | refine pq_then ?_ | refine pq_block ?_)); exact pq_fin hv) (nb rfl) ?_))
    clear e
    intro u c1 k1 g2 e
    refine T_ (jc_hpV 4 (n := 6) rfl 1 [.string Kdeadline, .pointer (some ⟨bT, 2, none⟩)] k_ rfl rfl (df_ (i := 0) rfl k_ k_ k_ b_ (by (repeat (first | refine pani_then ?_ | refine pani_block ?_)); exact pani_body) (dl_ rfl rfl rfl b_) ?_))
    refine df_ (i := 1) rfl k_ k_ k_ b_ (by (repeat (first | refine pani_then ?_ | refine pani_block ?_)); exact pani_body) (dm_ 1 rfl rfl rfl mem0 rfl) ?_
    refine df_ (i := 2) rfl k_ k_ k_ b_ (by (repeat (first | refine pani_then ?_ | refine pani_block ?_)); exact pani_body) (dk_ rfl) ?_
    refine hp_bindE (i := 3) rfl k_ (nb rfl) [0] rfl rfl (pnum_p hl g_) e (fun v hv => by (repeat (first | refine pq_then ?_ | refine pq_block ?_)); exact pq_fin hv) ?_
    clear e
    intro x c2 k2 g3 e
    refine ⟨?_, ?_⟩
    exact keep1 1 rfl
    refine df_ (i := 4) rfl k_ k_ k_ b_ (by (repeat (first | refine pani_then ?_ | refine pani_block ?_)); exact pani_body) (dr_ rfl) ?_
    refine hp_tail (dj_ (i := 5) rfl k_ (by decide) (ca_ 3 rfl rfl rfl rfl b_ (ht_done k_ (ay_ (al_ (an_ (o_ r_ (bj_ r_ r_ g_ (M_ r_ (ak_ (jq_againS (i := (1, c, pe, 0, 0, 0)) ((2, c2, pe, x, 0, 0) : Nat × Nat × Int × Int × Int × Int) ⟨⟨by dsimp only; omega, g3.2⟩, .inr (.inr (.inl ⟨rfl, rfl, rfl, e⟩))⟩ (by dsimp only; omega) ?_ ?_)))))))))))
    · exact bc_ 1 r_ (bc_ 2 r_ (bc_ 0 r_ sub_end))
    · (repeat (first | exact True.intro | refine ⟨rfl, ?_⟩))
  · rw [tk3, dcG, R.bind_assoc] at e
    refine R_ (o_ r_ (bw_ r_ r_ (T_ (am_ (aq_ r_ r_ (as_ (al_ (B_ (R_ (o_ r_ (ow_indexAddr r_ r_ g_ r_ r_ b_ (o_ r_ (cr_ r_ r_ r_ (o_ r_ (bl_ r_ r_ (fun bl => S_ 0 r_ (T_ (R_ (M_ r_ ?_)))))))))))))))))))
    refine F_ r_ (L_ 0 r_ (jl_bindE [1] rfl rfl (pword_p hl h2 Kpriority) e (fun v hv => by (repeat (first | refine pq_then ?_ | refine pq_block ?_)); exact pq_fin hv) (nb rfl) ?_))
    clear e
    intro u c1 k1 g2 e
    refine T_ (jc_hpV 4 (n := 6) rfl 1 [.string Kpriority, .pointer (some ⟨bT, 3, none⟩)] k_ rfl rfl (df_ (i := 0) rfl k_ k_ k_ b_ (by (repeat (first | refine pani_then ?_ | refine pani_block ?_)); exact pani_body) (dl_ rfl rfl rfl b_) ?_))
    refine df_ (i := 1) rfl k_ k_ k_ b_ (by (repeat (first | refine pani_then ?_ | refine pani_block ?_)); exact pani_body) (dm_ 1 rfl rfl rfl mem0 rfl) ?_
    refine df_ (i := 2) rfl k_ k_ k_ b_ (by (repeat (first | refine pani_then ?_ | refine pani_block ?_)); exact pani_body) (dk_ rfl) ?_
    refine hp_bindE (i := 3) rfl k_ (nb rfl) [0] rfl rfl (pnum_p hl g_) e (fun v hv => by (repeat (first | refine pq_then ?_ | refine pq_block ?_)); exact pq_fin hv) ?_
    clear e
    intro x c2 k2 g3 e
    refine ⟨?_, ?_⟩
    exact keep1 1 rfl
    refine df_ (i := 4) rfl k_ k_ k_ b_ (by (repeat (first | refine pani_then ?_ | refine pani_block ?_)); exact pani_body) (dr_ rfl) ?_
    refine hp_tail (dj_ (i := 5) rfl k_ (by decide) (ca_ 3 rfl rfl rfl rfl b_ (ht_done k_ (ay_ (al_ (an_ (o_ r_ (bj_ r_ r_ g_ (M_ r_ (ak_ (jq_againS (i := (2, c, pe, de, 0, 0)) ((3, c2, pe, de, x, 0) : Nat × Nat × Int × Int × Int × Int) ⟨⟨by dsimp only; omega, g3.2⟩, .inr (.inr (.inr (.inl ⟨rfl, rfl, e⟩)))⟩ (by dsimp only; omega) ?_ ?_)))))))))))
    · exact bc_ 1 r_ (bc_ 2 r_ (bc_ 0 r_ sub_end))
    · (repeat (first | exact True.intro | refine ⟨rfl, ?_⟩))
  · rw [tk4, dcG, R.bind_assoc] at e
    refine R_ (o_ r_ (bw_ r_ r_ (T_ (am_ (aq_ r_ r_ (as_ (al_ (B_ (R_ (o_ r_ (ow_indexAddr r_ r_ g_ r_ r_ b_ (o_ r_ (cr_ r_ r_ r_ (o_ r_ (bl_ r_ r_ (fun bl => S_ 0 r_ (T_ (R_ (M_ r_ ?_)))))))))))))))))))
    refine F_ r_ (L_ 0 r_ (jl_bindE [1] rfl rfl (pword_p hl h2 Kjitter) e (fun v hv => by (repeat (first | refine pq_then ?_ | refine pq_block ?_)); exact pq_fin hv) (nb rfl) ?_))
    clear e
    intro u c1 k1 g2 e
    refine T_ (jc_hpV 4 (n := 6) rfl 1 [.string Kjitter, .pointer (some ⟨bT, 4, none⟩)] k_ rfl rfl (df_ (i := 0) rfl k_ k_ k_ b_ (by (repeat (first | refine pani_then ?_ | refine pani_block ?_)); exact pani_body) (dl_ rfl rfl rfl b_) ?_))
    refine df_ (i := 1) rfl k_ k_ k_ b_ (by (repeat (first | refine pani_then ?_ | refine pani_block ?_)); exact pani_body) (dm_ 1 rfl rfl rfl mem0 rfl) ?_
    refine df_ (i := 2) rfl k_ k_ k_ b_ (by (repeat (first | refine pani_then ?_ | refine pani_block ?_)); exact pani_body) (dk_ rfl) ?_
    refine hp_bindE (i := 3) rfl k_ (nb rfl) [0] rfl rfl (pnum_p hl g_) e (fun v hv => by (repeat (first | refine pq_then ?_ | refine pq_block ?_)); exact pq_fin hv) ?_
    clear e
    intro x c2 k2 g3 e
    refine ⟨?_, ?_⟩
    exact keep1 1 rfl
    refine df_ (i := 4) rfl k_ k_ k_ b_ (by (repeat (first | refine pani_then ?_ | refine pani_block ?_)); exact pani_body) (dr_ rfl) ?_
    refine hp_tail (dj_ (i := 5) rfl k_ (by decide) (ca_ 3 rfl rfl rfl rfl b_ (ht_done k_ (ay_ (al_ (an_ (o_ r_ (bj_ r_ r_ g_ (M_ r_ (ak_ (jq_againS (i := (3, c, pe, de, pr, 0)) ((4, c2, pe, de, pr, x) : Nat × Nat × Int × Int × Int × Int) ⟨⟨by dsimp only; omega, g3.2⟩, .inr (.inr (.inr (.inr (⟨rfl, e⟩))))⟩ (by dsimp only; omega) ?_ ?_)))))))))))
    · exact bc_ 1 r_ (bc_ 2 r_ (bc_ 0 r_ sub_end))
    · (repeat (first | exact True.intro | refine ⟨rfl, ?_⟩))
  · clear hS
    have hS := pstmt_all hl hN (l.length + 1)
    refine R_ (o_ r_ (bw_ r_ r_ (T_ (am_ (ap_ r_ r_ (av_ (ax_ (ax_ (ba_ (al_ (B_ ?_)))))))))))
    rw [tkA] at e
    refine jc_ownNil 43 3 g_ ?_
    refine jc_loopS (ι := List Inp × Nat × Nat × Value) [] (fun i => (c ≤ i.2.1 ∧ i.2.1 ≤ l.length) ∧ l.length - i.2.1 ≤ i.2.2.1 ∧ i.1.length ≤ i.2.1 ∧ fin0 = finR l b TkS ((lpG l Kinput (inG l) i.2.2.1 i.2.1 i.1).bind fun x b => tkB l nm pe de pr ji x b))
      (fun i => [(0, Ptr b), (2, Ptr bR), (3, Ptr bT)]) (fun i => [Pz b l i.2.1, .blk bR 41 [.val (.string ⟨#[]⟩), .val (.int .i64 0), .val (.int .i64 0), .val (.int .i64 0), .val (.int .i64 0), .val (.slice none 0 0), .val (.slice none 0 0), .val (.slice none 0 0), .val (.slice none 0 0), .val (.slice none 0 0), .val (.slice none 0 0)], .blk bT 41 [.val (.string nm), .val (.int .i64 pe), .val (.int .i64 de), .val (.int .i64 pr), .val (.int .i64 ji), .val (i.2.2.2), .val (.slice none 0 0), .val (.slice none 0 0), .val (.slice none 0 0), .val (.slice none 0 0), .val (.slice none 0 0)], .own i.2.2.2 43 3 (i.1.map InRow)]) (fun i => l.length - i.2.1) ([], c, l.length + 1, .slice none 0 0) ⟨⟨Nat.le_refl _, h2⟩, by dsimp only; omega, Nat.zero_le _, e⟩ ?_ ?_ ?_
    · exact bc_ 1 r_ (bc_ 1 r_ (bc_ 1 r_ (bc_ 0 r_ sub_end)))
    · (repeat (first | exact True.intro | refine ⟨rfl, ?_⟩))
    clear e h1 h2
    rintro ⟨l0, c10, n0, v0⟩ ⟨⟨i1, i2⟩, hn, hacc, e⟩
    dsimp only at i1 i2 hn hacc e ⊢
    refine jc_reset [(0, Ptr b), (2, Ptr bR), (3, Ptr bT)] [Pz b l c10, .blk bR 41 [.val (.string ⟨#[]⟩), .val (.int .i64 0), .val (.int .i64 0), .val (.int .i64 0), .val (.int .i64 0), .val (.slice none 0 0), .val (.slice none 0 0), .val (.slice none 0 0), .val (.slice none 0 0), .val (.slice none 0 0), .val (.slice none 0 0)], .blk bT 41 [.val (.string nm), .val (.int .i64 pe), .val (.int .i64 de), .val (.int .i64 pr), .val (.int .i64 ji), .val (v0), .val (.slice none 0 0), .val (.slice none 0 0), .val (.slice none 0 0), .val (.slice none 0 0), .val (.slice none 0 0)], .own v0 43 3 (l0.map InRow)] ?_ ⟨[0, 0, 0, 0], [], rfl⟩ ?_
    · (repeat (first | exact True.intro | refine ⟨rfl, ?_⟩))
    cases h : isA l c10 Kinput with
    | true =>
      have hlt := isA_lt h
      rw [lpG_go h hn] at e
      simp only [inG, R.bind_assoc, bind_okE] at e
      refine am_ (R_ (M_ r_ (o_ r_ (bi_ [0] r_ r_ (has_y hl i2 h) (T_ (aq_ r_ r_ (as_ (al_ (au_ (jc_hpV 11 (n := 13) rfl 2 [.string nm, .int .i64 pe, .int .i64 de, .int .i64 pr, .int .i64 ji, v0, .slice none 0 0, .slice none 0 0, .slice none 0 0, .slice none 0 0, .slice none 0 0] k_ rfl rfl ?_))))))))))
      refine df_ (i := 0) rfl k_ k_ k_ b_ (by (repeat (first | refine pani_then ?_ | refine pani_block ?_)); exact pani_body) (dl_ rfl rfl rfl b_) ?_
      refine df_ (i := 1) rfl k_ k_ k_ b_ (by (repeat (first | refine pani_then ?_ | refine pani_block ?_)); exact pani_body) (dm_ 2 rfl rfl rfl mem0 rfl) ?_
      refine df_ (i := 2) rfl k_ k_ k_ b_ (by (repeat (first | refine pani_then ?_ | refine pani_block ?_)); exact pani_body) (dk_ rfl) ?_
      refine df_ (i := 4) rfl k_ k_ k_ b_ (by (repeat (first | refine pani_then ?_ | refine pani_block ?_)); exact pani_body) (dk_ rfl) ?_
      refine df_ (i := 6) rfl k_ k_ k_ b_ (by (repeat (first | refine pani_then ?_ | refine pani_block ?_)); exact pani_body) (dk_ rfl) ?_
      refine hp_bindE (i := 3) rfl k_ (nb rfl) [0] rfl rfl (pname_p (a := c10 + 1) hl g_) e (fun v hv => by (repeat (first | refine pq_then ?_ | refine pq_block ?_)); exact pq_fin hv) ?_
      clear e
      intro s c20 k20 g20 e
      refine ⟨?_, ?_⟩
      exact keep1 2 rfl
      refine hp_bindE (i := 5) rfl k_ (nb rfl) [0] rfl rfl (pnumber_p (a := c20) hl g_) e (fun v hv => by (repeat (first | refine pq_then ?_ | refine pq_block ?_)); exact pq_fin hv) ?_
      clear e
      intro lo c21 k21 g21 e
      refine ⟨?_, ?_⟩
      exact keep1 2 rfl
      refine hp_bindE (i := 7) rfl k_ (nb rfl) [0] rfl rfl (pnumber_p (a := c21) hl g_) e (fun v hv => by (repeat (first | refine pq_then ?_ | refine pq_block ?_)); exact pq_fin hv) ?_
      clear e
      intro hi c22 k22 g22 e
      refine ⟨?_, ?_⟩
      exact keep1 2 rfl
      refine dg_ (i := 8) r_ k_ b_ (bu_ r_ r_ r_ r_ r_ ⟨?_, ?_⟩)
      exact keep1 2 rfl
      refine dg_ (i := 9) r_ k_ b_ (bq_ r_ r_ b_ r_ r_ b_ ⟨?_, ?_⟩)
      exact keep1 2 rfl
      refine dg_ (i := 10) rfl k_ b_ (ow_apR 3 ((s, lo, hi) : Inp) (f := InRow) rfl rfl rfl rfl rfl rfl rfl (fun _ => rfl) g_ b_ (fun v2 hv2 => ⟨?_, ?_⟩))
      exact keep1 3 rfl
      refine df_ (i := 11) rfl k_ k_ k_ b_ (by (repeat (first | refine pani_then ?_ | refine pani_block ?_)); exact pani_body) (dl_ rfl rfl rfl b_) ?_
      refine hp_tail (dj_ (i := 12) rfl k_ (by decide) (ca_ 3 rfl rfl rfl rfl b_ (ht_done k_ (ay_ (jq_againS (i := (l0, c10, n0, v0)) ((l0 ++ [(s, lo, hi)], c22, n0 - 1, v2) : List Inp × Nat × Nat × Value) ⟨⟨by dsimp only; omega, g22.2⟩, by dsimp only; omega, by dsimp only; simp only [List.length_append, List.length_singleton]; omega, e⟩ (by dsimp only; omega) ?_ ?_)))))
      · exact bc_ 2 r_ (bc_ 2 r_ (bc_ 0 r_ (bc_ 0 r_ sub_end)))
      · (repeat (first | exact True.intro | refine ⟨rfl, ?_⟩))
    | false =>
      rw [lpG_stop h, bind_okE] at e
      refine am_ (R_ (M_ r_ (o_ r_ (bi_ [0] r_ r_ (has_n hl i2 h) (T_ (ap_ r_ r_ (av_ (ax_ (ax_ (ba_ (al_ (B_ ?_))))))))))))
      rw [tkB] at e
      refine jc_ownNil 9 1 g_ ?_
      refine jc_loopS (ι := List ByteArray × Nat × Nat × Value) [] (fun i => (c10 ≤ i.2.1 ∧ i.2.1 ≤ l.length) ∧ l.length - i.2.1 ≤ i.2.2.1 ∧ i.1.length ≤ i.2.1 ∧ fin0 = finR l b TkS ((lpG l Kvar (nmG l) i.2.2.1 i.2.1 i.1).bind fun x b => tkC l nm pe de pr ji l0 x b))
        (fun i => [(0, Ptr b), (2, Ptr bR), (3, Ptr bT)]) (fun i => [Pz b l i.2.1, .blk bR 41 [.val (.string ⟨#[]⟩), .val (.int .i64 0), .val (.int .i64 0), .val (.int .i64 0), .val (.int .i64 0), .val (.slice none 0 0), .val (.slice none 0 0), .val (.slice none 0 0), .val (.slice none 0 0), .val (.slice none 0 0), .val (.slice none 0 0)], .blk bT 41 [.val (.string nm), .val (.int .i64 pe), .val (.int .i64 de), .val (.int .i64 pr), .val (.int .i64 ji), .val (v0), .val (i.2.2.2), .val (.slice none 0 0), .val (.slice none 0 0), .val (.slice none 0 0), .val (.slice none 0 0)], .own i.2.2.2 9 1 (i.1.map Wrow), .own v0 43 3 (l0.map InRow)]) (fun i => l.length - i.2.1) ([], c10, l.length + 1, .slice none 0 0) ⟨⟨Nat.le_refl _, i2⟩, by dsimp only; omega, Nat.zero_le _, e⟩ ?_ ?_ ?_
      · exact bc_ 1 r_ (bc_ 1 r_ (bc_ 1 r_ (bc_ 0 r_ (bc_ 0 r_ sub_end))))
      · (repeat (first | exact True.intro | refine ⟨rfl, ?_⟩))
      clear e h hn hacc i1 i2
      rintro ⟨l1, c11, n1, v1⟩ ⟨⟨i1, i2⟩, hn, hacc, e⟩
      dsimp only at i1 i2 hn hacc e ⊢
      refine jc_reset [(0, Ptr b), (2, Ptr bR), (3, Ptr bT)] [Pz b l c11, .blk bR 41 [.val (.string ⟨#[]⟩), .val (.int .i64 0), .val (.int .i64 0), .val (.int .i64 0), .val (.int .i64 0), .val (.slice none 0 0), .val (.slice none 0 0), .val (.slice none 0 0), .val (.slice none 0 0), .val (.slice none 0 0), .val (.slice none 0 0)], .blk bT 41 [.val (.string nm), .val (.int .i64 pe), .val (.int .i64 de), .val (.int .i64 pr), .val (.int .i64 ji), .val (v0), .val (v1), .val (.slice none 0 0), .val (.slice none 0 0), .val (.slice none 0 0), .val (.slice none 0 0)], .own v1 9 1 (l1.map Wrow), .own v0 43 3 (l0.map InRow)] ?_ ⟨[0, 0, 0, 0, 0], [], rfl⟩ ?_
      · (repeat (first | exact True.intro | refine ⟨rfl, ?_⟩))
      cases h : isA l c11 Kvar with
      | true =>
        have hlt := isA_lt h
        rw [lpG_go h hn] at e
        skip
        refine am_ (R_ (M_ r_ (o_ r_ (bi_ [0] r_ r_ (has_y hl i2 h) (T_ (aq_ r_ r_ (as_ (al_ (au_ (jc_hpV 6 (n := 8) rfl 2 [.string nm, .int .i64 pe, .int .i64 de, .int .i64 pr, .int .i64 ji, v0, v1, .slice none 0 0, .slice none 0 0, .slice none 0 0, .slice none 0 0] k_ rfl rfl (df_ (i := 0) rfl k_ k_ k_ b_ (by (repeat (first | refine pani_then ?_ | refine pani_block ?_)); exact pani_body) (dl_ rfl rfl rfl b_) ?_)))))))))))
        refine df_ (i := 1) rfl k_ k_ k_ b_ (by (repeat (first | refine pani_then ?_ | refine pani_block ?_)); exact pani_body) (dm_ 2 rfl rfl rfl mem0 rfl) ?_
        refine df_ (i := 2) rfl k_ k_ k_ b_ (by (repeat (first | refine pani_then ?_ | refine pani_block ?_)); exact pani_body) (dk_ rfl) ?_
        refine hp_bindE (i := 3) rfl k_ (nb rfl) [0] rfl rfl (pname_p (a := c11 + 1) hl g_) e (fun v hv => by (repeat (first | refine pq_then ?_ | refine pq_block ?_)); exact pq_fin hv) ?_
        clear e
        intro s c20 k20 g20 e
        refine ⟨?_, ?_⟩
        exact keep1 2 rfl
        refine dg_ (i := 4) r_ k_ b_ (bq_ r_ r_ b_ r_ r_ b_ ⟨?_, ?_⟩)
        exact keep1 2 rfl
        refine dg_ (i := 5) rfl k_ b_ (ow_apR 3 (s : ByteArray) (f := Wrow) rfl rfl rfl rfl rfl rfl rfl (fun _ => rfl) g_ b_ (fun v2 hv2 => ⟨?_, ?_⟩))
        exact keep1 3 rfl
        refine df_ (i := 6) rfl k_ k_ k_ b_ (by (repeat (first | refine pani_then ?_ | refine pani_block ?_)); exact pani_body) (dl_ rfl rfl rfl b_) ?_
        refine hp_tail (dj_ (i := 7) rfl k_ (by decide) (ca_ 3 rfl rfl rfl rfl b_ (ht_done k_ (ay_ (jq_againS (i := (l1, c11, n1, v1)) ((l1 ++ [s], c20, n1 - 1, v2) : List ByteArray × Nat × Nat × Value) ⟨⟨by dsimp only; omega, g20.2⟩, by dsimp only; omega, by dsimp only; simp only [List.length_append, List.length_singleton]; omega, e⟩ (by dsimp only; omega) ?_ ?_)))))
        · exact bc_ 2 r_ (bc_ 2 r_ (bc_ 0 r_ (bc_ 0 r_ (bc_ 0 r_ sub_end))))
        · (repeat (first | exact True.intro | refine ⟨rfl, ?_⟩))
      | false =>
        rw [lpG_stop h, bind_okE] at e
        refine am_ (R_ (M_ r_ (o_ r_ (bi_ [0] r_ r_ (has_n hl i2 h) (T_ (ap_ r_ r_ (av_ (ax_ (ax_ (ba_ (al_ (B_ ?_))))))))))))
        rw [tkC] at e
        refine jc_ownNil 45 2 g_ ?_
        refine jc_loopS (ι := List Arr × Nat × Nat × Value) [] (fun i => (c11 ≤ i.2.1 ∧ i.2.1 ≤ l.length) ∧ l.length - i.2.1 ≤ i.2.2.1 ∧ i.1.length ≤ i.2.1 ∧ fin0 = finR l b TkS ((lpG l Karray (arG l) i.2.2.1 i.2.1 i.1).bind fun x b => tkD l nm pe de pr ji l0 l1 x b))
          (fun i => [(0, Ptr b), (2, Ptr bR), (3, Ptr bT)]) (fun i => [Pz b l i.2.1, .blk bR 41 [.val (.string ⟨#[]⟩), .val (.int .i64 0), .val (.int .i64 0), .val (.int .i64 0), .val (.int .i64 0), .val (.slice none 0 0), .val (.slice none 0 0), .val (.slice none 0 0), .val (.slice none 0 0), .val (.slice none 0 0), .val (.slice none 0 0)], .blk bT 41 [.val (.string nm), .val (.int .i64 pe), .val (.int .i64 de), .val (.int .i64 pr), .val (.int .i64 ji), .val (v0), .val (v1), .val (i.2.2.2), .val (.slice none 0 0), .val (.slice none 0 0), .val (.slice none 0 0)], .own i.2.2.2 45 2 (i.1.map ArRow), .own v0 43 3 (l0.map InRow), .own v1 9 1 (l1.map Wrow)]) (fun i => l.length - i.2.1) ([], c11, l.length + 1, .slice none 0 0) ⟨⟨Nat.le_refl _, i2⟩, by dsimp only; omega, Nat.zero_le _, e⟩ ?_ ?_ ?_
        · exact bc_ 1 r_ (bc_ 1 r_ (bc_ 1 r_ (bc_ 0 r_ (bc_ 1 r_ (bc_ 0 r_ sub_end)))))
        · (repeat (first | exact True.intro | refine ⟨rfl, ?_⟩))
        clear e h hn hacc i1 i2
        rintro ⟨l2, c12, n2, v2⟩ ⟨⟨i1, i2⟩, hn, hacc, e⟩
        dsimp only at i1 i2 hn hacc e ⊢
        refine jc_reset [(0, Ptr b), (2, Ptr bR), (3, Ptr bT)] [Pz b l c12, .blk bR 41 [.val (.string ⟨#[]⟩), .val (.int .i64 0), .val (.int .i64 0), .val (.int .i64 0), .val (.int .i64 0), .val (.slice none 0 0), .val (.slice none 0 0), .val (.slice none 0 0), .val (.slice none 0 0), .val (.slice none 0 0), .val (.slice none 0 0)], .blk bT 41 [.val (.string nm), .val (.int .i64 pe), .val (.int .i64 de), .val (.int .i64 pr), .val (.int .i64 ji), .val (v0), .val (v1), .val (v2), .val (.slice none 0 0), .val (.slice none 0 0), .val (.slice none 0 0)], .own v2 45 2 (l2.map ArRow), .own v0 43 3 (l0.map InRow), .own v1 9 1 (l1.map Wrow)] ?_ ⟨[0, 0, 0, 0, 0, 0], [], rfl⟩ ?_
        · (repeat (first | exact True.intro | refine ⟨rfl, ?_⟩))
        cases h : isA l c12 Karray with
        | true =>
          have hlt := isA_lt h
          rw [lpG_go h hn] at e
          simp only [arG, R.bind_assoc, bind_okE] at e
          refine am_ (R_ (M_ r_ (o_ r_ (bi_ [0] r_ r_ (has_y hl i2 h) (T_ (aq_ r_ r_ (as_ (al_ (au_ (jc_hpV 9 (n := 11) rfl 2 [.string nm, .int .i64 pe, .int .i64 de, .int .i64 pr, .int .i64 ji, v0, v1, v2, .slice none 0 0, .slice none 0 0, .slice none 0 0] k_ rfl rfl (df_ (i := 0) rfl k_ k_ k_ b_ (by (repeat (first | refine pani_then ?_ | refine pani_block ?_)); exact pani_body) (dl_ rfl rfl rfl b_) ?_)))))))))))
          refine df_ (i := 1) rfl k_ k_ k_ b_ (by (repeat (first | refine pani_then ?_ | refine pani_block ?_)); exact pani_body) (dm_ 2 rfl rfl rfl mem0 rfl) ?_
          refine df_ (i := 2) rfl k_ k_ k_ b_ (by (repeat (first | refine pani_then ?_ | refine pani_block ?_)); exact pani_body) (dk_ rfl) ?_
          refine df_ (i := 4) rfl k_ k_ k_ b_ (by (repeat (first | refine pani_then ?_ | refine pani_block ?_)); exact pani_body) (dk_ rfl) ?_
          refine hp_bindE (i := 3) rfl k_ (nb rfl) [0] rfl rfl (pname_p (a := c12 + 1) hl g_) e (fun v hv => by (repeat (first | refine pq_then ?_ | refine pq_block ?_)); exact pq_fin hv) ?_
          clear e
          intro s c20 k20 g20 e
          refine ⟨?_, ?_⟩
          exact keep1 2 rfl
          refine hp_bindE (i := 5) rfl k_ (nb rfl) [0] rfl rfl (pnum_p (a := c20) hl g_) e (fun v hv => by (repeat (first | refine pq_then ?_ | refine pq_block ?_)); exact pq_fin hv) ?_
          clear e
          intro n c21 k21 g21 e
          refine ⟨?_, ?_⟩
          exact keep1 2 rfl
          refine dg_ (i := 6) r_ k_ b_ (bu_ r_ r_ r_ r_ r_ ⟨?_, ?_⟩)
          exact keep1 2 rfl
          refine dg_ (i := 7) r_ k_ b_ (bq_ r_ r_ b_ r_ r_ b_ ⟨?_, ?_⟩)
          exact keep1 2 rfl
          refine dg_ (i := 8) rfl k_ b_ (ow_apR 3 ((s, n) : Arr) (f := ArRow) rfl rfl rfl rfl rfl rfl rfl (fun _ => rfl) g_ b_ (fun v2 hv2 => ⟨?_, ?_⟩))
          exact keep1 3 rfl
          refine df_ (i := 9) rfl k_ k_ k_ b_ (by (repeat (first | refine pani_then ?_ | refine pani_block ?_)); exact pani_body) (dl_ rfl rfl rfl b_) ?_
          refine hp_tail (dj_ (i := 10) rfl k_ (by decide) (ca_ 3 rfl rfl rfl rfl b_ (ht_done k_ (ay_ (jq_againS (i := (l2, c12, n2, v2)) ((l2 ++ [(s, n)], c21, n2 - 1, v2) : List Arr × Nat × Nat × Value) ⟨⟨by dsimp only; omega, g21.2⟩, by dsimp only; omega, by dsimp only; simp only [List.length_append, List.length_singleton]; omega, e⟩ (by dsimp only; omega) ?_ ?_)))))
          · exact bc_ 2 r_ (bc_ 2 r_ (bc_ 0 r_ (bc_ 0 r_ (bc_ 0 r_ (bc_ 0 r_ sub_end)))))
          · (repeat (first | exact True.intro | refine ⟨rfl, ?_⟩))
        | false =>
          rw [lpG_stop h, bind_okE] at e
          refine am_ (R_ (M_ r_ (o_ r_ (bi_ [0] r_ r_ (has_n hl i2 h) (T_ (ap_ r_ r_ (av_ (ax_ (ax_ (ba_ (al_ (B_ ?_))))))))))))
          rw [tkD] at e
          refine jc_ownNil 86 4 g_ ?_
          refine jc_loopS (ι := List Md × Nat × Nat × Value) [] (fun i => (c12 ≤ i.2.1 ∧ i.2.1 ≤ l.length) ∧ l.length - i.2.1 ≤ i.2.2.1 ∧ i.1.length ≤ i.2.1 ∧ fin0 = finR l b TkS ((lpG l Kmode (mdG l) i.2.2.1 i.2.1 i.1).bind fun x b => tkE l nm pe de pr ji l0 l1 l2 x b))
            (fun i => [(0, Ptr b), (2, Ptr bR), (3, Ptr bT)]) (fun i => [Pz b l i.2.1, .blk bR 41 [.val (.string ⟨#[]⟩), .val (.int .i64 0), .val (.int .i64 0), .val (.int .i64 0), .val (.int .i64 0), .val (.slice none 0 0), .val (.slice none 0 0), .val (.slice none 0 0), .val (.slice none 0 0), .val (.slice none 0 0), .val (.slice none 0 0)], .blk bT 41 [.val (.string nm), .val (.int .i64 pe), .val (.int .i64 de), .val (.int .i64 pr), .val (.int .i64 ji), .val (v0), .val (v1), .val (v2), .val (i.2.2.2), .val (.slice none 0 0), .val (.slice none 0 0)], .own i.2.2.2 86 4 (i.1.map MdRow), .own v0 43 3 (l0.map InRow), .own v1 9 1 (l1.map Wrow), .own v2 45 2 (l2.map ArRow)]) (fun i => l.length - i.2.1) ([], c12, l.length + 1, .slice none 0 0) ⟨⟨Nat.le_refl _, i2⟩, by dsimp only; omega, Nat.zero_le _, e⟩ ?_ ?_ ?_
          · exact bc_ 1 r_ (bc_ 1 r_ (bc_ 1 r_ (bc_ 0 r_ (bc_ 1 r_ (bc_ 1 r_ (bc_ 0 r_ sub_end))))))
          · (repeat (first | exact True.intro | refine ⟨rfl, ?_⟩))
          clear e h hn hacc i1 i2
          rintro ⟨l3, c13, n3, v3⟩ ⟨⟨i1, i2⟩, hn, hacc, e⟩
          dsimp only at i1 i2 hn hacc e ⊢
          refine jc_reset [(0, Ptr b), (2, Ptr bR), (3, Ptr bT)] [Pz b l c13, .blk bR 41 [.val (.string ⟨#[]⟩), .val (.int .i64 0), .val (.int .i64 0), .val (.int .i64 0), .val (.int .i64 0), .val (.slice none 0 0), .val (.slice none 0 0), .val (.slice none 0 0), .val (.slice none 0 0), .val (.slice none 0 0), .val (.slice none 0 0)], .blk bT 41 [.val (.string nm), .val (.int .i64 pe), .val (.int .i64 de), .val (.int .i64 pr), .val (.int .i64 ji), .val (v0), .val (v1), .val (v2), .val (v3), .val (.slice none 0 0), .val (.slice none 0 0)], .own v3 86 4 (l3.map MdRow), .own v0 43 3 (l0.map InRow), .own v1 9 1 (l1.map Wrow), .own v2 45 2 (l2.map ArRow)] ?_ ⟨[0, 0, 0, 0, 0, 0, 0], [], rfl⟩ ?_
          · (repeat (first | exact True.intro | refine ⟨rfl, ?_⟩))
          cases h : isA l c13 Kmode with
          | true =>
            have hlt := isA_lt h
            rw [lpG_go h hn] at e
            simp only [mdG, R.bind_assoc, bind_okE] at e
            refine am_ (R_ (M_ r_ (o_ r_ (bi_ [0] r_ r_ (has_y hl i2 h) (T_ (aq_ r_ r_ (as_ (al_ (au_ (jc_hpV 13 (n := 15) rfl 2 [.string nm, .int .i64 pe, .int .i64 de, .int .i64 pr, .int .i64 ji, v0, v1, v2, v3, .slice none 0 0, .slice none 0 0] k_ rfl rfl (df_ (i := 0) rfl k_ k_ k_ b_ (by (repeat (first | refine pani_then ?_ | refine pani_block ?_)); exact pani_body) (dl_ rfl rfl rfl b_) ?_)))))))))))
            refine df_ (i := 1) rfl k_ k_ k_ b_ (by (repeat (first | refine pani_then ?_ | refine pani_block ?_)); exact pani_body) (dm_ 2 rfl rfl rfl mem0 rfl) ?_
            refine df_ (i := 2) rfl k_ k_ k_ b_ (by (repeat (first | refine pani_then ?_ | refine pani_block ?_)); exact pani_body) (dk_ rfl) ?_
            refine df_ (i := 4) rfl k_ k_ k_ b_ (by (repeat (first | refine pani_then ?_ | refine pani_block ?_)); exact pani_body) (dk_ rfl) ?_
            refine df_ (i := 6) rfl k_ k_ k_ b_ (by (repeat (first | refine pani_then ?_ | refine pani_block ?_)); exact pani_body) (dk_ rfl) ?_
            refine df_ (i := 8) rfl k_ k_ k_ b_ (by (repeat (first | refine pani_then ?_ | refine pani_block ?_)); exact pani_body) (dk_ rfl) ?_
            refine hp_bindE (i := 3) rfl k_ (nb rfl) [0] rfl rfl (pname_p (a := c13 + 1) hl g_) e (fun v hv => by (repeat (first | refine pq_then ?_ | refine pq_block ?_)); exact pq_fin hv) ?_
            clear e
            intro s c20 k20 g20 e
            refine ⟨?_, ?_⟩
            exact keep1 2 rfl
            refine hp_bindE (i := 5) rfl k_ (nb rfl) [0] rfl rfl (pname_p (a := c20) hl g_) e (fun v hv => by (repeat (first | refine pq_then ?_ | refine pq_block ?_)); exact pq_fin hv) ?_
            clear e
            intro i c21 k21 g21 e
            refine ⟨?_, ?_⟩
            exact keep1 2 rfl
            refine hp_bindE (i := 7) rfl k_ (nb rfl) [0] rfl rfl (pnumber_p (a := c21) hl g_) e (fun v hv => by (repeat (first | refine pq_then ?_ | refine pq_block ?_)); exact pq_fin hv) ?_
            clear e
            intro lo c22 k22 g22 e
            refine ⟨?_, ?_⟩
            exact keep1 2 rfl
            refine hp_bindE (i := 9) rfl k_ (nb rfl) [0] rfl rfl (pnumber_p (a := c22) hl g_) e (fun v hv => by (repeat (first | refine pq_then ?_ | refine pq_block ?_)); exact pq_fin hv) ?_
            clear e
            intro hi c23 k23 g23 e
            refine ⟨?_, ?_⟩
            exact keep1 2 rfl
            refine dg_ (i := 10) r_ k_ b_ (bu_ r_ r_ r_ r_ r_ ⟨?_, ?_⟩)
            exact keep1 2 rfl
            refine dg_ (i := 11) r_ k_ b_ (bq_ r_ r_ b_ r_ r_ b_ ⟨?_, ?_⟩)
            exact keep1 2 rfl
            refine dg_ (i := 12) rfl k_ b_ (ow_apR 3 ((s, i, lo, hi) : Md) (f := MdRow) rfl rfl rfl rfl rfl rfl rfl (fun _ => rfl) g_ b_ (fun v2 hv2 => ⟨?_, ?_⟩))
            exact keep1 3 rfl
            refine df_ (i := 13) rfl k_ k_ k_ b_ (by (repeat (first | refine pani_then ?_ | refine pani_block ?_)); exact pani_body) (dl_ rfl rfl rfl b_) ?_
            refine hp_tail (dj_ (i := 14) rfl k_ (by decide) (ca_ 3 rfl rfl rfl rfl b_ (ht_done k_ (ay_ (jq_againS (i := (l3, c13, n3, v3)) ((l3 ++ [(s, i, lo, hi)], c23, n3 - 1, v2) : List Md × Nat × Nat × Value) ⟨⟨by dsimp only; omega, g23.2⟩, by dsimp only; omega, by dsimp only; simp only [List.length_append, List.length_singleton]; omega, e⟩ (by dsimp only; omega) ?_ ?_)))))
            · exact bc_ 2 r_ (bc_ 2 r_ (bc_ 0 r_ (bc_ 0 r_ (bc_ 0 r_ (bc_ 0 r_ (bc_ 0 r_ sub_end))))))
            · (repeat (first | exact True.intro | refine ⟨rfl, ?_⟩))
          | false =>
            rw [lpG_stop h, bind_okE] at e
            refine am_ (R_ (M_ r_ (o_ r_ (bi_ [0] r_ r_ (has_n hl i2 h) (T_ (ap_ r_ r_ (av_ (ax_ (ax_ (ba_ (al_ (B_ ?_))))))))))))
            rw [tkE] at e
            refine jc_ownNil 47 2 g_ ?_
            refine jc_loopS (ι := List Clm × Nat × Nat × Value) [] (fun i => (c13 ≤ i.2.1 ∧ i.2.1 ≤ l.length) ∧ l.length - i.2.1 ≤ i.2.2.1 ∧ i.1.length ≤ i.2.1 ∧ fin0 = finR l b TkS ((lpG l Knever (clG l) i.2.2.1 i.2.1 i.1).bind fun x b => tkF l nm pe de pr ji l0 l1 l2 l3 x b))
              (fun i => [(0, Ptr b), (2, Ptr bR), (3, Ptr bT)]) (fun i => [Pz b l i.2.1, .blk bR 41 [.val (.string ⟨#[]⟩), .val (.int .i64 0), .val (.int .i64 0), .val (.int .i64 0), .val (.int .i64 0), .val (.slice none 0 0), .val (.slice none 0 0), .val (.slice none 0 0), .val (.slice none 0 0), .val (.slice none 0 0), .val (.slice none 0 0)], .blk bT 41 [.val (.string nm), .val (.int .i64 pe), .val (.int .i64 de), .val (.int .i64 pr), .val (.int .i64 ji), .val (v0), .val (v1), .val (v2), .val (v3), .val (i.2.2.2), .val (.slice none 0 0)], .own i.2.2.2 47 2 (i.1.map ClRow), .own v0 43 3 (l0.map InRow), .own v1 9 1 (l1.map Wrow), .own v2 45 2 (l2.map ArRow), .own v3 86 4 (l3.map MdRow)]) (fun i => l.length - i.2.1) ([], c13, l.length + 1, .slice none 0 0) ⟨⟨Nat.le_refl _, i2⟩, by dsimp only; omega, Nat.zero_le _, e⟩ ?_ ?_ ?_
            · exact bc_ 1 r_ (bc_ 1 r_ (bc_ 1 r_ (bc_ 0 r_ (bc_ 1 r_ (bc_ 1 r_ (bc_ 1 r_ (bc_ 0 r_ sub_end)))))))
            · (repeat (first | exact True.intro | refine ⟨rfl, ?_⟩))
            clear e h hn hacc i1 i2
            rintro ⟨l4, c14, n4, v4⟩ ⟨⟨i1, i2⟩, hn, hacc, e⟩
            dsimp only at i1 i2 hn hacc e ⊢
            refine jc_reset [(0, Ptr b), (2, Ptr bR), (3, Ptr bT)] [Pz b l c14, .blk bR 41 [.val (.string ⟨#[]⟩), .val (.int .i64 0), .val (.int .i64 0), .val (.int .i64 0), .val (.int .i64 0), .val (.slice none 0 0), .val (.slice none 0 0), .val (.slice none 0 0), .val (.slice none 0 0), .val (.slice none 0 0), .val (.slice none 0 0)], .blk bT 41 [.val (.string nm), .val (.int .i64 pe), .val (.int .i64 de), .val (.int .i64 pr), .val (.int .i64 ji), .val (v0), .val (v1), .val (v2), .val (v3), .val (v4), .val (.slice none 0 0)], .own v4 47 2 (l4.map ClRow), .own v0 43 3 (l0.map InRow), .own v1 9 1 (l1.map Wrow), .own v2 45 2 (l2.map ArRow), .own v3 86 4 (l3.map MdRow)] ?_ ⟨[0, 0, 0, 0, 0, 0, 0, 0], [], rfl⟩ ?_
            · (repeat (first | exact True.intro | refine ⟨rfl, ?_⟩))
            cases h : isA l c14 Knever with
            | true =>
              have hlt := isA_lt h
              rw [lpG_go h hn] at e
              simp only [clG, R.bind_assoc, bind_okE] at e
              refine am_ (R_ (M_ r_ (o_ r_ (bi_ [0] r_ r_ (has_y hl i2 h) (T_ (aq_ r_ r_ (as_ (al_ (au_ (jc_hpV 9 (n := 11) rfl 2 [.string nm, .int .i64 pe, .int .i64 de, .int .i64 pr, .int .i64 ji, v0, v1, v2, v3, v4, .slice none 0 0] k_ rfl rfl (df_ (i := 0) rfl k_ k_ k_ b_ (by (repeat (first | refine pani_then ?_ | refine pani_block ?_)); exact pani_body) (dl_ rfl rfl rfl b_) ?_)))))))))))
              refine df_ (i := 1) rfl k_ k_ k_ b_ (by (repeat (first | refine pani_then ?_ | refine pani_block ?_)); exact pani_body) (dm_ 2 rfl rfl rfl mem0 rfl) ?_
              refine df_ (i := 2) rfl k_ k_ k_ b_ (by (repeat (first | refine pani_then ?_ | refine pani_block ?_)); exact pani_body) (dk_ rfl) ?_
              refine df_ (i := 4) rfl k_ k_ k_ b_ (by (repeat (first | refine pani_then ?_ | refine pani_block ?_)); exact pani_body) (dk_ rfl) ?_
              refine hp_bindE (i := 3) rfl k_ (nb rfl) [0] rfl rfl (pnum_p (a := c14 + 1) hl g_) e (fun v hv => by (repeat (first | refine pq_then ?_ | refine pq_block ?_)); exact pq_fin hv) ?_
              clear e
              intro x c20 k20 g20 e
              refine ⟨?_, ?_⟩
              exact keep1 2 rfl
              refine hp_bindE (i := 5) rfl k_ (nb rfl) [0] rfl rfl (pnum_p (a := c20) hl g_) e (fun v hv => by (repeat (first | refine pq_then ?_ | refine pq_block ?_)); exact pq_fin hv) ?_
              clear e
              intro y c21 k21 g21 e
              refine ⟨?_, ?_⟩
              exact keep1 2 rfl
              refine dg_ (i := 6) r_ k_ b_ (bu_ r_ r_ r_ r_ r_ ⟨?_, ?_⟩)
              exact keep1 2 rfl
              refine dg_ (i := 7) r_ k_ b_ (bq_ r_ r_ b_ r_ r_ b_ ⟨?_, ?_⟩)
              exact keep1 2 rfl
              refine dg_ (i := 8) rfl k_ b_ (ow_apR 3 ((x, y) : Clm) (f := ClRow) rfl rfl rfl rfl rfl rfl rfl (fun _ => rfl) g_ b_ (fun v2 hv2 => ⟨?_, ?_⟩))
              exact keep1 3 rfl
              refine df_ (i := 9) rfl k_ k_ k_ b_ (by (repeat (first | refine pani_then ?_ | refine pani_block ?_)); exact pani_body) (dl_ rfl rfl rfl b_) ?_
              refine hp_tail (dj_ (i := 10) rfl k_ (by decide) (ca_ 3 rfl rfl rfl rfl b_ (ht_done k_ (ay_ (jq_againS (i := (l4, c14, n4, v4)) ((l4 ++ [(x, y)], c21, n4 - 1, v2) : List Clm × Nat × Nat × Value) ⟨⟨by dsimp only; omega, g21.2⟩, by dsimp only; omega, by dsimp only; simp only [List.length_append, List.length_singleton]; omega, e⟩ (by dsimp only; omega) ?_ ?_)))))
              · exact bc_ 2 r_ (bc_ 2 r_ (bc_ 0 r_ (bc_ 0 r_ (bc_ 0 r_ (bc_ 0 r_ (bc_ 0 r_ (bc_ 0 r_ sub_end)))))))
              · (repeat (first | exact True.intro | refine ⟨rfl, ?_⟩))
            | false =>
              rw [lpG_stop h, bind_okE] at e
              refine am_ (R_ (M_ r_ (o_ r_ (bi_ [0] r_ r_ (has_n hl i2 h) (T_ (ap_ r_ r_ (av_ (ax_ (ax_ (ba_ (al_ (R_ (M_ r_ ?_)))))))))))))
              rw [tkF, bodyG] at e
              simp only [R.bind_assoc, bind_okE] at e
              -- body
              refine jl_bindE [0] rfl rfl (pword_p hl i2 Kbody) e (fun v hv => by (repeat (first | refine pq_then ?_ | refine pq_block ?_)); exact pq_fin hv) (nb rfl) ?_
              clear e
              intro u2 b3 k3 g3 e
              refine T_ (B_ (jc_ownNil 51 8 g_ ?_))
              refine jc_loopS (ι := List Sm × Nat × Nat × Value) [] (fun i => (b3 ≤ i.2.1 ∧ i.2.1 ≤ l.length) ∧ l.length - i.2.1 ≤ i.2.2.1 ∧ i.1.length ≤ i.2.1 ∧ fin0 = finR l b TkS ((stmtsL l (stmtG l (l.length + 1) 0) 0 i.2.2.1 i.2.1 i.1).bind fun ss c => (wdG l Kend c).bind fun _ d => .ok ⟨nm, pe, de, pr, ji, l0, l1, l2, l3, l4, ss⟩ d))
                (fun i => [(0, Ptr b), (2, Ptr bR), (3, Ptr bT)]) (fun i => [Pz b l i.2.1, .blk bR 41 [.val (.string ⟨#[]⟩), .val (.int .i64 0), .val (.int .i64 0), .val (.int .i64 0), .val (.int .i64 0), .val (.slice none 0 0), .val (.slice none 0 0), .val (.slice none 0 0), .val (.slice none 0 0), .val (.slice none 0 0), .val (.slice none 0 0)], .blk bT 41 [.val (.string nm), .val (.int .i64 pe), .val (.int .i64 de), .val (.int .i64 pr), .val (.int .i64 ji), .val (v0), .val (v1), .val (v2), .val (v3), .val (v4), .val (i.2.2.2)], .own i.2.2.2 51 8 (i.1.map Sm.row'), .own v0 43 3 (l0.map InRow), .own v1 9 1 (l1.map Wrow), .own v2 45 2 (l2.map ArRow), .own v3 86 4 (l3.map MdRow), .own v4 47 2 (l4.map ClRow)]) (fun i => l.length + 1 - i.2.1) ([], b3, l.length + 1, .slice none 0 0) ⟨⟨Nat.le_refl _, g3.2⟩, by dsimp only; omega, Nat.zero_le _, e⟩ ?_ ?_ ?_
              · exact bc_ 1 r_ (bc_ 1 r_ (bc_ 1 r_ (bc_ 0 r_ (bc_ 1 r_ (bc_ 1 r_ (bc_ 1 r_ (bc_ 1 r_ (bc_ 0 r_ sub_end))))))))
              · (repeat (first | exact True.intro | refine ⟨rfl, ?_⟩))
              clear e h hn hacc i1 i2 g3 k3
              rintro ⟨ss, c, n, v⟩ ⟨⟨j1, j2⟩, hn2, hacc2, e⟩
              dsimp only at j1 j2 hn2 hacc2 e ⊢
              refine jc_reset [(0, Ptr b), (2, Ptr bR), (3, Ptr bT)] [Pz b l c, .blk bR 41 [.val (.string ⟨#[]⟩), .val (.int .i64 0), .val (.int .i64 0), .val (.int .i64 0), .val (.int .i64 0), .val (.slice none 0 0), .val (.slice none 0 0), .val (.slice none 0 0), .val (.slice none 0 0), .val (.slice none 0 0), .val (.slice none 0 0)], .blk bT 41 [.val (.string nm), .val (.int .i64 pe), .val (.int .i64 de), .val (.int .i64 pr), .val (.int .i64 ji), .val (v0), .val (v1), .val (v2), .val (v3), .val (v4), .val (v)], .own v 51 8 (ss.map Sm.row'), .own v0 43 3 (l0.map InRow), .own v1 9 1 (l1.map Wrow), .own v2 45 2 (l2.map ArRow), .own v3 86 4 (l3.map MdRow), .own v4 47 2 (l4.map ClRow)] ?_ ⟨[0, 0, 0, 0, 0, 0, 0, 0, 0], [], rfl⟩ ?_
              · (repeat (first | exact True.intro | refine ⟨rfl, ?_⟩))
              cases h2 : isA l c Kend with
              | true =>
                rw [stmtsL_stop (start_end h2), bind_okE, wdG_y h2, bind_okE] at e
                refine am_ (R_ (M_ r_ (o_ r_ (bi_ [0] r_ r_ (has_y hl j2 h2) (o_ r_ (cd_ r_ (T_ (ap_ r_ r_ (av_ (ax_ (ax_ (ba_ (al_ (R_ (A_ 2 r_ (S_ 1 r_ (T_ ?_)))))))))))))))))
                refine ar_ (jq_freezeBi 4 0 5 rfl rfl rfl (by rw [hc]; simp [hb, Ch.bs]) (jq_freezeBi 4 0 6 rfl rfl rfl (by rw [hc]; simp [hb, Ch.bs]) (jq_freezeBi 4 0 7 rfl rfl rfl (by rw [hc]; simp [hb, Ch.bs]) (jq_freezeBi 4 0 8 rfl rfl rfl (by rw [hc]; simp [hb, Ch.bs]) (jq_freezeBi 4 0 9 rfl rfl rfl (by rw [hc]; simp [hb, Ch.bs]) (jq_freezeBi 3 0 10 rfl rfl rfl (by rw [hc]; simp [hb, Ch.bs]) (jq_fin e ?_)))))))
                exact jq_retRowS rfl rfl rfl rfl 0 rfl (fun K h => by rw [smrows]; exact h) (bc_ 1 r_ sub_end)
              | false =>
                rw [stmts_goK h2 hn2] at e
                have eS : (ss.map Sm.row').length = ss.length := List.length_map _
                refine am_ (R_ (M_ r_ (o_ r_ (bi_ [0] r_ r_ (has_n hl j2 h2) (o_ r_ (cd_ r_ (T_ (aq_ r_ r_ (as_ (al_ (au_ (jc_hpV 6 (n := 11) rfl 2 [.string nm, .int .i64 pe, .int .i64 de, .int .i64 pr, .int .i64 ji, v0, v1, v2, v3, v4, v] k_ rfl rfl (df_ (i := 0) rfl k_ k_ k_ b_ (by (repeat (first | refine pani_then ?_ | refine pani_block ?_)); exact pani_body) (dl_ rfl rfl rfl b_) ?_)))))))))))))
                refine df_ (i := 1) rfl k_ k_ k_ b_ (by (repeat (first | refine pani_then ?_ | refine pani_block ?_)); exact pani_body) (dm_ 2 rfl rfl rfl mem0 rfl) ?_
                refine df_ (i := 2) rfl k_ k_ k_ b_ (by (repeat (first | refine pani_then ?_ | refine pani_block ?_)); exact pani_body) (dk_ rfl) ?_
                refine df_ (i := 4) rfl k_ k_ k_ b_ (by (repeat (first | refine pani_then ?_ | refine pani_block ?_)); exact pani_body) (hok_lenown 3 rfl rfl (by rw [eS]; omega)) ?_
                refine hp_two_bindE (i := 5) (j := 3) rfl rfl (by kernel_rfl) (by kernel_rfl) (by kernel_rfl) (nb rfl) (nb rfl) rfl rfl (keep1 2 rfl) (ow_buildSliceC zSmV rfl rfl rfl rfl (nb rfl) rfl (nb rfl) ⟨rfl, rfl⟩) (fun _ _ => ow_buildSliceC zSmV rfl rfl rfl rfl (nb rfl) rfl (nb rfl) ⟨rfl, rfl⟩)
                  [0] rfl rfl (hS b 0 c _ (by omega) (by omega) j2 (by omega)) e (fun v hv => by (repeat (first | refine pq_then ?_ | refine pq_block ?_)); exact pq_fin hv) (fun s c2 k2 g4 e => ⟨?_, ?_⟩)
                · exact keep1 2 rfl
                refine dg_ (i := 6) rfl k_ b_ (ow_apRow 3 rfl rfl rfl rfl rfl rfl rfl rfl g_ b_ (fun w2 hw2 => ⟨?_, ?_⟩))
                · exact keep1 3 rfl
                refine hp_rest (n := 11) k_ (df_ (i := 9) rfl k_ k_ k_ b_ (by (repeat (first | refine pani_then ?_ | refine pani_block ?_)); exact pani_body) (dl_ rfl rfl rfl b_) ?_)
                refine df_ (i := 7) rfl k_ k_ k_ b_ (by (repeat (first | refine pani_then ?_ | refine pani_block ?_)); exact pani_body) (hok_indexOwn 0 rfl rfl rfl g_ (by simp only [List.length_append, List.length_singleton]; omega) rfl) ?_
                have e9 : ((ss.map Sm.row') ++ [zSm]).set ss.length s.row' = (ss ++ [s]).map Sm.row' := by rw [set_snoc _ _ _ _ eS.symm, List.map_append]; rfl
                refine hp_both0 (i := 8) (j := 10) rfl rfl k_ (ow_storeInnAll (row := zSm) 0 ss.length rfl rfl rfl rfl g_ (get_snoc _ _ _ eS.symm) rfl rfl rfl ⟨keepT, ?_⟩) (ca_ 3 rfl rfl rfl rfl (nb rfl) ⟨keepT, ?_⟩)
                · refine dh_ (i := 10) r_ k_ (ca_ 3 r_ r_ r_ r_ b_ ⟨keepT, (hp_done k_ (ay_ (jq_againS (i := (ss, c, n, v)) ((ss ++ [s], c2, n - 1, w2) : List Sm × Nat × Nat × Value) ⟨⟨by dsimp only; omega, g4.2⟩, by dsimp only; omega, by dsimp only; simp only [List.length_append, List.length_singleton]; omega, e⟩ (by dsimp only; omega) ?_ ?_)))⟩)
                  · dsimp only
                    rw [← e9]
                    exact bc_ 2 r_ (bc_ 2 r_ (bc_ 0 r_ (bc_ 0 r_ (bc_ 0 r_ (bc_ 0 r_ (bc_ 0 r_ (bc_ 0 r_ (bc_ 0 r_ sub_end))))))))
                  · (repeat (first | exact True.intro | refine ⟨rfl, ?_⟩))
                · refine dh_ (i := 8) r_ k_ (ow_storeInnAll (row := zSm) 1 ss.length r_ r_ r_ r_ g_ (get_snoc _ _ _ eS.symm) r_ r_ r_ ⟨keepT, (hp_done k_ (ay_ (jq_againS (i := (ss, c, n, v)) ((ss ++ [s], c2, n - 1, w2) : List Sm × Nat × Nat × Value) ⟨⟨by dsimp only; omega, g4.2⟩, by dsimp only; omega, by dsimp only; simp only [List.length_append, List.length_singleton]; omega, e⟩ (by dsimp only; omega) ?_ ?_)))⟩)
                  · dsimp only
                    rw [← e9]
                    exact bc_ 2 r_ (bc_ 2 r_ (bc_ 1 r_ (bc_ 0 r_ (bc_ 0 r_ (bc_ 0 r_ (bc_ 0 r_ (bc_ 0 r_ (bc_ 0 r_ sub_end))))))))
                  · (repeat (first | exact True.intro | refine ⟨rfl, ?_⟩))
end
end Go.Proofs.YtlniadfidfmckaaGreatDoor
end

section
namespace Go.Proofs.YtlniadfidfmckaaGreatDoor
open Go.Vc
set_option maxHeartbeats 1000000

theorem byteAt_pre (s : ByteArray) (n : Nat) (h : 0 < n) : byteAt (s.extract 0 n) 0 = byteAt s 0 := by
  rw [byteAt_getD, byteAt_getD, extract_bytes, List.drop_zero, List.getD_eq_getElem?_getD, List.getD_eq_getElem?_getD, List.getElem?_take_of_lt (by omega)]
theorem nextT_nm {s : ByteArray} (h : (nextT s).1.1 = 1) : ¬ (nextT s).1.2.2 = Kcb := by
  unfold nextT at h ⊢
  by_cases h1 : 0 < nameLen s
  · rw [if_pos h1] at h ⊢
    by_cases h2 : 12 < nameLen s
    · rw [if_pos h2] at h; exact absurd h (by decide)
    · rw [if_neg h2]
      intro e
      have hb := byteAt_pre s (nameLen s) h1
      rw [show s.extract 0 (nameLen s) = Kcb from e] at hb
      have h3 : isL (byteAt s 0) = true := by
        unfold nameLen at h1
        split at h1
        · rename_i h; exact h.2
        · omega
      rw [← hb] at h3
      exact absurd h3 (by decide +kernel)
  · rw [if_neg h1] at h
    split at h
    · split at h
      · exact absurd (show (0 : Int) = 1 from h) (by decide)
      · exact absurd (show (2 : Int) = 1 from h) (by decide)
    · exact absurd (show (3 : Int) = 1 from h) (by decide)
def TokOk (t : Tok) : Prop := t.kind = 1 → ¬ t.text = Kcb
theorem scanGo_toks (s : ByteArray) : ∀ (m k : Nat) (line : Int) (out : List Tok), s.size - k ≤ m → (∀ t ∈ out, TokOk t) → ∀ t ∈ (scanGo s k line out).1, TokOk t
  | 0, k, line, out, h, ho => by
    rw [scanGo, dif_neg (by omega)]
    exact ho
  | m + 1, k, line, out, h, ho => by
    rw [scanGo]
    split
    · split
      · exact scanGo_toks s m _ _ _ (by omega) ho
      · split
        · exact scanGo_toks s m _ _ _ (by omega) ho
        · split
          · intro t ht; cases ht
          · rename_i hn
            refine scanGo_toks s m _ _ _ (by omega) ?_
            intro t ht
            rcases List.mem_append.1 ht with ht | ht
            · exact ho t ht
            · obtain rfl := List.mem_singleton.1 ht
              exact fun hk => nextT_nm hk
    · exact ho
theorem scan_nm (s : ByteArray) : NmOk (scan s).1 := by
  have hq : ∀ t ∈ (scan s).1, TokOk t := by
    unfold scan
    split
    · intro t ht; cases ht
    · exact scanGo_toks s s.size 0 1 [] (by omega) (fun t ht => by cases ht)
  intro a ha
  have hlt := isNm_lt ha
  rw [isNm_get hlt] at ha
  rw [isA_get _ hlt]
  simp only [Bool.and_eq_true, decide_eq_true_eq] at ha
  rw [decide_eq_false (hq _ (List.getElem_mem hlt) ha.1), Bool.and_false]
end Go.Proofs.YtlniadfidfmckaaGreatDoor
end

section
namespace Go.Proofs.YtlniadfidfmckaaGreatDoor
open Go.Vc
attribute [local irreducible] JL JC JQ OpWp Con ConN Pan ConE OpPan HP HT HOk ConD JLD JCD JQD
set_option maxHeartbeats 4000000

theorem try1_idle (b1 b2 : Nat) : ConD Tryz.prog 61 [Ptr b1, Ptr b2] [] .returning .returning [] := by
  exact cond_intro Tryz.func61 rfl rfl (Nat.le_of_ble_eq_true rfl) (fun c hc c₀ cs hu a w hs => wps_recover (v := .nilIface) hs (nb rfl) (nb rfl) rfl (.inr ⟨by simp [recoverD, hu], rfl, rfl⟩) (R_ (M_ r_ (o_ r_ (ow_neqNilIface r_ r_ (T_ (ap_ r_ r_ (as_ (jq_retD rfl (by rw [← hu]) sub_end)))))))))
theorem try1_pan (b1 b2 : Nat) (n code : Int) : ConD Tryz.prog 61 [Ptr b1, Ptr b2] [.blk b1 95 [.val (.int .i64 0), .val (.int .i64 0)], .blk b2 4 [.val (.bool false)]]
    (.panicking [{ v := .iface 95 (.agg #[.int .i64 n, .int .i64 code]), recovered := false }]) (.panicking [{ v := .iface 95 (.agg #[.int .i64 n, .int .i64 code]), recovered := true }])
    [.blk b1 95 [.val (.int .i64 n), .val (.int .i64 code)], .blk b2 4 [.val (.bool true)]] := by
  refine cond_intro Tryz.func61 rfl rfl (Nat.le_of_ble_eq_true rfl) (fun c hc c₀ cs hu a w hs => wps_recover (v := .iface 95 (.agg #[.int .i64 n, .int .i64 code])) (cs' := { c₀ with mode := .panicking [{ v := .iface 95 (.agg #[.int .i64 n, .int .i64 code]), recovered := true }] } :: cs) hs (nb rfl) (nb rfl) rfl (.inl (by simp [recoverD, hu])) (R_ (M_ r_ (o_ r_ (ow_neqIface r_ r_ (T_ (aq_ r_ r_ (an_ (M_ r_ ?_)))))))))
  exact o_ r_ (ow_typeAssert (vs := [.int .i64 n, .int .i64 code]) r_ r_ r_ (S_ 0 r_ (W_ 1 r_ (ak_ (jq_retD rfl rfl (bc_ 1 r_ (bc_ 0 r_ sub_end)))))))
abbrev Zp : List C := [.val (.slice none 0 0), .val (.slice none 0 0), .val (.slice none 0 0)]
abbrev tfv (bp bo : Nat) : Value := .func (.func 32) #[] #[.pointer (some ⟨bp, 0, none⟩), .pointer (some ⟨bo, 0, none⟩)]
abbrev Tin (l : List Tok) (b bp bo : Nat) : List Ch := [.blk bp 91 [.val (.pointer (some ⟨b, 0, none⟩))], .blk bo 31 Zp, Pz b l 0]
theorem try_ret {l : List Tok} {b bp bo : Nat} {Hout : List Ch} (con : Con Tryz.prog 32 [Ptr bp, Ptr bo] (Tin l b bp bo) (fun K => K (.tup []) Hout)) (hO : ∃ x y z, Hout = [x, y, z]) :
    Con Tryz.prog 31 [.cell (.val (tfv bp bo))] (Tin l b bp bo) (fun K => K (.tup [.row [.val (.int .i64 0), .val (.int .i64 0)], Bl false]) Hout) := by
  obtain ⟨hx, hy, hz, rfl⟩ := hO
  refine con_introD Tryz.func31 rfl rfl (Nat.le_of_ble_eq_true rfl) (fun c hc => R_ (o_ r_ (bl_ r_ r_ (fun bl => o_ r_ (bl_ r_ r_ (fun bl => T_ (R_ (o_ r_ (ow_makeFunc r_ ?_)))))))))
  rename_i b1
  refine jl_defer rfl (jld_nil (jq_thenD (jcd_seq (jcd_region (jld_op (bd_ rfl (jld_op (cx_ (cs := [Ptr _, Ptr _]) [2, 2, 2] rfl rfl (fun _ _ => ⟨_, _, rfl, ⟨rfl, rfl⟩, _, _, rfl, ⟨rfl, rfl⟩, rfl⟩) rfl con (jld_nil (jq_thenD (jcd_seq (jcd_region (jld_op (bu_ rfl rfl rfl rfl rfl ?_) (nb rfl) (fun _ _ _ _ _ => nd_build))))))) (nb rfl) (nd_callv rfl))) (nb rfl) (fun _ _ _ _ _ => nd_move))))))
  exact jld_op0 (bk_ 4 rfl rfl rfl rfl rfl rfl (jld_op0 (ca_ 4 rfl rfl rfl rfl (nb rfl) (jld_nil (jq_thenD (jcd_ret (jqd_ret (ss := [Ptr b1, Ptr bl]) [] rfl (fun _ _ => ⟨_, _, rfl, ⟨rfl, rfl⟩, _, _, rfl, ⟨rfl, rfl⟩, rfl⟩) (try1_idle b1 bl) (jq_retRowC rfl rfl rfl rfl rfl rfl 1 0 rfl rfl (fun K h => h) (bc_ 2 r_ (bc_ 2 r_ (bc_ 2 r_ sub_end))))))))) (fun _ _ _ _ _ => nd_store))) (fun _ _ _ _ _ => nd_store)
theorem try_pan {l : List Tok} {b bp bo : Nat} {n code : Int} (con : Pan Tryz.prog 32 [Ptr bp, Ptr bo] (Tin l b bp bo) (.iface 95 (.agg #[.int .i64 n, .int .i64 code]))) :
    Con Tryz.prog 31 [.cell (.val (tfv bp bo))] (Tin l b bp bo) (fun K => K (.tup [.row [.val (.int .i64 n), .val (.int .i64 code)], Bl true]) []) := by
  refine con_introD Tryz.func31 rfl rfl (Nat.le_of_ble_eq_true rfl) (fun c hc => R_ (o_ r_ (bl_ r_ r_ (fun bl => o_ r_ (bl_ r_ r_ (fun bl => T_ (R_ (o_ r_ (ow_makeFunc r_ ?_)))))))))
  rename_i b1
  refine jl_defer rfl (jld_nil (jq_thenD (jcd_seq (jcd_region (jld_op (bd_ rfl (jld_pan (ss := [Ptr b1, Ptr bl]) (cs := [Ptr _, Ptr _]) (is := [2, 2, 2]) (is' := [1, 0]) rfl (fun _ _ => ⟨_, _, rfl, ⟨rfl, rfl⟩, _, _, rfl, ⟨rfl, rfl⟩, rfl⟩) rfl con rfl rfl (fun _ _ => ⟨_, _, rfl, ⟨rfl, rfl⟩, _, _, rfl, ⟨rfl, rfl⟩, rfl⟩) (try1_pan b1 bl n code) (fun _ _ => rfl) ?_)) (nb rfl) (fun _ _ _ _ _ => nd_move))))))
  exact jq_retRowC rfl rfl rfl rfl rfl rfl 0 1 rfl rfl (fun K h => h) sub_end
end Go.Proofs.YtlniadfidfmckaaGreatDoor
end

section
namespace Go.Proofs.YtlniadfidfmckaaGreatDoor
open Go.Vc
set_option maxHeartbeats 4000000

def pgB (l : List Tok) (r : List ByteArray) (s : List Shd) (b : Nat) : R Pg := (tasksL l (l.length + 1) b []).bind fun t b => .ok ⟨r, s, t⟩ b
def pgA (l : List Tok) (r : List ByteArray) (b : Nat) : R Pg := (lpG l Kshared (shG l) (l.length + 1) b []).bind fun s b => pgB l r s b
theorem progG_eq (l : List Tok) : progG l = (lpG l Kresource (nmG l) (l.length + 1) 0 []).bind fun r b => pgA l r b := rfl
theorem tasksL_stop {l : List Tok} {a : Nat} (h : ¬ a < l.length) (n : Nat) (acc : List Tk) : tasksL l n a acc = .ok acc a := by
  cases n with
  | zero => rw [tasksL]
  | succ n => rw [tasksL, if_neg h]
theorem tasksL_go {β : Type} {l : List Tok} {a n : Nat} (h : a < l.length) (hn : l.length - a ≤ n) (acc : List Tk) (K : List Tk → Nat → R β) : (tasksL l n a acc).bind K = (wdG l Ktask a).bind fun _ b => (taskG l b).bind fun t c => (tasksL l (n - 1) c (acc ++ [t])).bind K := by
  obtain ⟨n, rfl⟩ : ∃ m, n = m + 1 := ⟨n - 1, by omega⟩
  rw [tasksL, if_pos h]
  simp only [R.bind_assoc]
  rfl
abbrev PgS (p : Pg) : S := .row p.row
theorem scanGo_len (s : ByteArray) : ∀ (m k : Nat) (line : Int) (out : List Tok), s.size - k ≤ m → (scanGo s k line out).1.length ≤ out.length + m
  | 0, k, line, out, h => by
    rw [scanGo, dif_neg (by omega)]
    exact Nat.le_refl _
  | m + 1, k, line, out, h => by
    rw [scanGo]
    split
    · split
      · have := scanGo_len s m (k + 1) (line + 1) out (by omega); omega
      · split
        · have := scanGo_len s m (k + 1) line out (by omega); omega
        · split
          · exact Nat.zero_le _
          · rename_i hn
            refine Nat.le_trans (scanGo_len s m _ _ _ (by omega)) ?_
            simp only [List.length_append, List.length_singleton]
            omega
    · exact Nat.le_add_right _ _
theorem scan_len (s : ByteArray) : (scan s).1.length ≤ 1000000 := by
  unfold scan
  split
  · exact Nat.zero_le _
  · have := scanGo_len s s.size 0 1 [] (by omega)
    simp only [List.length_nil] at this
    omega
def PRow : Option Pg → List C
  | none => Zp
  | some p => p.row
end Go.Proofs.YtlniadfidfmckaaGreatDoor
end

section
namespace Go.Proofs.YtlniadfidfmckaaGreatDoor
open Go.Vc
set_option maxHeartbeats 4000000

attribute [local irreducible] JL JC JQ OpWp Con ConN Pan ConE OpPan HP HT HOk hasW idxW isA isNum isNm numAt txtAt lineAt opAt lx lpx sx sxp exG startA stmtG stmtsL blkG wdG nmG nuG nbG lpG dcG stG taskG tasksL pgA pgB
section
variable {l : List Tok} (hl : l.length ≤ 1000000)
include hl
theorem pprog_p (hN : NmOk l) {b : Nat} : ConE Tryz.prog 33 [Ptr b] [Pz b l 0] (finR l b PgS (progG l)) := by
  have eL : (l.map Tok.row).length = l.length := List.length_map _
  refine con_introE Tryz.func33 rfl rfl (Nat.le_of_ble_eq_true rfl) (fun c hc => ?_)
  generalize hfin : finR l b PgS (progG l) = fin0
  have e := hfin.symm
  clear hfin
  rw [progG_eq] at e
  refine R_ (o_ r_ (bl_ r_ r_ (fun bl => T_ (R_ (o_ r_ (bl_ r_ r_ (fun bl => T_ (B_ ?_))))))))
  rename_i bR
  revert bl
  intro bT
  refine jc_ownNil 9 1 g_ ?_
  refine jc_loopS (ι := List ByteArray × Nat × Nat × Value) [] (fun i => i.2.1 ≤ l.length ∧ l.length - i.2.1 ≤ i.2.2.1 ∧ i.1.length ≤ i.2.1 ∧ fin0 = finR l b PgS ((lpG l Kresource (nmG l) i.2.2.1 i.2.1 i.1).bind fun x b => pgA l x b))
    (fun i => [(0, Ptr b), (2, Ptr bR), (3, Ptr bT)]) (fun i => [Pz b l i.2.1, .blk bR 31 Zp, .blk bT 31 [.val i.2.2.2, .val (.slice none 0 0), .val (.slice none 0 0)], .own i.2.2.2 9 1 (i.1.map Wrow)]) (fun i => l.length - i.2.1) ([], 0, l.length + 1, .slice none 0 0) ⟨Nat.zero_le _, by dsimp only; omega, Nat.zero_le _, e⟩ ?_ ?_ ?_
  · exact bc_ 3 r_ (bc_ 2 r_ (bc_ 1 r_ (bc_ 0 r_ sub_end)))
  · (repeat (first | exact True.intro | refine ⟨rfl, ?_⟩))
  clear e
  rintro ⟨l0, c, n0, v0⟩ ⟨i2, hn, hacc, e⟩
  dsimp only at i2 hn hacc e ⊢
  refine jc_reset [(0, Ptr b), (2, Ptr bR), (3, Ptr bT)] [Pz b l c, .blk bR 31 Zp, .blk bT 31 [.val v0, .val (.slice none 0 0), .val (.slice none 0 0)], .own v0 9 1 (l0.map Wrow)] ?_ ⟨[0, 0, 0, 0], [], rfl⟩ ?_
  · (repeat (first | exact True.intro | refine ⟨rfl, ?_⟩))
  cases h : isA l c Kresource with
  | true =>
    have hlt := isA_lt h
    rw [lpG_go h hn] at e
    refine am_ (R_ (M_ r_ (o_ r_ (bi_ [0] r_ r_ (has_y hl i2 h) (T_ (aq_ r_ r_ (as_ (al_ (au_ (jc_hpV 6 (n := 8) rfl 2 [v0, .slice none 0 0, .slice none 0 0] k_ rfl rfl (df_ (i := 0) rfl k_ k_ k_ b_ (by (repeat (first | refine pani_then ?_ | refine pani_block ?_)); exact pani_body) (dl_ rfl rfl rfl b_) ?_)))))))))))
    refine df_ (i := 1) rfl k_ k_ k_ b_ (by (repeat (first | refine pani_then ?_ | refine pani_block ?_)); exact pani_body) (dm_ 2 rfl rfl rfl mem0 rfl) ?_
    refine df_ (i := 2) rfl k_ k_ k_ b_ (by (repeat (first | refine pani_then ?_ | refine pani_block ?_)); exact pani_body) (dk_ rfl) ?_
    refine hp_bindE (i := 3) rfl k_ (nb rfl) [0] rfl rfl (pname_p (a := c + 1) hl g_) e (fun v hv => by (repeat (first | refine pq_then ?_ | refine pq_block ?_)); exact pq_fin hv) ?_
    clear e
    intro s c20 k20 g20 e
    refine ⟨?_, ?_⟩
    exact keep1 2 rfl
    refine dg_ (i := 4) r_ k_ b_ (bq_ r_ r_ b_ r_ r_ b_ ⟨?_, ?_⟩)
    exact keep1 2 rfl
    refine dg_ (i := 5) rfl k_ b_ (ow_apR 3 (s : ByteArray) (f := Wrow) rfl rfl rfl rfl rfl rfl rfl (fun _ => rfl) g_ b_ (fun v2 hv2 => ⟨?_, ?_⟩))
    exact keep1 3 rfl
    refine df_ (i := 6) rfl k_ k_ k_ b_ (by (repeat (first | refine pani_then ?_ | refine pani_block ?_)); exact pani_body) (dl_ rfl rfl rfl b_) ?_
    refine hp_tail (dj_ (i := 7) rfl k_ (by decide) (ca_ 3 rfl rfl rfl rfl b_ (ht_done k_ (ay_ (jq_againS (i := (l0, c, n0, v0)) ((l0 ++ [s], c20, n0 - 1, v2) : List ByteArray × Nat × Nat × Value) ⟨g20.2, by dsimp only; omega, by dsimp only; simp only [List.length_append, List.length_singleton]; omega, e⟩ (by dsimp only; omega) ?_ ?_)))))
    · exact bc_ 2 r_ (bc_ 2 r_ (bc_ 0 r_ (bc_ 0 r_ sub_end)))
    · (repeat (first | exact True.intro | refine ⟨rfl, ?_⟩))
  | false =>
    rw [lpG_stop h, bind_okE] at e
    refine am_ (R_ (M_ r_ (o_ r_ (bi_ [0] r_ r_ (has_n hl i2 h) (T_ (ap_ r_ r_ (av_ (ax_ (ax_ (ba_ (al_ (B_ ?_))))))))))))
    rw [pgA] at e
    refine jc_ownNil 80 3 g_ ?_
    refine jc_loopS (ι := List Shd × Nat × Nat × Value) [] (fun i => i.2.1 ≤ l.length ∧ l.length - i.2.1 ≤ i.2.2.1 ∧ i.1.length ≤ i.2.1 ∧ fin0 = finR l b PgS ((lpG l Kshared (shG l) i.2.2.1 i.2.1 i.1).bind fun x b => pgB l l0 x b))
      (fun i => [(0, Ptr b), (2, Ptr bR), (3, Ptr bT)]) (fun i => [Pz b l i.2.1, .blk bR 31 Zp, .blk bT 31 [.val v0, .val i.2.2.2, .val (.slice none 0 0)], .own i.2.2.2 80 3 (i.1.map ShRow), .own v0 9 1 (l0.map Wrow)]) (fun i => l.length - i.2.1) ([], c, l.length + 1, .slice none 0 0) ⟨i2, by dsimp only; omega, Nat.zero_le _, e⟩ ?_ ?_ ?_
    · exact bc_ 1 r_ (bc_ 1 r_ (bc_ 1 r_ (bc_ 0 r_ (bc_ 0 r_ sub_end))))
    · (repeat (first | exact True.intro | refine ⟨rfl, ?_⟩))
    clear e
    rintro ⟨l1, c1, n1, v1⟩ ⟨j2, hn1, hacc1, e⟩
    dsimp only at j2 hn1 hacc1 e ⊢
    refine jc_reset [(0, Ptr b), (2, Ptr bR), (3, Ptr bT)] [Pz b l c1, .blk bR 31 Zp, .blk bT 31 [.val v0, .val v1, .val (.slice none 0 0)], .own v1 80 3 (l1.map ShRow), .own v0 9 1 (l0.map Wrow)] ?_ ⟨[0, 0, 0, 0, 0], [], rfl⟩ ?_
    · (repeat (first | exact True.intro | refine ⟨rfl, ?_⟩))
    cases h : isA l c1 Kshared with
    | true =>
      have hlt := isA_lt h
      rw [lpG_go h hn1] at e
      simp only [shG, R.bind_assoc, bind_okE] at e
      refine am_ (R_ (M_ r_ (o_ r_ (bi_ [0] r_ r_ (has_y hl j2 h) (T_ (aq_ r_ r_ (as_ (al_ (au_ (jc_hpV 12 (n := 14) rfl 2 [v0, v1, .slice none 0 0] k_ rfl rfl (df_ (i := 0) rfl k_ k_ k_ b_ (by (repeat (first | refine pani_then ?_ | refine pani_block ?_)); exact pani_body) (dl_ rfl rfl rfl b_) ?_)))))))))))
      refine df_ (i := 1) rfl k_ k_ k_ b_ (by (repeat (first | refine pani_then ?_ | refine pani_block ?_)); exact pani_body) (dm_ 2 rfl rfl rfl mem0 rfl) ?_
      refine df_ (i := 2) rfl k_ k_ k_ b_ (by (repeat (first | refine pani_then ?_ | refine pani_block ?_)); exact pani_body) (dk_ rfl) ?_
      refine df_ (i := 4) rfl k_ k_ k_ b_ (by (repeat (first | refine pani_then ?_ | refine pani_block ?_)); exact pani_body) (dk_ rfl) ?_
      refine df_ (i := 7) rfl k_ k_ k_ b_ (by (repeat (first | refine pani_then ?_ | refine pani_block ?_)); exact pani_body) (dk_ rfl) ?_
      refine hp_bindE (i := 3) rfl k_ (nb rfl) [0] rfl rfl (pname_p (a := c1 + 1) hl g_) e (fun v hv => by (repeat (first | refine pq_then ?_ | refine pq_block ?_)); exact pq_fin hv) ?_
      clear e
      intro s c20 k20 g20 e
      refine ⟨?_, ?_⟩
      exact keep1 2 rfl
      refine hp_bindE (i := 5) rfl k_ (nb rfl) [0] rfl rfl (pnum_p (a := c20) hl g_) e (fun v hv => by (repeat (first | refine pq_then ?_ | refine pq_block ?_)); exact pq_fin hv) ?_
      clear e
      intro n c21 k21 g21 e
      refine ⟨?_, ?_⟩
      exact keep1 2 rfl
      refine df_ (i := 6) rfl k_ k_ k_ b_ (by (repeat (first | refine pani_then ?_ | refine pani_block ?_)); exact pani_body) (hok_build rfl rfl rfl rfl rfl) ?_
      refine hp_bindE (i := 8) rfl k_ (nb rfl) [0] rfl rfl (pname_p (a := c21) hl g_) e (fun v hv => by (repeat (first | refine pq_then ?_ | refine pq_block ?_)); exact pq_fin hv) ?_
      clear e
      intro r c22 k22 g22 e
      refine ⟨?_, ?_⟩
      exact keep1 2 rfl
      refine df_ (i := 9) rfl k_ k_ k_ b_ (by (repeat (first | refine pani_then ?_ | refine pani_block ?_)); exact pani_body) (hok_build rfl rfl rfl rfl rfl) ?_
      refine dg_ (i := 10) r_ k_ b_ (bq_ r_ r_ b_ r_ r_ b_ ⟨?_, ?_⟩)
      exact keep1 2 rfl
      refine dg_ (i := 11) rfl k_ b_ (ow_apR 3 ((s, n, r) : Shd) (f := ShRow) rfl rfl rfl rfl rfl rfl rfl (fun _ => rfl) g_ b_ (fun v2 hv2 => ⟨?_, ?_⟩))
      exact keep1 3 rfl
      refine df_ (i := 12) rfl k_ k_ k_ b_ (by (repeat (first | refine pani_then ?_ | refine pani_block ?_)); exact pani_body) (dl_ rfl rfl rfl b_) ?_
      refine hp_tail (dj_ (i := 13) rfl k_ (by decide) (ca_ 3 rfl rfl rfl rfl b_ (ht_done k_ (ay_ (jq_againS (i := (l1, c1, n1, v1)) ((l1 ++ [(s, n, r)], c22, n1 - 1, v2) : List Shd × Nat × Nat × Value) ⟨g22.2, by dsimp only; omega, by dsimp only; simp only [List.length_append, List.length_singleton]; omega, e⟩ (by dsimp only; omega) ?_ ?_)))))
      · exact bc_ 2 r_ (bc_ 2 r_ (bc_ 0 r_ (bc_ 0 r_ (bc_ 0 r_ sub_end))))
      · (repeat (first | exact True.intro | refine ⟨rfl, ?_⟩))
    | false =>
      rw [lpG_stop h, bind_okE] at e
      refine am_ (R_ (M_ r_ (o_ r_ (bi_ [0] r_ r_ (has_n hl j2 h) (T_ (ap_ r_ r_ (av_ (ax_ (ax_ (ba_ (al_ (B_ ?_))))))))))))
      rw [pgB] at e
      refine jc_ownNil 41 11 g_ ?_
      refine jc_loopS (ι := List Tk × Nat × Nat × Value) [] (fun i => i.2.1 ≤ l.length ∧ l.length - i.2.1 ≤ i.2.2.1 ∧ i.1.length ≤ i.2.1 ∧ fin0 = finR l b PgS ((tasksL l i.2.2.1 i.2.1 i.1).bind fun x b => .ok ⟨l0, l1, x⟩ b))
        (fun i => [(0, Ptr b), (2, Ptr bR), (3, Ptr bT)]) (fun i => [Pz b l i.2.1, .blk bR 31 Zp, .blk bT 31 [.val v0, .val v1, .val i.2.2.2], .own i.2.2.2 41 11 (i.1.map Tk.row), .own v1 80 3 (l1.map ShRow), .own v0 9 1 (l0.map Wrow)]) (fun i => l.length - i.2.1) ([], c1, l.length + 1, .slice none 0 0) ⟨j2, by dsimp only; omega, Nat.zero_le _, e⟩ ?_ ?_ ?_
      · exact bc_ 1 r_ (bc_ 1 r_ (bc_ 1 r_ (bc_ 0 r_ (bc_ 0 r_ (bc_ 0 r_ sub_end)))))
      · (repeat (first | exact True.intro | refine ⟨rfl, ?_⟩))
      clear e
      rintro ⟨l2, c2, n2, v2⟩ ⟨k2, hn2, hacc2, e⟩
      dsimp only at k2 hn2 hacc2 e ⊢
      refine jc_reset [(0, Ptr b), (2, Ptr bR), (3, Ptr bT)] [Pz b l c2, .blk bR 31 Zp, .blk bT 31 [.val v0, .val v1, .val v2], .own v2 41 11 (l2.map Tk.row), .own v1 80 3 (l1.map ShRow), .own v0 9 1 (l0.map Wrow)] ?_ ⟨[0, 0, 0, 0, 0, 0], [], rfl⟩ ?_
      · (repeat (first | exact True.intro | refine ⟨rfl, ?_⟩))
      by_cases h : c2 < l.length
      · rw [tasksL_go h hn2] at e
        refine am_ (am_ (ao_ r_ r_ k_ k_ (yM_ r_ (yN_ r_ (yF_ r_ (yL_ 0 r_ (yM_ r_ (yN_ r_ (yF_ r_ (yL_ 0 r_ (aa_ (fun c => br_ r_ (fun hlen => p_)) (aa_ (fun c => bw_ r_ r_ p_) (ae_ (al_ (aq_ r_ t_ ?_)))))))))))))))
        refine as_ (al_ (au_ (R_ (M_ r_ (jl_bindE [0] rfl rfl (pword_p hl k2 Ktask) e (fun v hv => by (repeat (first | refine pq_then ?_ | refine pq_block ?_)); exact pq_fin hv) (nb rfl) ?_)))))
        clear e
        intro u c20 q20 g20 e
        refine T_ (jc_hpV 6 (n := 8) rfl 2 [v0, v1, v2] k_ rfl rfl (df_ (i := 0) rfl k_ k_ k_ b_ (by (repeat (first | refine pani_then ?_ | refine pani_block ?_)); exact pani_body) (dl_ rfl rfl rfl b_) ?_))
        refine df_ (i := 1) rfl k_ k_ k_ b_ (by (repeat (first | refine pani_then ?_ | refine pani_block ?_)); exact pani_body) (dm_ 2 rfl rfl rfl mem0 rfl) ?_
        refine df_ (i := 2) rfl k_ k_ k_ b_ (by (repeat (first | refine pani_then ?_ | refine pani_block ?_)); exact pani_body) (dk_ rfl) ?_
        refine hp_bindE (i := 3) rfl k_ (nb rfl) [0] rfl rfl (ptask_p hl hN (a := c20) g_) e (fun v hv => by (repeat (first | refine pq_then ?_ | refine pq_block ?_)); exact pq_fin hv) ?_
        clear e
        intro t c21 q21 g21 e
        refine ⟨?_, ?_⟩
        exact keep1 2 rfl
        refine dg_ (i := 4) r_ k_ b_ (bq_ r_ r_ b_ r_ r_ b_ ⟨?_, ?_⟩)
        exact keep1 2 rfl
        refine dg_ (i := 5) rfl k_ b_ (ow_apR 3 (t : Tk) (f := Tk.row) rfl rfl rfl rfl rfl rfl rfl (fun _ => rfl) g_ b_ (fun v3 hv3 => ⟨?_, ?_⟩))
        exact keep1 3 rfl
        refine df_ (i := 6) rfl k_ k_ k_ b_ (by (repeat (first | refine pani_then ?_ | refine pani_block ?_)); exact pani_body) (dl_ rfl rfl rfl b_) ?_
        refine hp_tail (dj_ (i := 7) rfl k_ (by decide) (ca_ 3 rfl rfl rfl rfl b_ (ht_done k_ (ay_ (jq_againS (i := (l2, c2, n2, v2)) ((l2 ++ [t], c21, n2 - 1, v3) : List Tk × Nat × Nat × Value) ⟨g21.2, by dsimp only; omega, by dsimp only; simp only [List.length_append, List.length_singleton]; omega, e⟩ (by dsimp only; omega) ?_ ?_)))))
        · exact bc_ 2 r_ (bc_ 2 r_ (bc_ 0 r_ (bc_ 0 r_ (bc_ 0 r_ (bc_ 0 r_ sub_end)))))
        · (repeat (first | exact True.intro | refine ⟨rfl, ?_⟩))
      · rw [tasksL_stop h, bind_okE] at e
        refine am_ (am_ (ao_ r_ r_ k_ k_ (yM_ r_ (yN_ r_ (yF_ r_ (yL_ 0 r_ (yM_ r_ (yN_ r_ (yF_ r_ (yL_ 0 r_ (aa_ (fun c => br_ r_ (fun hlen => p_)) (aa_ (fun c => bw_ r_ r_ p_) (ae_ (al_ (ap_ r_ v_ ?_)))))))))))))))
        refine av_ ?_; refine ax_ ?_; refine ax_ ?_; refine ba_ ?_; refine al_ ?_; refine R_ ?_; refine A_ 2 r_ ?_; refine S_ 1 r_ ?_; refine T_ ?_; refine ar_ ?_; refine jq_freezeBi 5 0 0 rfl rfl rfl (by rw [hc]; simp [hb, Ch.bs]) ?_; refine jq_freezeBi 4 0 1 rfl rfl rfl (by rw [hc]; simp [hb, Ch.bs]) ?_; refine jq_freezeBi 3 0 2 rfl rfl rfl (by rw [hc]; simp [hb, Ch.bs]) ?_; refine jq_fin e ?_; refine jq_retRowS rfl rfl rfl rfl 0 rfl (fun K h => h) ?_; refine bc_ 1 r_ ?_; exact sub_end
theorem program1_ok (hN : NmOk l) {b bp bo : Nat} {p : Pg} {c : Nat} (h : progG l = .ok p c) : Con Tryz.prog 32 [Ptr bp, Ptr bo] (Tin l b bp bo) (fun K => K (.tup []) [.blk bp 91 [.val (.pointer (some ⟨b, 0, none⟩))], .blk bo 31 p.row, Pz b l c]) := by
  have con := pprog_p hl hN (b := b)
  rw [h] at con
  have con := finR_con con
  refine con_intro Tryz.func32 rfl rfl (Nat.le_of_ble_eq_true rfl) (fun c hc => an_ (L_ 0 r_ (o_ r_ (bi_ [2] r_ r_ (con) (S_ 2 r_ (ak_ (jq_ret0 (.inr rfl) rfl [2, 0, 0] rfl (fun K h => h))))))))
theorem program1_er (hN : NmOk l) {b bp bo : Nat} {code : Int} {q : Nat} (h : progG l = .er code q) : Pan Tryz.prog 32 [Ptr bp, Ptr bo] (Tin l b bp bo) (stopV l code q) := by
  have con := pprog_p hl hN (b := b)
  rw [h] at con
  have con := finR_pan con
  refine pan_intro Tryz.func32 rfl rfl (Nat.le_of_ble_eq_true rfl) (fun c hc => an_ (L_ 0 r_ ?_))
  exact jl_pan (op_pan [2] rfl rfl (con)) (by (repeat (first | refine pq_then ?_ | refine pq_block ?_)); exact pq_fin (by first | rfl | assumption))
end
end Go.Proofs.YtlniadfidfmckaaGreatDoor
end

section
namespace Go.Proofs.YtlniadfidfmckaaGreatDoor
open Go.Vc
set_option maxHeartbeats 4000000
attribute [local irreducible] JL JC JQ OpWp Con ConN Pan ConE OpPan HP HT HOk hasW idxW isA isNum isNm numAt txtAt lineAt opAt lx lpx sx sxp exG startA stmtG stmtsL blkG wdG nmG nuG nbG lpG dcG stG taskG tasksL progG scan

theorem Program_c (s : ByteArray) : Con Tryz.prog 15 [Str s] [] (fun K => K (.tup [.row (PRow (parseF s).1), In .i64 (parseF s).2.1, In .i64 (parseF s).2.2]) []) := by
  have hl := scan_len s
  have hN := scan_nm s
  refine con_intro Tryz.func15 rfl rfl (Nat.le_of_ble_eq_true rfl) (fun c hc => ?_)
  by_cases he : (scan s).2.2 = 0
  · have he2 : ¬ ¬ (scan s).2.2 = 0 := fun h => h he
    cases hp : progG (scan s).1 with
    | ok p c =>
      have e : parseF s = (some p, 0, 0) := by unfold parseF; rw [if_pos he, hp]
      have con := fun b bp bo => try_ret (program1_ok (b := b) (bp := bp) (bo := bo) hl hN hp) ⟨_, _, _, rfl⟩
      refine R_ (o_ r_ (bl_ r_ r_ (fun bl => E_ r_ (E_ r_ (T_ (R_ (M_ r_ (o_ r_ (bm_ r_ (Scan_c s) (M_ r_ (X_ r_ (X_ r_ (X_ r_ (E_ r_ (E_ r_ (E_ r_ (T_ ?_)))))))))))))))))
      refine am_ (R_ (M_ r_ (o_ r_ (bx_ r_ r_ (T_ (ap_ r_ w_ (as_ (al_ (R_ (M_ r_ (o_ r_ (bu_ r_ r_ r_ r_ r_ (o_ r_ (ci_ r_ (fun bx => o_ r_ (bl_ r_ r_ (fun bl => W_ 0 r_ (T_ (R_ ?_)))))))))))))))))))
      refine o_ r_ (bl_ r_ r_ (fun bl => T_ (am_ (R_ (o_ r_ (ow_makeFunc r_ (o_ r_ (bi_ [1, 0, 0] r_ r_ (con _ _ _) (M_ r_ (X_ r_ (X_ r_ (o_ r_ (bl_ r_ r_ (fun bl => S_ 0 r_ (E_ r_ (T_ (R_ (M_ r_ (T_ ?_)))))))))))))))))))
      exact ap_ r_ r_ (as_ (al_ (R_ (A_ 2 r_ (S_ 4 r_ (E_ r_ (E_ r_ (T_ (ar_ (jq_retRow2 rfl rfl rfl rfl rfl rfl 0 rfl (fun K h => by rw [e] at h; exact h) sub_end))))))))))
    | er code q =>
      have e : parseF s = (none, lineAt (scan s).1 q, code) := by unfold parseF; rw [if_pos he, hp]
      have con := fun b bp bo => try_pan (program1_er (b := b) (bp := bp) (bo := bo) hl hN hp)
      refine R_ (o_ r_ (bl_ r_ r_ (fun bl => E_ r_ (E_ r_ (T_ (R_ (M_ r_ (o_ r_ (bm_ r_ (Scan_c s) (M_ r_ (X_ r_ (X_ r_ (X_ r_ (E_ r_ (E_ r_ (E_ r_ (T_ ?_)))))))))))))))))
      refine am_ (R_ (M_ r_ (o_ r_ (bx_ r_ r_ (T_ (ap_ r_ w_ (as_ (al_ (R_ (M_ r_ (o_ r_ (bu_ r_ r_ r_ r_ r_ (o_ r_ (ci_ r_ (fun bx => o_ r_ (bl_ r_ r_ (fun bl => W_ 0 r_ (T_ (R_ ?_)))))))))))))))))))
      refine o_ r_ (bl_ r_ r_ (fun bl => T_ (am_ (R_ (o_ r_ (ow_makeFunc r_ (o_ r_ (bi_ [1, 0, 0] r_ r_ (con _ _ _) (M_ r_ (X_ r_ (X_ r_ (o_ r_ (bl_ r_ r_ (fun bl => S_ 0 r_ (E_ r_ (T_ (R_ (M_ r_ (T_ ?_)))))))))))))))))))
      refine aq_ r_ r_ (am_ (jc_hp1 7 (n := 8) rfl 0 k_ rfl (fun cs1 hcs1 => ?_)))
      obtain ⟨u10, u11, rfl⟩ := len2 hcs1
      refine df_ (i := 0) rfl k_ k_ k_ b_ (by (repeat (first | refine pani_then ?_ | refine pani_block ?_)); exact pani_body) (hok_build rfl rfl rfl rfl rfl) ?_
      refine df_ (i := 1) rfl k_ k_ k_ b_ (by (repeat (first | refine pani_then ?_ | refine pani_block ?_)); exact pani_body) (dl_ rfl rfl rfl b_) ?_
      refine df_ (i := 2) rfl k_ k_ k_ b_ (by (repeat (first | refine pani_then ?_ | refine pani_block ?_)); exact pani_body) (dm_ 0 rfl rfl rfl mem0 rfl) ?_
      refine df_ (i := 3) rfl k_ k_ k_ b_ (by (repeat (first | refine pani_then ?_ | refine pani_block ?_)); exact pani_body) (dl_ rfl rfl rfl b_) ?_
      refine df_ (i := 4) rfl k_ k_ k_ b_ (by (repeat (first | refine pani_then ?_ | refine pani_block ?_)); exact pani_body) (dm_ 0 rfl rfl rfl mem0 rfl) ?_
      refine hp_exact 0 rfl mem0 (dh_ (i := 5) r_ k_ (bk_ 1 r_ r_ r_ r_ r_ r_ ⟨?_, ?_⟩))
      exact keep1 1 rfl
      refine dg_ (i := 6) r_ k_ b_ (be_ r_ ⟨?_, ?_⟩)
      exact keep1 1 rfl
      exact hp_tail (di_ (i := 7) rfl k_ b_ (by decide) (be_ rfl (ht_done k_ (al_ (ar_ (aw_ (jq_retRow2 rfl rfl rfl rfl rfl rfl 0 rfl (fun K h => by rw [e] at h; exact h) sub_end)))))))
  · have e : parseF s = (none, (scan s).2.1, (scan s).2.2) := by unfold parseF; rw [if_neg he]
    refine R_ (o_ r_ (bl_ r_ r_ (fun bl => E_ r_ (E_ r_ (T_ (R_ (M_ r_ (o_ r_ (bm_ r_ (Scan_c s) (M_ r_ (X_ r_ (X_ r_ (X_ r_ (E_ r_ (E_ r_ (E_ r_ (T_ ?_)))))))))))))))))
    refine am_ (R_ (M_ r_ (o_ r_ (bx_ r_ r_ (T_ (aq_ r_ u_ (R_ (o_ r_ (bu_ r_ r_ r_ r_ r_ (M_ r_ (M_ r_ (S_ 0 r_ (E_ r_ (E_ r_ (T_ (ar_ (aw_ ?_)))))))))))))))))
    exact jq_retRow2 rfl rfl rfl rfl rfl rfl 0 rfl (fun K h => by rw [e] at h; exact h) sub_end
end Go.Proofs.YtlniadfidfmckaaGreatDoor
end

section
namespace Go.Proofs.YtlniadfidfmckaaGreatDoor
open Go.Vc
attribute [local irreducible] JL JC JQ OpWp Con ConN Pan ConE OpPan HP HT HOk hasW idxW isA isNum isNm numAt txtAt lineAt opAt lx lpx sx sxp
set_option maxHeartbeats 4000000

abbrev Brow (n : Int) : List C := [.val (.int .u8 n)]
theorem SameAll_c (A : List T) (hS : ∀ (i : Nat) (h : i < A.length), Con Tryz.prog 119 [.row A[i].row', .row A[i].row'] [] (fun K => K (Bl true) [])) : Con Tryz.prog 99 [.cell (.list (A.map T.row)), .cell (.list (A.map T.row))] [] (fun K => K (Bl true) []) := by
  have eL : (A.map T.row).length = A.length := List.length_map _
  refine con_intro Tryz.func99 rfl rfl (Nat.le_of_ble_eq_true rfl) (fun c hc => ?_)
  have hne : ¬ ¬ ((A.map T.row).length : Int) = ((A.map T.row).length : Int) := fun h => h rfl
  refine R_ (E_ r_ (T_ (am_ (R_ (M_ r_ (o_ r_ (br_ r_ (fun hlen => M_ r_ (o_ r_ (br_ r_ (fun hlen => o_ r_ (bx_ r_ r_ (T_ (ap_ r_ w_ (as_ (al_ (am_ (R_ ?_))))))))))))))))))
  refine E_ r_ (T_ (au_ (jc_loopS [] (fun k : Nat => k ≤ A.length) (fun k => [(0, .cell (.list (A.map T.row))), (1, .cell (.list (A.map T.row))), (5, In .i64 (k : Int))]) (fun _ => []) (fun k => A.length - k) 0 (Nat.zero_le _) ?_ ?_ ?_)))
  · exact sub_end
  · (repeat (first | exact True.intro | refine ⟨rfl, ?_⟩))
  · intro k hk
    refine jc_reset [(0, .cell (.list (A.map T.row))), (1, .cell (.list (A.map T.row))), (5, In .i64 (k : Int))] [] ?_ ⟨[], [], rfl⟩ ?_
    · (repeat (first | exact True.intro | refine ⟨rfl, ?_⟩))
    by_cases hlt : k < A.length
    · have hC := hS k hlt
      refine am_ (R_ (M_ r_ (M_ r_ (o_ r_ (br_ r_ (fun hlen => o_ r_ (bw_ r_ r_ (T_ (aq_ r_ t_ (as_ (al_ (B_ (am_ (ao_ r_ r_ k_ k_ (yM_ r_ (yM_ r_ (aa_ (fun c => cc_ r_ r_ g_ (T.row_eq _) r_ b_ p_) ?_)))))))))))))))))
      refine aa_ (fun c => cr_ r_ r_ r_ p_) (yM_ r_ (yM_ r_ (aa_ (fun c => cc_ r_ r_ g_ (T.row_eq _) r_ b_ p_) (aa_ (fun c => cr_ r_ r_ r_ p_) (aa_ (fun c => bm_ r_ (hC) p_) (aa_ (fun c => cd_ r_ p_) (ae_ (al_ (ap_ r_ r_ (as_ (ay_ (al_ (an_ (M_ r_ (o_ r_ (bj_ r_ r_ g_ ?_))))))))))))))))
      refine E_ r_ (ak_ (jq_againS (k + 1) g_ g_ ?_ ?_))
      · exact sub_end
      · (repeat (first | exact True.intro | refine ⟨rfl, ?_⟩))
    · refine am_ (R_ (M_ r_ (M_ r_ (o_ r_ (br_ r_ (fun hlen => o_ r_ (bw_ r_ r_ (T_ (ap_ r_ v_ (av_ (ax_ (ax_ (ba_ (al_ (R_ (E_ r_ (T_ ?_)))))))))))))))))
      refine ar_ (jq_ret1 rfl rfl [] rfl (fun K h => h))
theorem SameG_c (k n o : Int) (s : ByteArray) (A : List T) (hA : Con Tryz.prog 99 [.cell (.list (A.map T.row)), .cell (.list (A.map T.row))] [] (fun K => K (Bl true) [])) :
    Con Tryz.prog 119 [.row [.val (.int .i64 k), .val (.int .i64 n), .val (.string s), .val (.int .i64 o), .list (A.map T.row)], .row [.val (.int .i64 k), .val (.int .i64 n), .val (.string s), .val (.int .i64 o), .list (A.map T.row)]] [] (fun K => K (Bl true) []) := by
  have h1 : ¬ ¬ k = k := fun h => h rfl
  have h2 : ¬ ¬ n = n := fun h => h rfl
  have h3 : ¬ ¬ s = s := fun h => h rfl
  have h4 : ¬ ¬ o = o := fun h => h rfl
  refine con_intro Tryz.func119 rfl rfl (Nat.le_of_ble_eq_true rfl) (fun c hc => R_ (o_ r_ (ci_ r_ (fun bx => o_ r_ (ci_ r_ (fun bx => E_ r_ (T_ (am_ (R_ (F_ r_ (L_ 1 r_ (F_ r_ (L_ 0 r_ (o_ r_ (bx_ r_ r_ (M_ r_ (ah_ r_ w_ b_ (bf_ r_ r_ r_ b_ (ah_ r_ w_ b_ (bg_ 1 r_ r_ r_ r_ ?_))))))))))))))))))))
  refine ah_ r_ w_ b_ (bf_ r_ r_ r_ b_ (ah_ r_ w_ b_ (bg_ 0 r_ r_ r_ r_ (ah_ r_ w_ b_ (bx_ r_ r_ (o_ r_ (bv_ r_ w_ r_ (M_ r_ (ah_ r_ w_ b_ (bf_ r_ r_ r_ b_ (ah_ r_ w_ b_ (bg_ 1 r_ r_ r_ r_ (ah_ r_ w_ b_ (bf_ r_ r_ r_ b_ (ah_ r_ w_ b_ (bg_ 0 r_ r_ r_ r_ (ah_ r_ w_ b_ (ct_ r_ r_ (o_ r_ (bv_ r_ w_ r_ (M_ r_ (ah_ r_ w_ b_ (bf_ r_ r_ r_ b_ (ah_ r_ w_ b_ (bg_ 1 r_ r_ r_ r_ ?_)))))))))))))))))))))))))
  refine ah_ r_ w_ b_ (bf_ r_ r_ r_ b_ (ah_ r_ w_ b_ (bg_ 0 r_ r_ r_ r_ (ah_ r_ w_ b_ (bx_ r_ r_ (o_ r_ (bv_ r_ w_ r_ (T_ (ap_ r_ w_ (as_ (al_ (R_ (F_ r_ (L_ 1 r_ (F_ r_ (L_ 0 r_ (o_ r_ (bm_ r_ (hA) (E_ r_ (T_ ?_))))))))))))))))))))
  refine ar_ (jq_ret1 rfl rfl [] rfl (fun K h => h))
theorem SameT_c : ∀ t : T, Con Tryz.prog 119 [.row t.row', .row t.row'] [] (fun K => K (Bl true) [])
  | .nu n => SameG_c 1 n 0 ⟨#[]⟩ [] (SameAll_c [] (fun i h => absurd h (by simp)))
  | .nm s => SameG_c 2 0 0 s [] (SameAll_c [] (fun i h => absurd h (by simp)))
  | .ix s t => SameG_c 3 0 0 s [t] (SameAll_c [t] (fun i h => by
      obtain rfl : i = 0 := by simpa using h
      exact SameT_c t))
  | .bn o a b => SameG_c 4 0 o ⟨#[]⟩ [a, b] (SameAll_c [a, b] (fun i h => by
      rcases (show i = 0 ∨ i = 1 by simp at h; omega) with rfl | rfl
      · exact SameT_c a
      · exact SameT_c b))
end Go.Proofs.YtlniadfidfmckaaGreatDoor
end

section
namespace Go.Proofs.YtlniadfidfmckaaGreatDoor
open Go.Vc
attribute [local irreducible] JL JC JQ OpWp Con ConN Pan ConE OpPan HP HT HOk HQ hasW idxW isA isNum isNm numAt txtAt lineAt opAt lx lpx sx sxp
set_option maxHeartbeats 4000000

theorem SameL_c (A : List T) : Con Tryz.prog 99 [.cell (.list (A.map T.row)), .cell (.list (A.map T.row))] [] (fun K => K (Bl true) []) := SameAll_c A fun _ _ => SameT_c _
def SameSs (A : List Sm) : Prop := Con Tryz.prog 67 [.cell (.list (A.map Sm.row)), .cell (.list (A.map Sm.row))] [] (fun K => K (Bl true) [])
theorem SameSs.con {A : List Sm} (h : SameSs A) : Con Tryz.prog 67 [.cell (.list (A.map Sm.row)), .cell (.list (A.map Sm.row))] [] (fun K => K (Bl true) []) := h
theorem SameSs_step (A : List Sm) (hS : ∀ s ∈ A, SameSs s.thn ∧ SameSs s.els) : SameSs A := by
  unfold SameSs
  have eL : (A.map Sm.row).length = A.length := List.length_map _
  refine con_intro Tryz.func67 rfl rfl (Nat.le_of_ble_eq_true rfl) (fun c hc => ?_)
  have hne : ¬ ¬ ((A.map Sm.row).length : Int) = ((A.map Sm.row).length : Int) := fun h => h rfl
  refine R_ (E_ r_ (T_ (am_ (R_ (M_ r_ (o_ r_ (br_ r_ (fun hlen => M_ r_ (o_ r_ (br_ r_ (fun hlen => o_ r_ (bx_ r_ r_ (T_ (ap_ r_ w_ (as_ (al_ (am_ (R_ ?_))))))))))))))))))
  refine E_ r_ (T_ (au_ (jc_loopS [] (fun k : Nat => k ≤ A.length) (fun k => [(0, .cell (.list (A.map Sm.row))), (1, .cell (.list (A.map Sm.row))), (5, In .i64 (k : Int))]) (fun _ => []) (fun k => A.length - k) 0 (Nat.zero_le _) ?_ ?_ ?_)))
  · exact sub_end
  · (repeat (first | exact True.intro | refine ⟨rfl, ?_⟩))
  intro k hk
  refine jc_reset [(0, .cell (.list (A.map Sm.row))), (1, .cell (.list (A.map Sm.row))), (5, In .i64 (k : Int))] [] ?_ ⟨[], [], rfl⟩ ?_
  · (repeat (first | exact True.intro | refine ⟨rfl, ?_⟩))
  by_cases hlt : k < A.length
  · have hi : (A.map Sm.row)[k]? = some A[k].row' := by simp [hlt, Sm.row_eq]
    have hS1 := hS A[k] (List.getElem_mem hlt)
    have elt : k < (A.map Sm.row).length := by rw [eL]; exact hlt
    refine am_ (R_ (M_ r_ (M_ r_ (o_ r_ (br_ r_ (fun hlen => o_ r_ (bw_ r_ r_ (T_ (aq_ r_ t_ (as_ (al_ (B_ (am_ ?_)))))))))))))
    generalize A[k] = s at hi hS1
    obtain ⟨c1, c2⟩ := hS1
    have c1 := c1.con
    have c2 := c2.con
    have cI := SameL_c s.index
    have cV := SameL_c s.value
    have h1 : ¬ ¬ s.kind = s.kind := fun h => h rfl
    have h2 : ¬ ¬ s.name = s.name := fun h => h rfl
    have h3 : ¬ ¬ s.max = s.max := fun h => h rfl
    have h4 : ¬ ¬ s.label = s.label := fun h => h rfl
    refine jc_hq2 (n := 12) rfl 0 1 k k k_ rfl rfl hi hi (Nat.zero_lt_succ _) (Nat.zero_lt_succ _) (fun v1 v2 p1 p2 vs1 vs2 l1 l2 x1 x2 => ?_)
    obtain ⟨a0, a1, a2, a3, a4, a5, a6, a7, rfl⟩ := len8 l1
    obtain ⟨b0, b1, b2, b3, b4, b5, b6, b7, rfl⟩ := len8 l2
    refine hq_take (i := 0) rfl k_ k_ k_ (nb rfl) (by (repeat (first | refine pani_then ?_ | refine pani_block ?_)); exact pani_body) (dk_ rfl) ?_
    refine hq_take (i := 1) rfl k_ k_ k_ (nb rfl) (by (repeat (first | refine pani_then ?_ | refine pani_block ?_)); exact pani_body) (dk_ rfl) ?_
    refine hq_take (i := 2) rfl k_ k_ k_ (nb rfl) (by (repeat (first | refine pani_then ?_ | refine pani_block ?_)); exact pani_body) (hok_index rfl rfl g_ (Int.toNat_natCast k) elt x1 rfl) ?_
    refine hq_take (i := 3) rfl k_ k_ k_ (nb rfl) (by (repeat (first | refine pani_then ?_ | refine pani_block ?_)); exact pani_body) (hok_loadF rfl rfl (List.Mem.tail _ (List.Mem.head _)) rfl) ?_
    refine hq_take (i := 4) rfl k_ k_ k_ (nb rfl) (by (repeat (first | refine pani_then ?_ | refine pani_block ?_)); exact pani_body) (dk_ rfl) ?_
    refine hq_take (i := 5) rfl k_ k_ k_ (nb rfl) (by (repeat (first | refine pani_then ?_ | refine pani_block ?_)); exact pani_body) (dk_ rfl) ?_
    refine hq_take (i := 6) rfl k_ k_ k_ (nb rfl) (by (repeat (first | refine pani_then ?_ | refine pani_block ?_)); exact pani_body) (hok_index rfl rfl g_ (Int.toNat_natCast k) elt x2 rfl) ?_
    refine hq_take (i := 7) rfl k_ k_ k_ (nb rfl) (by (repeat (first | refine pani_then ?_ | refine pani_block ?_)); exact pani_body) (hok_loadF rfl rfl (List.Mem.tail _ (List.Mem.tail _ (List.Mem.tail _ (List.Mem.tail _ (List.Mem.head _))))) rfl) ?_
    refine hq_alloc2 (i := 8) (j := 9) rfl rfl k_ k_ k_ (nb rfl) (nb rfl) rfl rfl rfl rfl rfl rfl (fun bx by_ => hq_op (i := 10) rfl k_ k_ (bk_ 1 rfl rfl rfl rfl rfl rfl (hq_op (i := 11) rfl k_ k_ (bk_ 1 rfl rfl rfl rfl rfl rfl (hq_blk 0 (row := s.row') (vs := [b0, b1, b2, b3, b4, b5, b6, b7]) rfl (List.Mem.tail _ (List.Mem.tail _ (List.Mem.tail _ (List.Mem.tail _ (List.Mem.tail _ (List.Mem.head _)))))) ?_)))))
    refine hq_blk 1 (row := s.row') (vs := [a0, a1, a2, a3, a4, a5, a6, a7]) rfl (List.Mem.tail _ (List.Mem.tail _ (List.Mem.head _))) (hq_slot 0 (s := .cell (.list (A.map Sm.row))) rfl (List.Mem.head _) (hq_slot 1 (s := .cell (.list (A.map Sm.row))) rfl (List.Mem.tail _ (List.Mem.tail _ (List.Mem.tail _ (List.Mem.head _)))) (hq_done k_ (al_ (R_ (F_ r_ (L_ 0 r_ (F_ r_ (L_ 1 r_ (o_ r_ (bx_ r_ r_ (M_ r_ ?_))))))))))))
    refine ah_ r_ w_ b_ (bf_ r_ r_ r_ b_ (ah_ r_ w_ b_ (bg_ 0 r_ r_ r_ r_ (ah_ r_ w_ b_ (bf_ r_ r_ r_ b_ (ah_ r_ w_ b_ (bg_ 1 r_ r_ r_ r_ (ah_ r_ w_ b_ (ct_ r_ r_ (o_ r_ (bv_ r_ w_ r_ (M_ r_ (ah_ r_ w_ b_ (bf_ r_ r_ r_ b_ (ah_ r_ w_ b_ (bg_ 0 r_ r_ r_ r_ (ah_ r_ w_ b_ (bf_ r_ r_ r_ b_ (ah_ r_ w_ b_ (bg_ 1 r_ r_ r_ r_ (ah_ r_ w_ b_ (bx_ r_ r_ (o_ r_ (bv_ r_ w_ r_ (M_ r_ ?_)))))))))))))))))))))))))
    refine ah_ r_ w_ b_ (bf_ r_ r_ r_ b_ (ah_ r_ w_ b_ (bg_ 0 r_ r_ r_ r_ (ah_ r_ w_ b_ (bf_ r_ r_ r_ b_ (ah_ r_ w_ b_ (bg_ 1 r_ r_ r_ r_ (ah_ r_ w_ b_ (bx_ r_ r_ (o_ r_ (bv_ r_ w_ r_ (M_ r_ (ah_ r_ w_ b_ (bf_ r_ r_ r_ b_ (ah_ r_ w_ b_ (bg_ 0 r_ r_ r_ r_ (ah_ r_ w_ b_ (bf_ r_ r_ r_ b_ (ah_ r_ w_ b_ (bg_ 1 r_ r_ r_ r_ (ah_ r_ w_ b_ (bm_ r_ (cI) (ah_ r_ w_ b_ (cd_ r_ (o_ r_ (bv_ r_ w_ r_ (M_ r_ ?_)))))))))))))))))))))))))))
    refine ah_ r_ r_ b_ (bf_ r_ r_ r_ b_ (ah_ r_ r_ b_ (bg_ 0 r_ r_ r_ r_ (ah_ r_ r_ b_ (bf_ r_ r_ r_ b_ (ah_ r_ r_ b_ (bg_ 1 r_ r_ r_ r_ (ah_ r_ r_ b_ (bm_ r_ (cV) (ah_ r_ r_ b_ (cd_ r_ (o_ r_ (bv_ r_ r_ r_ (M_ r_ (ah_ r_ r_ b_ (bf_ r_ r_ r_ b_ (ah_ r_ r_ b_ (bg_ 0 r_ r_ r_ r_ (ah_ r_ r_ b_ (bf_ r_ r_ r_ b_ (ah_ r_ r_ b_ (bg_ 1 r_ r_ r_ r_ (ah_ r_ r_ b_ (bm_ r_ (c1) (ah_ r_ r_ b_ (cd_ r_ ?_))))))))))))))))))))))))))
    refine o_ r_ (bv_ r_ r_ r_ (M_ r_ (ah_ r_ r_ b_ (bf_ r_ r_ r_ b_ (ah_ r_ r_ b_ (bg_ 0 r_ r_ r_ r_ (ah_ r_ r_ b_ (bf_ r_ r_ r_ b_ (ah_ r_ r_ b_ (bg_ 1 r_ r_ r_ r_ (ah_ r_ r_ b_ (bm_ r_ (c2) (ah_ r_ r_ b_ (cd_ r_ (o_ r_ (bv_ r_ r_ r_ (T_ (ap_ r_ r_ (as_ (ay_ (al_ (an_ (M_ r_ ?_)))))))))))))))))))))))
    refine o_ r_ (bj_ r_ r_ g_ (E_ r_ (ak_ (jq_againS (k + 1) g_ g_ ?_ ?_))))
    · exact sub_end
    · (repeat (first | exact True.intro | refine ⟨rfl, ?_⟩))
  · refine am_ (R_ (M_ r_ (M_ r_ (o_ r_ (br_ r_ (fun hlen => o_ r_ (bw_ r_ r_ (T_ (ap_ r_ v_ (av_ (ax_ (ax_ (ba_ (al_ (R_ (E_ r_ (T_ ?_)))))))))))))))))
    refine ar_ (jq_ret1 rfl rfl [] rfl (fun K h => h))
theorem SameStmts_all : ∀ (n : Nat) (A : List Sm), SizeOf.sizeOf A ≤ n → SameSs A
  | 0, A, h => by cases A <;> simp at h
  | n + 1, A, h => SameSs_step A fun s hs => by
    have h1 := List.sizeOf_lt_of_mem hs
    have h2 : SizeOf.sizeOf s.thn < SizeOf.sizeOf s ∧ SizeOf.sizeOf s.els < SizeOf.sizeOf s := by
      cases s
      simp only [Sm.thn, Sm.els, Sm.mk.sizeOf_spec]
      omega
    exact ⟨SameStmts_all n _ g_, SameStmts_all n _ g_⟩
theorem SameStmts_c (A : List Sm) : Con Tryz.prog 67 [.cell (.list (A.map Sm.row)), .cell (.list (A.map Sm.row))] [] (fun K => K (Bl true) []) := (SameStmts_all _ A (Nat.le_refl _)).con
theorem fsok_cons {P : Program} {n : Nat} {cs : Array Value} {f : Field} {fs : List Field} {v : Value} (h1 : ∀ w, (part f.type cs f.offset).run P w = .ok v w) (h2 : EqSelf P n f.type v) (h : FsOk P n cs fs) : FsOk P n cs (f :: fs) := ⟨⟨v, h1, h2⟩, h⟩
theorem fsok_nil {P : Program} {n : Nat} {cs : Array Value} : FsOk P n cs [] := trivial
theorem eqInput (x : Inp) (n : Nat) : EqSelf Tryz.prog (n + 2) 43 (.agg ([.string (x.1), .int .i64 (x.2.1), .int .i64 (x.2.2)] : List Value).toArray) := eqself_ti rfl (by kernel_rfl) (fsok_cons (part_leaf rfl rfl) (eqself_str rfl _ _) (fsok_cons (part_leaf rfl rfl) (eqself_int rfl _ _) (fsok_cons (part_leaf rfl rfl) (eqself_int rfl _ _) (fsok_nil))))
theorem eqArray (x : Arr) (n : Nat) : EqSelf Tryz.prog (n + 2) 45 (.agg ([.string (x.1), .int .i64 (x.2)] : List Value).toArray) := eqself_ti rfl (by kernel_rfl) (fsok_cons (part_leaf rfl rfl) (eqself_str rfl _ _) (fsok_cons (part_leaf rfl rfl) (eqself_int rfl _ _) (fsok_nil)))
theorem eqMode (x : Md) (n : Nat) : EqSelf Tryz.prog (n + 2) 86 (.agg ([.string (x.1), .string (x.2.1), .int .i64 (x.2.2.1), .int .i64 (x.2.2.2)] : List Value).toArray) := eqself_ti rfl (by kernel_rfl) (fsok_cons (part_leaf rfl rfl) (eqself_str rfl _ _) (fsok_cons (part_leaf rfl rfl) (eqself_str rfl _ _) (fsok_cons (part_leaf rfl rfl) (eqself_int rfl _ _) (fsok_cons (part_leaf rfl rfl) (eqself_int rfl _ _) (fsok_nil)))))
theorem eqClaim (x : Clm) (n : Nat) : EqSelf Tryz.prog (n + 2) 47 (.agg ([.int .i64 (x.1), .int .i64 (x.2)] : List Value).toArray) := eqself_ti rfl (by kernel_rfl) (fsok_cons (part_leaf rfl rfl) (eqself_int rfl _ _) (fsok_cons (part_leaf rfl rfl) (eqself_int rfl _ _) (fsok_nil)))
theorem eqShared (x : Shd) : EqSelf Tryz.prog 10000 80 (.agg ([.string (x.1), .int .i64 (x.2.1), .string (x.2.2)] : List Value).toArray) := eqself_ti rfl (by kernel_rfl) (fsok_cons (part_agg (vs := [.string x.1, .int .i64 x.2.1]) rfl rfl) (eqArray (x.1, x.2.1) _) (fsok_cons (part_leaf rfl rfl) (eqself_str rfl _ _) fsok_nil))
theorem SameTk_c (t : Tk) : Con Tryz.prog 34 [.row t.row, .row t.row] [] (fun K => K (Bl true) []) := by
  have eLinputs : (t.inputs.map InRow).length = t.inputs.length := List.length_map _
  have hminputs : ∀ k, k < t.inputs.length → (k : Int) < (t.inputs.map InRow).length := fun k h => by omega
  have hninputs : ¬ ¬ ((t.inputs.map InRow).length : Int) = ((t.inputs.map InRow).length : Int) := fun h => h rfl
  have eLvars : (t.vars.map Wrow).length = t.vars.length := List.length_map _
  have hmvars : ∀ k, k < t.vars.length → (k : Int) < (t.vars.map Wrow).length := fun k h => by omega
  have hnvars : ¬ ¬ ((t.vars.map Wrow).length : Int) = ((t.vars.map Wrow).length : Int) := fun h => h rfl
  have eLarrays : (t.arrays.map ArRow).length = t.arrays.length := List.length_map _
  have hmarrays : ∀ k, k < t.arrays.length → (k : Int) < (t.arrays.map ArRow).length := fun k h => by omega
  have hnarrays : ¬ ¬ ((t.arrays.map ArRow).length : Int) = ((t.arrays.map ArRow).length : Int) := fun h => h rfl
  have eLmodes : (t.modes.map MdRow).length = t.modes.length := List.length_map _
  have hmmodes : ∀ k, k < t.modes.length → (k : Int) < (t.modes.map MdRow).length := fun k h => by omega
  have hnmodes : ¬ ¬ ((t.modes.map MdRow).length : Int) = ((t.modes.map MdRow).length : Int) := fun h => h rfl
  have eLclaims : (t.claims.map ClRow).length = t.claims.length := List.length_map _
  have hmclaims : ∀ k, k < t.claims.length → (k : Int) < (t.claims.map ClRow).length := fun k h => by omega
  have hnclaims : ¬ ¬ ((t.claims.map ClRow).length : Int) = ((t.claims.map ClRow).length : Int) := fun h => h rfl
  have hnname : ¬ ¬ t.name = t.name := fun h => h rfl
  have hnperiod : ¬ ¬ t.period = t.period := fun h => h rfl
  have hndeadline : ¬ ¬ t.deadline = t.deadline := fun h => h rfl
  have hnpriority : ¬ ¬ t.priority = t.priority := fun h => h rfl
  have hnjitter : ¬ ¬ t.jitter = t.jitter := fun h => h rfl
  have cS := SameStmts_c t.body
  refine con_intro Tryz.func34 rfl rfl (Nat.le_of_ble_eq_true rfl) (fun c hc => R_ (o_ r_ (ci_ r_ (fun bx => o_ r_ (ci_ r_ (fun bx => E_ r_ (T_ (am_ (am_ ?_)))))))))
  rename_i b2
  revert bx
  intro b3
  refine an_ (F_ r_ (L_ 1 r_ (F_ r_ (L_ 0 r_ (o_ r_ (ct_ r_ r_ (M_ r_ (ah_ r_ w_ b_ (bf_ r_ r_ r_ b_ (ah_ r_ w_ b_ (bg_ 1 r_ r_ r_ r_ (ah_ r_ w_ b_ (bf_ r_ r_ r_ b_ (ah_ r_ w_ b_ (bg_ 0 r_ r_ r_ r_ (ah_ r_ w_ b_ (bx_ r_ r_ (o_ r_ (bv_ r_ w_ r_ (M_ r_ (ah_ r_ w_ b_ (bf_ r_ r_ r_ b_ (ah_ r_ w_ b_ (bg_ 1 r_ r_ r_ r_ ?_))))))))))))))))))))))))
  refine ah_ r_ w_ b_ (bf_ r_ r_ r_ b_ (ah_ r_ w_ b_ (bg_ 0 r_ r_ r_ r_ (ah_ r_ w_ b_ (bx_ r_ r_ (o_ r_ (bv_ r_ w_ r_ (M_ r_ (ah_ r_ w_ b_ (bf_ r_ r_ r_ b_ (ah_ r_ w_ b_ (bg_ 1 r_ r_ r_ r_ (ah_ r_ w_ b_ (bf_ r_ r_ r_ b_ (ah_ r_ w_ b_ (bg_ 0 r_ r_ r_ r_ (ah_ r_ w_ b_ (bx_ r_ r_ (o_ r_ (bv_ r_ w_ r_ (M_ r_ (ah_ r_ w_ b_ (bf_ r_ r_ r_ b_ (ah_ r_ w_ b_ (bg_ 1 r_ r_ r_ r_ ?_)))))))))))))))))))))))))
  refine ah_ r_ w_ b_ (bf_ r_ r_ r_ b_ (ah_ r_ w_ b_ (bg_ 0 r_ r_ r_ r_ (ah_ r_ w_ b_ (bx_ r_ r_ (o_ r_ (bv_ r_ w_ r_ (M_ r_ (ah_ r_ w_ b_ (bf_ r_ r_ r_ b_ (ah_ r_ w_ b_ (bg_ 1 r_ r_ r_ r_ (ah_ r_ w_ b_ (br_ r_ (fun hlen => ah_ r_ w_ b_ (bf_ r_ r_ r_ b_ (ah_ r_ w_ b_ (bg_ 0 r_ r_ r_ r_ (ah_ r_ w_ b_ (br_ r_ (fun hlen => ah_ r_ w_ b_ (bx_ r_ r_ (o_ r_ (bv_ r_ w_ r_ (M_ r_ ?_)))))))))))))))))))))))))
  refine ah_ r_ w_ b_ (bf_ r_ r_ r_ b_ (ah_ r_ w_ b_ (bg_ 1 r_ r_ r_ r_ (ah_ r_ w_ b_ (br_ r_ (fun hlen => ah_ r_ w_ b_ (bf_ r_ r_ r_ b_ (ah_ r_ w_ b_ (bg_ 0 r_ r_ r_ r_ (ah_ r_ w_ b_ (br_ r_ (fun hlen => ah_ r_ w_ b_ (bx_ r_ r_ (o_ r_ (bv_ r_ w_ r_ (M_ r_ (ah_ r_ w_ b_ (bf_ r_ r_ r_ b_ (ah_ r_ w_ b_ (bg_ 1 r_ r_ r_ r_ (ah_ r_ w_ b_ (br_ r_ (fun hlen => ah_ r_ w_ b_ (bf_ r_ r_ r_ b_ ?_))))))))))))))))))))))))
  refine ah_ r_ w_ b_ (bg_ 0 r_ r_ r_ r_ (ah_ r_ w_ b_ (br_ r_ (fun hlen => ah_ r_ w_ b_ (bx_ r_ r_ (o_ r_ (bv_ r_ w_ r_ (M_ r_ (ah_ r_ w_ b_ (bf_ r_ r_ r_ b_ (ah_ r_ w_ b_ (bg_ 1 r_ r_ r_ r_ (ah_ r_ w_ b_ (br_ r_ (fun hlen => ah_ r_ w_ b_ (bf_ r_ r_ r_ b_ (ah_ r_ w_ b_ (bg_ 0 r_ r_ r_ r_ (ah_ r_ w_ b_ (br_ r_ (fun hlen => ah_ r_ w_ b_ (bx_ r_ r_ (o_ r_ (bv_ r_ w_ r_ (M_ r_ ?_)))))))))))))))))))))))))
  refine ah_ r_ w_ b_ (bf_ r_ r_ r_ b_ (ah_ r_ w_ b_ (bg_ 1 r_ r_ r_ r_ (ah_ r_ w_ b_ (br_ r_ (fun hlen => ah_ r_ w_ b_ (bf_ r_ r_ r_ b_ (ah_ r_ w_ b_ (bg_ 0 r_ r_ r_ r_ (ah_ r_ w_ b_ (br_ r_ (fun hlen => ah_ r_ w_ b_ (bx_ r_ r_ (o_ r_ (bv_ r_ w_ r_ (T_ (ap_ r_ w_ (as_ (al_ (am_ (R_ (E_ r_ (T_ ?_)))))))))))))))))))))))
  refine au_ (jc_loopS [] (fun k : Nat => k ≤ t.inputs.length) (fun k => [(2, Ptr b2), (3, Ptr b3), (5, In .i64 (k : Int))]) (fun _ => [.blk b3 41 t.row, .blk b2 41 t.row]) (fun k => t.inputs.length - k) 0 (Nat.zero_le _) ?_ ?_ ?_)
  · exact bc_ 0 r_ (bc_ 0 r_ sub_end)
  · (repeat (first | exact True.intro | refine ⟨rfl, ?_⟩))
  intro k hk
  refine jc_reset [(2, Ptr b2), (3, Ptr b3), (5, In .i64 (k : Int))] [.blk b3 41 t.row, .blk b2 41 t.row] ?_ ⟨[0, 0], [], rfl⟩ ?_
  · (repeat (first | exact True.intro | refine ⟨rfl, ?_⟩))
  by_cases hlt : k < t.inputs.length
  · have hm := hminputs k hlt
    refine am_ (R_ (M_ r_ (F_ r_ (L_ 1 r_ (o_ r_ (br_ r_ (fun hlen => o_ r_ (bw_ r_ r_ (T_ (aq_ r_ u_ (as_ (al_ (B_ (am_ (ao_ r_ r_ k_ k_ (yF_ r_ (yL_ 1 r_ ?_)))))))))))))))))
    refine yM_ r_ (aa_ (fun c => cc_ r_ r_ g_ r_ r_ b_ p_) (aa_ (fun c => cr_ r_ r_ r_ p_) (yF_ r_ (yL_ 0 r_ (yM_ r_ (aa_ (fun c => cc_ r_ r_ g_ r_ r_ b_ p_) (aa_ (fun c => cr_ r_ r_ r_ p_) (aa_ (fun c => ow_neqSelf (vs := [.string (t.inputs[k].1), .int .i64 (t.inputs[k].2.1), .int .i64 (t.inputs[k].2.2)]) k_ (eqInput _ _) r_ r_ p_) (ae_ (al_ (ap_ r_ r_ (as_ (ay_ (al_ (an_ ?_)))))))))))))))
    refine M_ r_ (o_ r_ (bj_ r_ r_ g_ (E_ r_ (ak_ (jq_againS (k + 1) g_ g_ ?_ ?_)))))
    · exact bc_ 0 r_ (bc_ 0 r_ sub_end)
    · (repeat (first | exact True.intro | refine ⟨rfl, ?_⟩))
  · clear hk
    refine am_ (R_ (M_ r_ (F_ r_ (L_ 1 r_ (o_ r_ (br_ r_ (fun hlen => o_ r_ (bw_ r_ r_ (T_ (ap_ r_ v_ (av_ (ax_ (ax_ (ba_ (al_ (am_ (R_ ?_)))))))))))))))))
    refine E_ r_ (T_ (au_ (jc_loopS [] (fun k : Nat => k ≤ t.vars.length) (fun k => [(2, Ptr b2), (3, Ptr b3), (6, In .i64 (k : Int))]) (fun _ => [.blk b3 41 t.row, .blk b2 41 t.row]) (fun k => t.vars.length - k) 0 (Nat.zero_le _) ?_ ?_ ?_)))
    · exact bc_ 0 r_ (bc_ 0 r_ sub_end)
    · (repeat (first | exact True.intro | refine ⟨rfl, ?_⟩))
    intro k hk
    refine jc_reset [(2, Ptr b2), (3, Ptr b3), (6, In .i64 (k : Int))] [.blk b3 41 t.row, .blk b2 41 t.row] ?_ ⟨[0, 0], [], rfl⟩ ?_
    · (repeat (first | exact True.intro | refine ⟨rfl, ?_⟩))
    by_cases hlt : k < t.vars.length
    · have hm := hmvars k hlt
      have he : ¬ ¬ t.vars[k] = t.vars[k] := fun h => h rfl
      refine am_ (R_ (M_ r_ (F_ r_ (L_ 1 r_ (o_ r_ (br_ r_ (fun hlen => o_ r_ (bw_ r_ r_ (T_ (aq_ r_ u_ (as_ (al_ (B_ (am_ (ao_ r_ r_ k_ k_ (yF_ r_ (yL_ 1 r_ ?_)))))))))))))))))
      refine yM_ r_ (aa_ (fun c => cc_ r_ r_ g_ r_ r_ b_ p_) (aa_ (fun c => cb_ r_ r_ p_) (yF_ r_ (yL_ 0 r_ (yM_ r_ (aa_ (fun c => cc_ r_ r_ g_ r_ r_ b_ p_) (aa_ (fun c => cb_ r_ r_ p_) (aa_ (fun c => ct_ r_ r_ p_) (ae_ (al_ (ap_ r_ w_ (as_ (ay_ (al_ (an_ ?_)))))))))))))))
      refine M_ r_ (o_ r_ (bj_ r_ r_ g_ (E_ r_ (ak_ (jq_againS (k + 1) g_ g_ ?_ ?_)))))
      · exact bc_ 0 r_ (bc_ 0 r_ sub_end)
      · (repeat (first | exact True.intro | refine ⟨rfl, ?_⟩))
    · clear hk
      refine am_ (R_ (M_ r_ (F_ r_ (L_ 1 r_ (o_ r_ (br_ r_ (fun hlen => o_ r_ (bw_ r_ r_ (T_ (ap_ r_ v_ (av_ (ax_ (ax_ (ba_ (al_ (am_ (R_ ?_)))))))))))))))))
      refine E_ r_ (T_ (au_ (jc_loopS [] (fun k : Nat => k ≤ t.arrays.length) (fun k => [(2, Ptr b2), (3, Ptr b3), (7, In .i64 (k : Int))]) (fun _ => [.blk b3 41 t.row, .blk b2 41 t.row]) (fun k => t.arrays.length - k) 0 (Nat.zero_le _) ?_ ?_ ?_)))
      · exact bc_ 0 r_ (bc_ 0 r_ sub_end)
      · (repeat (first | exact True.intro | refine ⟨rfl, ?_⟩))
      intro k hk
      refine jc_reset [(2, Ptr b2), (3, Ptr b3), (7, In .i64 (k : Int))] [.blk b3 41 t.row, .blk b2 41 t.row] ?_ ⟨[0, 0], [], rfl⟩ ?_
      · (repeat (first | exact True.intro | refine ⟨rfl, ?_⟩))
      by_cases hlt : k < t.arrays.length
      · have hm := hmarrays k hlt
        refine am_ (R_ (M_ r_ (F_ r_ (L_ 1 r_ (o_ r_ (br_ r_ (fun hlen => o_ r_ (bw_ r_ r_ (T_ (aq_ r_ u_ (as_ (al_ (B_ (am_ (ao_ r_ r_ k_ k_ (yF_ r_ (yL_ 1 r_ ?_)))))))))))))))))
        refine yM_ r_ (aa_ (fun c => cc_ r_ r_ g_ r_ r_ b_ p_) (aa_ (fun c => cr_ r_ r_ r_ p_) (yF_ r_ (yL_ 0 r_ (yM_ r_ (aa_ (fun c => cc_ r_ r_ g_ r_ r_ b_ p_) (aa_ (fun c => cr_ r_ r_ r_ p_) (aa_ (fun c => ow_neqSelf (vs := [.string (t.arrays[k].1), .int .i64 (t.arrays[k].2)]) k_ (eqArray _ _) r_ r_ p_) (ae_ (al_ (ap_ r_ r_ (as_ (ay_ (al_ (an_ ?_)))))))))))))))
        refine M_ r_ (o_ r_ (bj_ r_ r_ g_ (E_ r_ (ak_ (jq_againS (k + 1) g_ g_ ?_ ?_)))))
        · exact bc_ 0 r_ (bc_ 0 r_ sub_end)
        · (repeat (first | exact True.intro | refine ⟨rfl, ?_⟩))
      · clear hk
        refine am_ (R_ (M_ r_ (F_ r_ (L_ 1 r_ (o_ r_ (br_ r_ (fun hlen => o_ r_ (bw_ r_ r_ (T_ (ap_ r_ v_ (av_ (ax_ (ax_ (ba_ (al_ (am_ (R_ ?_)))))))))))))))))
        refine E_ r_ (T_ (au_ (jc_loopS [] (fun k : Nat => k ≤ t.modes.length) (fun k => [(2, Ptr b2), (3, Ptr b3), (8, In .i64 (k : Int))]) (fun _ => [.blk b3 41 t.row, .blk b2 41 t.row]) (fun k => t.modes.length - k) 0 (Nat.zero_le _) ?_ ?_ ?_)))
        · exact bc_ 0 r_ (bc_ 0 r_ sub_end)
        · (repeat (first | exact True.intro | refine ⟨rfl, ?_⟩))
        intro k hk
        refine jc_reset [(2, Ptr b2), (3, Ptr b3), (8, In .i64 (k : Int))] [.blk b3 41 t.row, .blk b2 41 t.row] ?_ ⟨[0, 0], [], rfl⟩ ?_
        · (repeat (first | exact True.intro | refine ⟨rfl, ?_⟩))
        by_cases hlt : k < t.modes.length
        · have hm := hmmodes k hlt
          refine am_ (R_ (M_ r_ (F_ r_ (L_ 1 r_ (o_ r_ (br_ r_ (fun hlen => o_ r_ (bw_ r_ r_ (T_ (aq_ r_ u_ (as_ (al_ (B_ (am_ (ao_ r_ r_ k_ k_ (yF_ r_ (yL_ 1 r_ ?_)))))))))))))))))
          refine yM_ r_ (aa_ (fun c => cc_ r_ r_ g_ r_ r_ b_ p_) (aa_ (fun c => cr_ r_ r_ r_ p_) (yF_ r_ (yL_ 0 r_ (yM_ r_ (aa_ (fun c => cc_ r_ r_ g_ r_ r_ b_ p_) (aa_ (fun c => cr_ r_ r_ r_ p_) (aa_ (fun c => ow_neqSelf (vs := [.string (t.modes[k].1), .string (t.modes[k].2.1), .int .i64 (t.modes[k].2.2.1), .int .i64 (t.modes[k].2.2.2)]) k_ (eqMode _ _) r_ r_ p_) (ae_ (al_ (ap_ r_ r_ (as_ (ay_ (al_ (an_ ?_)))))))))))))))
          refine M_ r_ (o_ r_ (bj_ r_ r_ g_ (E_ r_ (ak_ (jq_againS (k + 1) g_ g_ ?_ ?_)))))
          · exact bc_ 0 r_ (bc_ 0 r_ sub_end)
          · (repeat (first | exact True.intro | refine ⟨rfl, ?_⟩))
        · clear hk
          refine am_ (R_ (M_ r_ (F_ r_ (L_ 1 r_ (o_ r_ (br_ r_ (fun hlen => o_ r_ (bw_ r_ r_ (T_ (ap_ r_ v_ (av_ (ax_ (ax_ (ba_ (al_ (am_ (R_ ?_)))))))))))))))))
          refine E_ r_ (T_ (au_ (jc_loopS [] (fun k : Nat => k ≤ t.claims.length) (fun k => [(2, Ptr b2), (3, Ptr b3), (9, In .i64 (k : Int))]) (fun _ => [.blk b3 41 t.row, .blk b2 41 t.row]) (fun k => t.claims.length - k) 0 (Nat.zero_le _) ?_ ?_ ?_)))
          · exact bc_ 0 r_ (bc_ 0 r_ sub_end)
          · (repeat (first | exact True.intro | refine ⟨rfl, ?_⟩))
          intro k hk
          refine jc_reset [(2, Ptr b2), (3, Ptr b3), (9, In .i64 (k : Int))] [.blk b3 41 t.row, .blk b2 41 t.row] ?_ ⟨[0, 0], [], rfl⟩ ?_
          · (repeat (first | exact True.intro | refine ⟨rfl, ?_⟩))
          by_cases hlt : k < t.claims.length
          · have hm := hmclaims k hlt
            refine am_ (R_ (M_ r_ (F_ r_ (L_ 1 r_ (o_ r_ (br_ r_ (fun hlen => o_ r_ (bw_ r_ r_ (T_ (aq_ r_ u_ (as_ (al_ (B_ (am_ (ao_ r_ r_ k_ k_ (yF_ r_ (yL_ 1 r_ ?_)))))))))))))))))
            refine yM_ r_ (aa_ (fun c => cc_ r_ r_ g_ r_ r_ b_ p_) (aa_ (fun c => cr_ r_ r_ r_ p_) (yF_ r_ (yL_ 0 r_ (yM_ r_ (aa_ (fun c => cc_ r_ r_ g_ r_ r_ b_ p_) (aa_ (fun c => cr_ r_ r_ r_ p_) (aa_ (fun c => ow_neqSelf (vs := [.int .i64 (t.claims[k].1), .int .i64 (t.claims[k].2)]) k_ (eqClaim _ _) r_ r_ p_) (ae_ (al_ (ap_ r_ r_ (as_ (ay_ (al_ (an_ ?_)))))))))))))))
            refine M_ r_ (o_ r_ (bj_ r_ r_ g_ (E_ r_ (ak_ (jq_againS (k + 1) g_ g_ ?_ ?_)))))
            · exact bc_ 0 r_ (bc_ 0 r_ sub_end)
            · (repeat (first | exact True.intro | refine ⟨rfl, ?_⟩))
          · clear hk
            refine am_ (R_ (M_ r_ (F_ r_ (L_ 1 r_ (o_ r_ (br_ r_ (fun hlen => o_ r_ (bw_ r_ r_ (T_ (ap_ r_ v_ (av_ (ax_ (ax_ (ba_ (al_ (R_ (F_ r_ ?_)))))))))))))))))
            refine L_ 1 r_ (F_ r_ (L_ 0 r_ (o_ r_ (bm_ r_ (cS) (E_ r_ (T_ (ar_ (jq_ret1 rfl rfl [] rfl (fun K h => h)))))))))
theorem SamePg_c (p : Pg) : Con Tryz.prog 16 [.row p.row, .row p.row] [] (fun K => K (Bl true) []) := by
  have eLres : (p.res.map Wrow).length = p.res.length := List.length_map _
  have hmres : ∀ k, k < p.res.length → (k : Int) < (p.res.map Wrow).length := fun k h => by omega
  have hnres : ¬ ¬ ((p.res.map Wrow).length : Int) = ((p.res.map Wrow).length : Int) := fun h => h rfl
  have eLshared : (p.shared.map ShRow).length = p.shared.length := List.length_map _
  have hmshared : ∀ k, k < p.shared.length → (k : Int) < (p.shared.map ShRow).length := fun k h => by omega
  have hnshared : ¬ ¬ ((p.shared.map ShRow).length : Int) = ((p.shared.map ShRow).length : Int) := fun h => h rfl
  have eLtasks : (p.tasks.map Tk.row).length = p.tasks.length := List.length_map _
  have hmtasks : ∀ k, k < p.tasks.length → (k : Int) < (p.tasks.map Tk.row).length := fun k h => by omega
  have hntasks : ¬ ¬ ((p.tasks.map Tk.row).length : Int) = ((p.tasks.map Tk.row).length : Int) := fun h => h rfl
  refine con_intro Tryz.func16 rfl rfl (Nat.le_of_ble_eq_true rfl) (fun c hc => R_ (o_ r_ (ci_ r_ (fun bx => o_ r_ (ci_ r_ (fun bx => E_ r_ (T_ (am_ (am_ ?_)))))))))
  rename_i b2
  revert bx
  intro b3
  refine an_ (F_ r_ (L_ 1 r_ (o_ r_ (br_ r_ (fun hlen => F_ r_ (L_ 0 r_ (o_ r_ (br_ r_ (fun hlen => o_ r_ (bx_ r_ r_ (M_ r_ (ah_ r_ w_ b_ (bf_ r_ r_ r_ b_ (ah_ r_ w_ b_ (bg_ 1 r_ r_ r_ r_ (ah_ r_ w_ b_ (br_ r_ (fun hlen => ah_ r_ w_ b_ (bf_ r_ r_ r_ b_ (ah_ r_ w_ b_ (bg_ 0 r_ r_ r_ r_ (ah_ r_ w_ b_ (br_ r_ (fun hlen => ah_ r_ w_ b_ (bx_ r_ r_ ?_)))))))))))))))))))))))))
  refine o_ r_ (bv_ r_ w_ r_ (M_ r_ (ah_ r_ w_ b_ (bf_ r_ r_ r_ b_ (ah_ r_ w_ b_ (bg_ 1 r_ r_ r_ r_ (ah_ r_ w_ b_ (br_ r_ (fun hlen => ah_ r_ w_ b_ (bf_ r_ r_ r_ b_ (ah_ r_ w_ b_ (bg_ 0 r_ r_ r_ r_ (ah_ r_ w_ b_ (br_ r_ (fun hlen => ah_ r_ w_ b_ (bx_ r_ r_ (o_ r_ (bv_ r_ w_ r_ (T_ (ap_ r_ w_ (as_ (al_ (am_ (R_ ?_))))))))))))))))))))))))
  refine E_ r_ (T_ (au_ (jc_loopS [] (fun k : Nat => k ≤ p.res.length) (fun k => [(2, Ptr b2), (3, Ptr b3), (5, In .i64 (k : Int))]) (fun _ => [.blk b3 31 p.row, .blk b2 31 p.row]) (fun k => p.res.length - k) 0 (Nat.zero_le _) ?_ ?_ ?_)))
  · exact bc_ 0 r_ (bc_ 0 r_ sub_end)
  · (repeat (first | exact True.intro | refine ⟨rfl, ?_⟩))
  intro k hk
  refine jc_reset [(2, Ptr b2), (3, Ptr b3), (5, In .i64 (k : Int))] [.blk b3 31 p.row, .blk b2 31 p.row] ?_ ⟨[0, 0], [], rfl⟩ ?_
  · (repeat (first | exact True.intro | refine ⟨rfl, ?_⟩))
  by_cases hlt : k < p.res.length
  · have hm := hmres k hlt
    have he : ¬ ¬ p.res[k] = p.res[k] := fun h => h rfl
    refine am_ (R_ (M_ r_ (F_ r_ (L_ 1 r_ (o_ r_ (br_ r_ (fun hlen => o_ r_ (bw_ r_ r_ (T_ (aq_ r_ u_ (as_ (al_ (B_ (am_ (ao_ r_ r_ k_ k_ (yF_ r_ (yL_ 1 r_ ?_)))))))))))))))))
    refine yM_ r_ (aa_ (fun c => cc_ r_ r_ g_ r_ r_ b_ p_) (aa_ (fun c => cb_ r_ r_ p_) (yF_ r_ (yL_ 0 r_ (yM_ r_ (aa_ (fun c => cc_ r_ r_ g_ r_ r_ b_ p_) (aa_ (fun c => cb_ r_ r_ p_) (aa_ (fun c => ct_ r_ r_ p_) (ae_ (al_ (ap_ r_ w_ (as_ (ay_ (al_ (an_ ?_)))))))))))))))
    refine M_ r_ (o_ r_ (bj_ r_ r_ g_ (E_ r_ (ak_ (jq_againS (k + 1) g_ g_ ?_ ?_)))))
    · exact bc_ 0 r_ (bc_ 0 r_ sub_end)
    · (repeat (first | exact True.intro | refine ⟨rfl, ?_⟩))
  · clear hk
    refine am_ (R_ (M_ r_ (F_ r_ (L_ 1 r_ (o_ r_ (br_ r_ (fun hlen => o_ r_ (bw_ r_ r_ (T_ (ap_ r_ v_ (av_ (ax_ (ax_ (ba_ (al_ (am_ (R_ ?_)))))))))))))))))
    refine E_ r_ (T_ (au_ (jc_loopS [] (fun k : Nat => k ≤ p.shared.length) (fun k => [(2, Ptr b2), (3, Ptr b3), (6, In .i64 (k : Int))]) (fun _ => [.blk b3 31 p.row, .blk b2 31 p.row]) (fun k => p.shared.length - k) 0 (Nat.zero_le _) ?_ ?_ ?_)))
    · exact bc_ 0 r_ (bc_ 0 r_ sub_end)
    · (repeat (first | exact True.intro | refine ⟨rfl, ?_⟩))
    intro k hk
    refine jc_reset [(2, Ptr b2), (3, Ptr b3), (6, In .i64 (k : Int))] [.blk b3 31 p.row, .blk b2 31 p.row] ?_ ⟨[0, 0], [], rfl⟩ ?_
    · (repeat (first | exact True.intro | refine ⟨rfl, ?_⟩))
    by_cases hlt : k < p.shared.length
    · have hm := hmshared k hlt
      refine am_ (R_ (M_ r_ (F_ r_ (L_ 1 r_ (o_ r_ (br_ r_ (fun hlen => o_ r_ (bw_ r_ r_ (T_ (aq_ r_ u_ (as_ (al_ (B_ (am_ (ao_ r_ r_ k_ k_ (yF_ r_ (yL_ 1 r_ ?_)))))))))))))))))
      refine yM_ r_ (aa_ (fun c => cc_ r_ r_ g_ r_ r_ b_ p_) (aa_ (fun c => cr_ r_ r_ r_ p_) (yF_ r_ (yL_ 0 r_ (yM_ r_ (aa_ (fun c => cc_ r_ r_ g_ r_ r_ b_ p_) (aa_ (fun c => cr_ r_ r_ r_ p_) (aa_ (fun c => ow_neqSelf (vs := [.string (p.shared[k].1), .int .i64 (p.shared[k].2.1), .string (p.shared[k].2.2)]) k_ (eqShared _) r_ r_ p_) (ae_ (al_ (ap_ r_ r_ (as_ (ay_ (al_ (an_ ?_)))))))))))))))
      refine M_ r_ (o_ r_ (bj_ r_ r_ g_ (E_ r_ (ak_ (jq_againS (k + 1) g_ g_ ?_ ?_)))))
      · exact bc_ 0 r_ (bc_ 0 r_ sub_end)
      · (repeat (first | exact True.intro | refine ⟨rfl, ?_⟩))
    · clear hk
      refine am_ (R_ (M_ r_ (F_ r_ (L_ 1 r_ (o_ r_ (br_ r_ (fun hlen => o_ r_ (bw_ r_ r_ (T_ (ap_ r_ v_ (av_ (ax_ (ax_ (ba_ (al_ (am_ (R_ ?_)))))))))))))))))
      refine E_ r_ (T_ (au_ (jc_loopS [] (fun k : Nat => k ≤ p.tasks.length) (fun k => [(2, Ptr b2), (3, Ptr b3), (7, In .i64 (k : Int))]) (fun _ => [.blk b3 31 p.row, .blk b2 31 p.row]) (fun k => p.tasks.length - k) 0 (Nat.zero_le _) ?_ ?_ ?_)))
      · exact bc_ 0 r_ (bc_ 0 r_ sub_end)
      · (repeat (first | exact True.intro | refine ⟨rfl, ?_⟩))
      intro k hk
      refine jc_reset [(2, Ptr b2), (3, Ptr b3), (7, In .i64 (k : Int))] [.blk b3 31 p.row, .blk b2 31 p.row] ?_ ⟨[0, 0], [], rfl⟩ ?_
      · (repeat (first | exact True.intro | refine ⟨rfl, ?_⟩))
      by_cases hlt : k < p.tasks.length
      · have hm := hmtasks k hlt
        have con := SameTk_c p.tasks[k]
        refine am_ (R_ (M_ r_ (F_ r_ (L_ 1 r_ (o_ r_ (br_ r_ (fun hlen => o_ r_ (bw_ r_ r_ (T_ (aq_ r_ u_ (as_ (al_ (B_ (am_ (ao_ r_ r_ k_ k_ (yF_ r_ (yL_ 1 r_ ?_)))))))))))))))))
        refine yM_ r_ (aa_ (fun c => cc_ r_ r_ g_ r_ r_ b_ p_) (aa_ (fun c => cr_ r_ r_ r_ p_) (yF_ r_ (yL_ 0 r_ (yM_ r_ (aa_ (fun c => cc_ r_ r_ g_ r_ r_ b_ p_) (aa_ (fun c => cr_ r_ r_ r_ p_) (aa_ (fun c => bm_ r_ (con) p_) (aa_ (fun c => cd_ r_ p_) (ae_ (al_ (ap_ r_ r_ (as_ (ay_ (al_ ?_)))))))))))))))
        refine an_ (M_ r_ (o_ r_ (bj_ r_ r_ g_ (E_ r_ (ak_ (jq_againS (k + 1) g_ g_ ?_ ?_))))))
        · exact bc_ 0 r_ (bc_ 0 r_ sub_end)
        · (repeat (first | exact True.intro | refine ⟨rfl, ?_⟩))
      · clear hk
        refine am_ (R_ (M_ r_ (F_ r_ (L_ 1 r_ (o_ r_ (br_ r_ (fun hlen => o_ r_ (bw_ r_ r_ (T_ (ap_ r_ v_ (av_ (ax_ (ax_ (ba_ (al_ (R_ (E_ r_ ?_)))))))))))))))))
        refine T_ (ar_ (jq_ret1 rfl rfl [] rfl (fun K h => h)))
end Go.Proofs.YtlniadfidfmckaaGreatDoor
end

section
namespace Go.Proofs.YtlniadfidfmckaaGreatDoor
open Go.Vc
attribute [local irreducible] JL JC JQ OpWp Con ConN Pan ConE OpPan HP HT HOk
attribute [local irreducible] progF StG BlG fineS numS textT hdT stsT stT progT parseF scan
set_option maxHeartbeats 4000000

theorem awake_text : exprF (.bn 1 (.nm ⟨#[105]⟩) (.nu (-1))) = (⟨#[40, 105, 32, 43, 32, 40, 45, 49, 41, 41]⟩, 0) := by kernel_rfl
theorem awake_c : Con Tryz.prog 6 [] [] (fun K => K (Bl true) []) := by
  have h1 := mName_c ⟨#[105]⟩
  have h2 := mNum_c (-1)
  have h3 := mBin_c 1 (.nm ⟨#[105]⟩) (.nu (-1))
  have h4 := pExpr_c (.bn 1 (.nm ⟨#[105]⟩) (.nu (-1))) ⟨by omega, nmOk_lit (by decide +kernel), by show _ ∧ _; omega⟩
  rw [awake_text] at h4
  refine con_intro Tryz.func6 rfl rfl (Nat.le_of_ble_eq_true rfl) (fun c hc => R_ (E_ r_ (T_ (R_ (o_ r_ (bm_ r_ (h1) (o_ r_ (bm_ r_ (h2) (o_ r_ (bm_ r_ (h3) (o_ r_ (bm_ r_ (h4) (M_ r_ (X_ r_ (X_ r_ (E_ r_ (E_ r_ (T_ (R_ ?_)))))))))))))))))))
  refine M_ r_ (o_ r_ (bn_ r_ r_ (M_ r_ (ah_ r_ r_ b_ (bd_ r_ (ah_ r_ r_ b_ (cs_ r_ r_ (o_ r_ (bp_ r_ x_ r_ (E_ r_ (T_ (ar_ (jq_ret1 rfl rfl [] rfl (fun K h => h))))))))))))))
theorem ls_md : ∀ (n F : Nat) (l : List Sm), (∀ s ∈ l, mdS n s) → lsS F l
  | _, 0, _, _ => trivial
  | 0, F + 1, l, h => fun s hs => (h s hs).elim
  | n + 1, F + 1, l, h => fun s hs => by
    have h1 := h s hs
    unfold mdS at h1
    rcases h1 with ⟨v, x, _, _, rfl⟩ | ⟨v, y, x, _, _, _, rfl⟩ | ⟨x, lab, t, e, _, _, ht, he, rfl⟩ | ⟨x, mx, lab, t, _, _, _, ht, rfl⟩ | ⟨v, t, _, ht, rfl⟩
    · exact ⟨by simp [Sm.index], by simp [Sm.value], ls_md n F [] (by simp), ls_md n F [] (by simp)⟩
    · exact ⟨by simp [Sm.index], by simp [Sm.value], ls_md n F [] (by simp), ls_md n F [] (by simp)⟩
    · exact ⟨by simp [Sm.index], by simp [Sm.value], ls_md n F t ht, ls_md n F e he⟩
    · exact ⟨by simp [Sm.index], by simp [Sm.value], ls_md n F t ht, ls_md n F [] (by simp)⟩
    · exact ⟨by simp [Sm.index], by simp [Sm.value], ls_md n F t ht, ls_md n F [] (by simp)⟩
theorem PrintParses_c (L : List Int) (hL : InR L) (tasks : Int) (htasks : -9223372036854775808 ≤ tasks ∧ tasks ≤ 9223372036854775807) :
    Con Tryz.prog 4 [.cell (.list (L.map Irow)), In .i64 tasks] [] (fun K => K (Bl true) []) := by
  have ha := awake_c
  refine con_intro Tryz.func4 rfl rfl (Nat.le_of_ble_eq_true rfl) (fun c hc => ?_)
  by_cases hLn : L.length ≤ 400
  · have hd : (!decide (L.length ≤ 400)) = false := by simp [hLn]
    have hm4 : 0 ≤ tasks % 4 ∧ tasks % 4 ≤ 3 := by omega
    refine R_ (E_ r_ (T_ (am_ (R_ (M_ r_ (o_ r_ (bm_ r_ (gFew_c _) (o_ r_ (ce_ r_ (T_ (ap_ r_ v_ (as_ (al_ (R_ (M_ r_ (o_ r_ (bt_ [] rfl rfl (gNewT_c L) (fun bd hbd => M_ r_ ?_))))))))))))))))))
    refine o_ r_ (bm_ r_ (gMod_c _ _ g_ g_) (o_ r_ (bj_ r_ r_ g_ (o_ r_ (bt_ [0] rfl rfl (gProgram_c hL hLn _) (fun p hp => ?_))))))
    have hT : (max 1 (min (1 + tasks % 4) 6)).toNat ≤ 4 := by omega
    obtain ⟨h1, h2, h3⟩ := prog_okT hT hp
    have hmd := hp.md
    have hPr := pProg_c p (hp.sz (by omega)) (fun t ht => ls_md 4 20 t.body (hmd t ht))
    rw [show progF p = (progT p, 0) by unfold progF; rw [if_neg (by rw [h1]; decide), if_neg (by rw [h2]; decide), if_neg (by omega)]] at hPr
    have hPa := Program_c (progT p)
    rw [parse_prog h1 hmd h3] at hPa
    have hS := SamePg_c p
    clear h1 h2 h3 hmd hp
    refine o_ r_ (bl_ r_ r_ (fun bl => S_ 0 r_ (T_ (R_ (A_ 0 r_ (o_ r_ (bm_ r_ (hPr) (M_ r_ (X_ r_ (X_ r_ (E_ r_ (E_ r_ (T_ (R_ (M_ r_ (o_ r_ (bm_ r_ (hPa) (M_ r_ ?_))))))))))))))))))
    refine X_ r_ (X_ r_ (X_ r_ (o_ r_ (bl_ r_ r_ (fun bl => S_ 0 r_ (E_ r_ (E_ r_ (T_ (R_ (A_ 0 r_ (o_ r_ (bm_ r_ (hPr) (M_ r_ (X_ r_ (X_ r_ (E_ r_ (E_ r_ ?_)))))))))))))))))
    refine T_ (R_ (M_ r_ (o_ r_ (bn_ r_ r_ (M_ r_ (ah_ r_ r_ b_ (bd_ r_ (ah_ r_ r_ b_ (bn_ r_ r_ (o_ r_ (bp_ r_ x_ r_ (M_ r_ (ah_ r_ r_ b_ (bd_ r_ (ah_ r_ r_ b_ (bn_ r_ r_ (o_ r_ (bp_ r_ x_ r_ (M_ r_ (ah_ r_ r_ b_ (bd_ r_ (ah_ r_ r_ b_ (bn_ r_ r_ (o_ r_ (bp_ r_ x_ r_ ?_)))))))))))))))))))))))))
    refine M_ r_ (ah_ r_ r_ b_ (bd_ r_ (ah_ r_ r_ b_ (bd_ r_ (ah_ r_ r_ b_ (cs_ r_ r_ (o_ r_ (bp_ r_ x_ r_ (M_ r_ (ah_ r_ x_ b_ (bs_ 1 r_ r_ r_ r_ (ah_ r_ x_ b_ (bs_ 0 r_ r_ r_ r_ (ah_ r_ x_ b_ (bm_ r_ (hS) (o_ r_ (bp_ r_ x_ r_ (M_ r_ (ah_ r_ r_ b_ (bm_ r_ (ha) (o_ r_ (bp_ r_ r_ r_ (E_ r_ (T_ (ar_ ?_)))))))))))))))))))))))))
    refine jq_ret1 rfl rfl [] rfl (fun K h => h)
  · have hd : (!decide (L.length ≤ 400)) = true := by simp [hLn]
    refine R_ (E_ r_ (T_ (am_ (R_ (M_ r_ (o_ r_ (bm_ r_ (gFew_c _) (o_ r_ (ce_ r_ (T_ (aq_ r_ u_ (R_ (o_ r_ (bm_ r_ (ha) (E_ r_ (T_ (ar_ (aw_ ?_))))))))))))))))))
    refine jq_ret1 rfl rfl [] rfl (fun K h => h)
end Go.Proofs.YtlniadfidfmckaaGreatDoor
end

section
namespace Go.Vc
open Go.ChangeShapes Go.WideShapes Go.ChangeAt Go.RowKit Go.Joins Go.Deep

theorem strs_inj {H : Type} : ∀ {a b : List ByteArray}, (strs a : List (DataW H)) = strs b → a = b
  | [], [], _ => rfl
  | [], _ :: _, h => by simp [strs] at h
  | _ :: _, [], h => by simp [strs] at h
  | x :: a, y :: b, h => by
    simp only [strs, List.map_cons, List.cons.injEq, DataW.lit.injEq, Lit.string.injEq] at h
    have e : x = y := by
      cases x; cases y
      simp only at h
      congr 1
      exact Array.ext' h.1
    subst e
    rw [strs_inj (H := H) (a := a) (b := b) h.2]

section
variable {H : Type} {enc : TypeId × Value → H} {P : Program}
/-- A slice of strings that reads so. -/
theorem rd_strings {W : World} {t e : TypeId} (ht : P.underlying t = some (.slice e)) (he : P.underlying e = some .string) (hc : P.cellsOf e = 1) {cs : List Value} {L : List ByteArray} {ps : List MemPlace} {base : Nat} {sp : Nat → Bool} {held : Bool} {fuel : Nat} (h0 : 0 < L.length)
    (h : DataW.trod enc P W base sp held fuel t cs = some ((.slice (strs L) [] : DataW H), ps)) : ∃ v, cs = [v] ∧ Rd1 W (fun _ => False) (.list (L.map fun s => [.val (.string s)])) v := by
  rcases open_strings ht he hc h with ⟨_, hx⟩ | ⟨a, len, cap, ss, rfl, _, hle, hcap, hz, hx, hcell, _⟩
  · cases hx
  · simp only [Prod.mk.injEq, DataW.slice.injEq] at hx
    have hL : L = ss.take len := strs_inj hx.1.1
    have hlen : L.length = len := by
      rw [hL, List.length_take]
      have : len ≤ ss.length := by rw [hz]; split <;> omega
      omega
    refine ⟨_, rfl, some a, cap, by rw [List.length_map, hlen], by rw [List.length_map, hlen]; exact hle, hcap, ?_⟩
    have hss : len ≤ ss.length := by rw [hz]; split <;> omega
    have h1 := hcell 0 (by omega)
    have hsp : a.spot = none := by simpa [Addr.add] using World.cell?_spot h1
    obtain ⟨b, off, sp⟩ := a
    simp only at hsp
    subst hsp
    refine .inr ⟨b, off, L.map Value.string, 1, rfl, id, ?_, Nat.one_pos, ?_⟩
    · intro j u hj
      rw [List.getElem?_map, Option.map_eq_some_iff] at hj
      obtain ⟨z, hz1, rfl⟩ := hj
      have hjl : j < L.length := (List.getElem?_eq_some_iff.1 hz1).1
      have := hcell j (by omega)
      rw [add_at] at this
      rw [this]
      congr 2
      rw [List.getD_eq_getElem?_getD]
      rw [hL, List.getElem?_take] at hz1
      split at hz1
      · rw [hz1]; rfl
      · cases hz1
    · clear hL hlen h0 h hx
      induction L with
      | nil => rfl
      | cons s L ih => exact ⟨[.string s], _, rfl, rfl, ⟨.string s, [], rfl, ⟨rfl, rfl⟩, rfl⟩, ih⟩
/-- An array of strings that reads so. -/
theorem cells_of_strs {w : World} {base : Nat} {sp : Nat → Bool} {held : Bool} {fuel : Nat} {t e : TypeId} {n : Nat} {cs : List Value} {L : List ByteArray} {p : List MemPlace}
    (ht : P.underlying t = some (.array n e)) (he : P.underlying e = some .string) (hce : P.cellsOf e = 1) (hct : P.cellsOf t = n)
    (h : DataW.trod enc P w base sp held fuel t cs = some ((.agg (strs L) : DataW H), p)) : cs = L.map Value.string := by
  cases fuel with
  | zero => simp [DataW.trod] at h
  | succ fuel =>
    simp only [DataW.trod, ht, hce, hct, Nat.mul_one] at h
    split at h
    · rename_i hl
      obtain ⟨xs, hm, hx⟩ := Option.map_eq_some_iff.1 h
      have hxs : xs.map (·.1) = (strs L : List (DataW H)) := by
        have := congrArg Prod.fst hx
        simpa using this
      have hxl : xs.length = n := by simpa using Lib.mapM_length hm
      have hzl : L.length = n := by
        have := congrArg List.length hxs
        simp [strs] at this
        omega
      apply List.ext_getElem?
      intro i
      by_cases hi : i < n
      · obtain ⟨b, hb, hf⟩ := Lib.mapM_at hm i i (by simp [hi])
        obtain ⟨z, hc, rfl, _⟩ := DataW.trod_string he hf
        have h1 : cs[i]? = some (.string z) := by
          have := congrArg (·[0]?) hc
          simpa [List.getElem?_take, List.getElem?_drop] using this
        have h2 : (xs.map (·.1))[i]? = some (DataW.lit (.string z.data.toList) : DataW H) := by simp [hb]
        rw [hxs] at h2
        simp only [strs, List.getElem?_map, Option.map_eq_some_iff, DataW.lit.injEq, Lit.string.injEq] at h2
        obtain ⟨z', hz', e⟩ := h2
        have e2 : z' = z := by
          cases z; cases z'
          simp only at e
          congr 1
          exact Array.ext' e
        subst e2
        simp [h1, hz']
      · rw [List.getElem?_eq_none (by omega), List.getElem?_eq_none (by simp; omega)]
    · cases h
theorem gv_of_var {W : World} {name : String} {g : Nat} {cs : Array Value} {row : List C} (hg : P.globalNamed name = some g) (hvar : W.var? P name = some cs) (hr : RdRow W (fun _ => False) row cs.toList) : GV W (fun _ => False) g row := by
  unfold World.var? at hvar
  rw [hg] at hvar
  simp only [Option.bind_some] at hvar
  split at hvar
  · rename_i cs' t f hh
    cases hvar
    exact ⟨id, _, t, f, hh, hr⟩
  · cases hvar
end

theorem rdRow_strs {W : World} {A : Nat → Prop} : ∀ L : List ByteArray, RdRow W A (L.map (fun s => .val (.string s))) (L.map Value.string)
  | [] => rfl
  | s :: L => ⟨.string s, _, rfl, ⟨rfl, rfl⟩, rdRow_strs L⟩

section
variable {H : Type} {enc : TypeId × Value → H} {P : Program}
/-- An array of two slices of strings that reads so. -/
theorem rd_two {W : World} {t ts e : TypeId} (ht : P.underlying t = some (.array 2 ts)) (hs : P.underlying ts = some (.slice e)) (he : P.underlying e = some .string) (hc : P.cellsOf e = 1) (hcs : P.cellsOf ts = 1) (hct : P.cellsOf t = 2) {cs : List Value} {A B : List ByteArray} {p : List MemPlace} {base : Nat} {sp : Nat → Bool} {held : Bool} {fuel : Nat} (hA : 0 < A.length) (hB : 0 < B.length)
    (h : DataW.trod enc P W base sp held fuel t cs = some ((.agg [.slice (strs A) [], .slice (strs B) []] : DataW H), p)) : ∃ u v, cs = [u, v] ∧ Rd1 W (fun _ => False) (.list (A.map fun s => [.val (.string s)])) u ∧ Rd1 W (fun _ => False) (.list (B.map fun s => [.val (.string s)])) v := by
  cases fuel with
  | zero => simp [DataW.trod] at h
  | succ fuel =>
    simp only [DataW.trod, ht, hcs, hct, Nat.mul_one] at h
    split at h
    · rename_i hl
      obtain ⟨xs, hm, hx⟩ := Option.map_eq_some_iff.1 h
      have hxs : xs.map (·.1) = [.slice (strs A) [], .slice (strs B) []] := by
        have := congrArg Prod.fst hx
        simpa using this
      obtain ⟨c0, c1, rfl⟩ : ∃ c0 c1, cs = [c0, c1] := by
        match cs, hl with
        | [c0, c1], _ => exact ⟨c0, c1, rfl⟩
      obtain ⟨b0, hb0, hf0⟩ := Lib.mapM_at hm 0 0 (by simp)
      obtain ⟨b1, hb1, hf1⟩ := Lib.mapM_at hm 1 1 (by simp)
      have k0 : b0.1 = .slice (strs A) [] := by
        have := congrArg (·[0]?) hxs
        simpa [hb0] using this
      have k1 : b1.1 = .slice (strs B) [] := by
        have := congrArg (·[1]?) hxs
        simpa [hb1] using this
      obtain ⟨x0, q0⟩ := b0
      obtain ⟨x1, q1⟩ := b1
      simp only at k0 k1
      subst k0 k1
      obtain ⟨u, hu, ru⟩ := rd_strings hs he hc hA hf0
      obtain ⟨v, hv, rv⟩ := rd_strings hs he hc hB hf1
      refine ⟨u, v, ?_, ru, rv⟩
      simp at hu hv
      rw [hu, hv]
    · cases h

end
end Go.Vc
end

section
namespace Go.Vc
open Go.RowKit Go.ChangeShapes Go.WideShapes

section
variable {H : Type} {enc : TypeId × Value → H} {P : Program}

/-- Arguments read as they did. -/
theorem args_stay (hl : laidOutB P = true) {W W' : World} (hb : Below W.heap.size W W') : ∀ {ts : List TypeId} {vs : List Value} {ds : List (DataW H)} {ps : List MemPlace}, ts.all (fun t => P.readableRec t && decide (t < P.types.size)) = true →
    DataW.TrodAll enc P W 0 (fun _ => true) true ts vs ds ps → (∀ p ∈ ps, p.block < W.heap.size) → DataW.TrodAll enc P W' 0 (fun b => decide (b < W.heap.size)) true ts vs ds ps
  | [], vs, ds, ps, _, h, _ => by
    obtain ⟨rfl, rfl, rfl⟩ := trodAll_nil h
    rfl
  | t :: ts, vs, ds, ps, hr, h, hlt => by
    simp only [List.all_cons, Bool.and_eq_true, decide_eq_true_eq] at hr
    obtain ⟨⟨h1, h2⟩, h3⟩ := hr
    obtain ⟨v, vr, d, dr, p, q, rfl, rfl, rfl, g1, g2⟩ := trodAll_cons h
    exact ⟨p, q, Below.trod hl h1 h2 g1 hb (fun x hx => hlt x (List.mem_append.2 (.inl hx))), args_stay hl hb h3 g2 (fun x hx => hlt x (List.mem_append.2 (.inr hx))), rfl⟩

/-- What a law's row asks behind the call: true, and each argument reads as it did. -/
theorem law_post {f : Func} {s : ChangeSpec} {W W' : World} {args : Array Value} {ds : List (DataW H)} {before : List MemPlace} {bt : TypeId} (hv : s.vars = []) (hW : DataW.Whole enc P f.params.toList s.vars false W args.toList ds [] before)
    (hr : (s.fn H (ds ++ [])).results = [.lit (.bool true)]) (ha : (s.fn H (ds ++ [])).args = ds) (hg : (s.fn H (ds ++ [])).vars = []) (hrt : f.resultTypes = #[bt]) (hbt : P.underlying bt = some .bool)
    (hl : laidOutB P = true) (hrd : f.params.toList.all (fun t => P.readableRec t && decide (t < P.types.size)) = true) (hb : Below W.heap.size W W') : s.post enc P f false true false false W args (.bool true) W' := by
  have hlt := hW.lt
  have hW' := hW
  obtain ⟨p, q, hA, hV, rfl, _, _⟩ := hW'
  rw [hv] at hV
  obtain ⟨_, rfl⟩ := trodVars_none hV
  refine ⟨ds, [], p ++ [], [], p, [], hW, ?_, ?_, ?_, World.keptBut_mono (fun x hx => ⟨hx, .inr (.inl (by simpa using hx))⟩) (hb.frame (· ∈ p ++ [])), fun h => by cases h⟩
  · rw [hr, hrt]
    exact trodAll_mk1 (shut_bool hbt _)
  · rw [ha]
    exact args_stay hl hb hrd hA (fun x hx => hlt x (by simpa using hx))
  · rw [hg, hv]
    rfl

/-- A slice of integers that came in. -/
theorem rd_ints {W : World} {t e : TypeId} {k : IntKind} (ht : P.underlying t = some (.slice e)) (he : P.underlying e = some (.int k)) (hc : P.cellsOf e = 1) {v : Value} {d : DataW H} {ps : List MemPlace} (hs : ∃ a len cap, v = .slice a len cap)
    (h : DataW.Trod enc P W 0 (fun _ => true) true t v d ps) : ∃ L : List Int, Rd1 W (fun _ => False) (.list (L.map (fun n => [.val (.int k n)]))) v ∧ ∀ n ∈ L, (Lit.int k n).wf = true := by
  obtain ⟨a0, len0, cap0, rfl⟩ := hs
  obtain ⟨fuel, hf⟩ := h
  rcases open_ints ht he hc hf with ⟨hn, _⟩ | ⟨a, len, cap, zs, hcs, _, hle, hcap, hz, _, hcell, hwf⟩
  · simp only [Value.cells, List.cons.injEq, Value.slice.injEq, and_true] at hn
    obtain ⟨rfl, rfl, rfl⟩ := hn
    exact ⟨[], ⟨none, 0, rfl, Nat.le_refl _, Nat.zero_le _, .inl rfl⟩, by simp⟩
  · simp only [Value.cells, List.cons.injEq, Value.slice.injEq, and_true] at hcs
    obtain ⟨rfl, rfl, rfl⟩ := hcs
    simp only [if_true] at hz
    have hlen : (zs.take len0).length = len0 := by simp; omega
    refine ⟨zs.take len0, ⟨some a, cap0, by rw [List.length_map, hlen], by rw [List.length_map, hlen]; exact hle, hcap, ?_⟩, fun n hn => hwf n (List.mem_of_mem_take hn)⟩
    by_cases h0 : len0 = 0
    · exact .inl (by rw [List.length_map, hlen]; exact h0)
    · have h1 := hcell 0 (by omega)
      have hsp : a.spot = none := by simpa [Addr.add] using World.cell?_spot h1
      obtain ⟨b, off, sp⟩ := a
      simp only at hsp
      subst hsp
      refine .inr ⟨b, off, (zs.take len0).map (Value.int k), 1, rfl, id, ?_, Nat.one_pos, ?_⟩
      · intro j u hj
        rw [List.getElem?_map, Option.map_eq_some_iff] at hj
        obtain ⟨z, hz1, rfl⟩ := hj
        rw [List.getElem?_take] at hz1
        split at hz1
        · have hjl : j < zs.length := by omega
          have := hcell j hjl
          rw [add_at] at this
          rw [this]
          congr 2
          rw [List.getD_eq_getElem?_getD, hz1]
          rfl
        · cases hz1
      · generalize zs.take len0 = L
        induction L with
        | nil => rfl
        | cons n L ih => exact ⟨[.int k n], L.map (Value.int k), rfl, rfl, ⟨_, _, rfl, ⟨rfl, rfl⟩, rfl⟩, ih⟩

/-- From a contract to a run. -/
theorem con_run [Gl P] {f : FuncId} {ss : List S} {vs : List Value} {W : World} (con : Con P f ss [] (fun K => K (Bl true) [])) (hs : SOks W (fun _ => False) ss vs) (hgl : Gl.ok P W (fun _ => False) := by exact trivial) : Calls P f vs.toArray W (fun e W' => e = .returned (.bool true) ∧ Below W.heap.size W W') := by
  refine (con vs W (fun _ => False) (fun _ h => h.elim) (by simp [hb]) (by simp [hb]) hs (by simp) hgl).mono ?_
  rintro e W' ⟨v, s, Ho, rfl, hK, hv, _, _, _, hg⟩
  obtain ⟨rfl, rfl⟩ := hK (fun s' H' => s' = Bl true ∧ H' = []) ⟨rfl, rfl⟩
  obtain ⟨rfl, _⟩ := hv
  exact ⟨rfl, hg.os, hg.tape, hg.output, hg.size, fun k hk => hg.block k hk (by simp [hb])⟩
end
end Go.Vc
end

section
namespace Go.Proofs.YtlniadfidfmckaaGreatDoor
open Go.ChangeShapes Go.WideShapes Go.ChangeAt Go.RowKit Go.Vc Go.Joins Go.Deep

theorem own : ownKnob Tryz.prog.godebug = none := by kernel_rfl
theorem laidOut : laidOutB Tryz.prog = true := by kernel_rfl
theorem cells3 : Tryz.prog.cellsOf 3 = 1 := by kernel_rfl
theorem cellsS : Tryz.prog.cellsOf 9 = 1 := by kernel_rfl
theorem gTab : Tryz.prog.globalNamed "internal/strconv.uint64pow10" = some 4 := by kernel_rfl
theorem gTabType : (Tryz.prog.globals[4]?).map (·.type) = some 186 := by kernel_rfl
theorem cellsTab : Tryz.prog.cellsOf 186 = 20 := by kernel_rfl
theorem cellsU64 : Tryz.prog.cellsOf 165 = 1 := by kernel_rfl
theorem tabData_eq : (Rows.laid_internal_strconv_uint64pow10 : DataW Unit) = Lib.tabData .u64 Lib.pow10Tab := by kernel_rfl
theorem wordsData_eq : (Rows.laid_timebound_tree_words : DataW Unit) = .slice (strs words) [] := by kernel_rfl
theorem signsData_eq : (Rows.laid_timebound_tree_signs : DataW Unit) = .agg (strs signL) := by kernel_rfl
theorem gWords : Tryz.prog.globalNamed "timebound/tree.words" = some 1 := by kernel_rfl
theorem gWordsType : (Tryz.prog.globals[1]?).map (·.type) = some 27 := by kernel_rfl
theorem gSigns : Tryz.prog.globalNamed "timebound/tree.signs" = some 0 := by kernel_rfl
theorem gSignsType : (Tryz.prog.globals[0]?).map (·.type) = some 154 := by kernel_rfl
theorem cellsSigns : Tryz.prog.cellsOf 154 = 14 := by kernel_rfl
theorem cellsLs : Tryz.prog.cellsOf 27 = 1 := by kernel_rfl
theorem linesData_eq : (Rows.laid_timebound_parse_lines : DataW Unit) = .agg [.slice (strs addL) [], .slice (strs mulL) []] := by kernel_rfl
theorem cmpsData_eq : (Rows.laid_timebound_parse_comparisons : DataW Unit) = .slice (strs cmpL) [] := by kernel_rfl
theorem gLines : Tryz.prog.globalNamed "timebound/parse.lines" = some 5 := by kernel_rfl
theorem gLinesType : (Tryz.prog.globals[5]?).map (·.type) = some 189 := by kernel_rfl
theorem cellsLines : Tryz.prog.cellsOf 189 = 2 := by kernel_rfl
theorem gCmps : Tryz.prog.globalNamed "timebound/parse.comparisons" = some 2 := by kernel_rfl
theorem gCmpsType : (Tryz.prog.globals[2]?).map (·.type) = some 27 := by kernel_rfl
theorem gl_of {W : World} (h : laidMetH Tryz.prog Rows.printParsesRow.laid W) : Gl.ok Tryz.prog W (fun _ => False) := by
  have h1 : laidMet Tryz.prog Rows.printParsesRow.laid W := h
  have h2 := laidMet.tail (laidMet.tail h1)
  have h3 := laidMet.tail h2
  have h4 := laidMet.tail h3
  have h5 := laidMet.tail h4
  have h6 := laidMet.tail h5
  rw [tabData_eq] at h2
  rw [wordsData_eq] at h3
  rw [signsData_eq] at h4
  rw [linesData_eq] at h5
  rw [cmpsData_eq] at h6
  refine ⟨⟨4, gTab, id, Lib.tabIs_of_head gTab gTabType Tryz.underlying186 Tryz.underlying165 cellsU64 cellsTab h2⟩, ?_, ?_, ?_, ?_⟩
  · obtain ⟨ps, ⟨g', t', cs, fuel, p, q, hg', ht', hvar, hd, _, _⟩, _⟩ := h3
    obtain rfl := Option.some.inj (gWords.symm.trans hg')
    obtain rfl := Option.some.inj (gWordsType.symm.trans ht')
    obtain ⟨v, hcs, hr⟩ := rd_strings Tryz.underlying27 Tryz.underlying9 cellsS (by decide) hd
    exact gv_of_var gWords hvar (by rw [hcs]; exact ⟨v, [], rfl, hr, rfl⟩)
  · obtain ⟨ps, ⟨g', t', cs, fuel, p, q, hg', ht', hvar, hd, _, _⟩, _⟩ := h4
    obtain rfl := Option.some.inj (gSigns.symm.trans hg')
    obtain rfl := Option.some.inj (gSignsType.symm.trans ht')
    have e := cells_of_strs Tryz.underlying154 Tryz.underlying9 cellsS cellsSigns hd
    exact gv_of_var gSigns hvar (by rw [e]; exact rdRow_strs signL)
  · obtain ⟨ps, ⟨g', t', cs, fuel, p, q, hg', ht', hvar, hd, _, _⟩, _⟩ := h5
    obtain rfl := Option.some.inj (gLines.symm.trans hg')
    obtain rfl := Option.some.inj (gLinesType.symm.trans ht')
    obtain ⟨u, v, hcs, hu, hv⟩ := rd_two Tryz.underlying189 Tryz.underlying27 Tryz.underlying9 cellsS cellsLs cellsLines (by decide) (by decide) hd
    exact gv_of_var gLines hvar (by rw [hcs]; exact ⟨u, [v], rfl, hu, v, [], rfl, hv, rfl⟩)
  · obtain ⟨ps, ⟨g', t', cs, fuel, p, q, hg', ht', hvar, hd, _, _⟩, _⟩ := h6
    obtain rfl := Option.some.inj (gCmps.symm.trans hg')
    obtain rfl := Option.some.inj (gCmpsType.symm.trans ht')
    obtain ⟨v, hcs, hr⟩ := rd_strings Tryz.underlying27 Tryz.underlying9 cellsS (by decide) hd
    exact gv_of_var gCmps hvar (by rw [hcs]; exact ⟨v, [], rfl, hr, rfl⟩)
/-- A world for the witness: as the program's start lays it. -/
noncomputable def laidWorld (os : Os) : World := World.doorLaid Tryz.prog 400 os
theorem laid_met (os : Os) (args : Array Value) : laidMet Tryz.prog Rows.printParsesRow.laid ((laidWorld os).forCall (fun _ _ => 0) ⟨#[], args, []⟩).memory :=
  laidMet_of_run' 8 (by kernel_rfl) (by kernel_rfl)
end Go.Proofs.YtlniadfidfmckaaGreatDoor
end

section
namespace Go.Proofs.YtlniadfidfmckaaGreatDoor.printParses
open Go.ChangeShapes Go.WideShapes Go.ChangeAt Go.RowKit Go.Vc Go.Joins

set_option maxRecDepth 100000 in
theorem contract (H : Type) (enc : TypeId × Value → H) (W : World) (base : Nat) (args : Array Value) (ds gs : List (DataW H)) (before : List MemPlace)
    (hval : ∀ (j : Nat) t v, Tryz.f4.params[j]? = some t → args[j]? = some v → Value.okWide Tryz.prog W .any base t v)
    (hW : DataW.Whole enc Tryz.prog Tryz.f4.params.toList Rows.printParsesSpec.vars false W args.toList ds gs before) (hL : laidMetH Tryz.prog Rows.printParsesRow.laid W) :
    Calls Tryz.prog 4 args W fun e W' => ∃ v, e = .returned v ∧ Rows.printParsesSpec.post enc Tryz.prog Tryz.f4 false true false false W args v W' := by
  have hW' := hW
  obtain ⟨p, q, hA0, hV, rfl, hfz, hnd⟩ := hW
  have hA : DataW.TrodAll enc Tryz.prog W 0 (fun _ => true) true Tryz.f4.params.toList args.toList ds p := hA0
  rw [Tryz.params4] at hA hval
  obtain ⟨v0, vs0, d0, ds0, p0, q0, hargs, rfl, rfl, h0, r0⟩ := trodAll_cons hA
  obtain ⟨v1, vs1, d1, ds1, p1, q1, rfl, rfl, rfl, h1, r1⟩ := trodAll_cons r0
  obtain ⟨rfl, rfl, rfl⟩ := trodAll_nil r1
  obtain rfl : args = #[v0, v1] := by cases args; simp_all
  obtain ⟨rfl, rfl⟩ := trodVars_none hV
  obtain ⟨L0, hL0, hwf0⟩ := rd_ints Tryz.underlying22 Tryz.underlying3 cells3 (okWide_slice Tryz.underlying22 (hval 0 22 v0 rfl rfl)) h0
  have hn0 : ∀ n ∈ L0, -9223372036854775808 ≤ n ∧ n ≤ 9223372036854775807 := fun n hn => by simpa [Lit.wf, IntKind.min, IntKind.max, IntKind.signed, IntKind.bits] using hwf0 n hn
  obtain ⟨n1, rfl, rfl, rfl, w1⟩ := open_int Tryz.underlying3 (hval 1 3 v1 rfl rfl) h1
  have hn1 : -9223372036854775808 ≤ n1 ∧ n1 ≤ 9223372036854775807 := by simpa [Lit.wf, IntKind.min, IntKind.max, IntKind.signed, IntKind.bits] using w1
  refine (con_run (vs := [v0, .int .i64 n1]) (PrintParses_c L0 hn0 n1 hn1) ⟨_, _, rfl, hL0, _, _, rfl, ⟨rfl, rfl⟩, rfl⟩ (gl_of hL)).mono ?_
  rintro e W' ⟨rfl, hb⟩
  exact ⟨_, rfl, law_post rfl hW' rfl rfl rfl rfl Tryz.underlying4 laidOut (by kernel_rfl) hb⟩

theorem reads (os : Os) {H : Type} (enc : TypeId × Value → H) : ∃ places, DataW.whole enc Tryz.prog ((laidWorld os).forCall (fun _ _ => 0) ⟨#[], #[.slice none 0 0, .int .i64 0], []⟩).memory Tryz.f4.params.toList Rows.printParsesSpec.vars false #[Value.slice none 0 0, .int .i64 0].toList 8 = some ([.nil, .lit (.int .i64 0)], [], places) :=
  ⟨[], by kernel_rfl⟩

set_option maxRecDepth 100000 in
theorem lifted (os : Os) (started : os.Started) (H : Type) (enc : TypeId × Value → H) (F : Stop.Interp) :
    ReturnsInHanded {} Tryz.checked os 4 .any ((OpenSpec.ofChange Rows.printParsesSpec).preRow enc Tryz.prog Tryz.f4 Rows.printParsesRow.domain false Rows.printParsesRow.laid) (((OpenSpec.ofChange Rows.printParsesSpec).at F).post enc Tryz.prog Tryz.f4 false true false false) := by
  obtain ⟨places, hx⟩ := reads os enc
  refine returnsInHanded_of_row (C := Tryz.checked) (s := OpenSpec.ofChange Rows.printParsesSpec) own started (by kernel_rfl) Tryz.func4
    (witness_row_atRef (enc := enc) (C := Tryz.checked) false (laidWorld os) _ rfl (by kernel_rfl) (by kernel_rfl) (by kernel_rfl)
      (OpenSpec.preRow_of_cond 8 hx (by kernel_rfl) (fun k hk => by cases hk) (by kernel_rfl) (laid_met os _))) ?_
  intro W base args ds gs before hval hW _ _ _ hL _ _
  exact contract H enc W base args ds gs before hval hW hL

theorem said : Rows.PrintParsesSaid :=
  OpenClaim.holds_of_cond 4 Tryz.f4 rfl rfl rfl rfl rfl rfl rfl ⟨rfl, rfl, rfl, rfl, rfl⟩ rfl rfl rfl rfl rfl (by kernel_rfl) Tryz.func4 (by kernel_rfl)
    (of_decide_eq_true (by kernel_rfl)) (by unfold Func.isWrapper; first | (rw [if_pos (by decide +kernel)]; kernel_rfl) | (rw [if_neg (by decide +kernel)]; exact ⟨rfl, rfl⟩))
    (fun os started H enc _ F => by rw [OpenClaim.pre_eq_preRow]; exact lifted os started H enc F)

theorem plain (f : FuncId) (fn : Func) (hf : Tryz.pinned.checked.prog.funcNamed "timebound/timeboundlaw04.PrintParses" = some f) (hfn : Tryz.pinned.checked.prog.funcs[f]? = some fn) :
    true = Tryz.pinned.checked.prog.looks [] ∧ ∀ (j : Nat) t, fn.params[j]? = some t → Tryz.pinned.checked.prog.wantsStandIn t = false := by
  obtain rfl : f = 4 := Option.some.inj ((show Tryz.prog.funcNamed "timebound/timeboundlaw04.PrintParses" = some 4 by kernel_rfl).symm.trans hf) |>.symm
  obtain rfl : fn = Tryz.f4 := (Option.some.inj (Tryz.func4.symm.trans hfn)).symm
  refine ⟨by kernel_rfl, fun j t ht => ?_⟩
  have hall : (Tryz.f4.params.toList.all fun u => !Tryz.prog.wantsStandIn u) = true := by kernel_rfl
  have hm : t ∈ Tryz.f4.params.toList := by simpa using Array.mem_of_getElem? ht
  exact (show Tryz.prog.wantsStandIn t = false by simpa using List.all_eq_true.1 hall t hm)

theorem card : Rows.PrintParsesCardSaid :=
  Claim7.holds_tied_plain_at .later [] _ _ _ _ said (fun _ h => by cases h) (by kernel_rfl) (fun _ h => by cases h) printParses_row_tie rfl ⟨rfl, rfl⟩ (by kernel_rfl) rfl plain (by kernel_rfl)
end Go.Proofs.YtlniadfidfmckaaGreatDoor.printParses
end
