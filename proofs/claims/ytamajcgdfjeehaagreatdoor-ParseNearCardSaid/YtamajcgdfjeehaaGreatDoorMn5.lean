import Derived.Test.YtamajcgdfjeehaaGreatDoorMn4
section
namespace Go.Proofs.YtamajcgdfjeehaaGreatDoor
open Go.Vc
attribute [local irreducible] JL JC JQ OpWp Con ConN Pan ConE OpPan HP HT HOk hasW idxW isA isNum isNm numAt txtAt lineAt opAt lx lpx sx sxp
set_option maxHeartbeats 4000000

def finT (l : List Tok) (b : Nat) : R T → Fin
  | .ok t c => .ret (fun K => K (.row t.row') [Pz b l c])
  | .er code p => .pan (stopV l code p)
def JnP (l : List Tok) (F : Nat) : Prop := ∀ b k a, k ≤ 2 → a ≤ l.length → need l (k + 1) a ≤ F → ConE Tryz.prog 165 [Ptr b, In .i64 (k : Int)] [Pz b l a] (finT l b (sx false l F (k + 1) a))
def ExP (l : List Tok) (F : Nat) : Prop := ∀ b a, a ≤ l.length → need l 0 a ≤ F → ConE Tryz.prog 145 [Ptr b] [Pz b l a] (finT l b (sx false l F 0 a))
def FaP (l : List Tok) (F : Nat) : Prop := ∀ b a, a ≤ l.length → need l 3 a ≤ F → ConE Tryz.prog 176 [Ptr b] [Pz b l a] (finT l b (sx false l F 3 a))
theorem finT_ok {l : List Tok} {b : Nat} {P : Program} [Gl P] {f : FuncId} {args : List S} {Hin : List Ch} {r : R T} {t : T} {c : Nat} (h : ConE P f args Hin (finT l b r)) (e : r = .ok t c) : Con P f args Hin (fun K => K (.row t.row') [Pz b l c]) := by subst e; unfold finT ConE at h; exact h
theorem finT_er {l : List Tok} {b : Nat} {P : Program} [Gl P] {f : FuncId} {args : List S} {Hin : List Ch} {r : R T} {code : Int} {p : Nat} (h : ConE P f args Hin (finT l b r)) (e : r = .er code p) : Pan P f args Hin (stopV l code p) := by subst e; unfold finT ConE at h; exact h
theorem dpr_y {fr : Bool} {t : T} (h : ¬ (fr = false ∧ 8 < t.dep)) (a : Nat) : dpR fr t a = .ok t a := by unfold dpR; rw [if_neg h]
theorem dpr_n {fr : Bool} {t : T} (h : fr = false ∧ 8 < t.dep) (a : Nat) : dpR fr t a = .er 4 (a - 1) := by unfold dpR; rw [if_pos h]
section
variable {l : List Tok} {a b : Nat} (hl : l.length ≤ 1000000)
theorem pnode_y (t : T) (h : ¬ 8 < t.dep) : Con Tryz.prog 166 [Ptr b, .row t.row'] [Pz b l a] (fun K => K (.row t.row') [Pz b l a]) := by
  have hD := Depth_c 8 t (by omega)
  rw [dl_eq] at hD
  have hd' : ¬ ((min t.dep (8 + 1) : Nat) : Int) > 8 := by omega
  refine con_intro Tryz.func166 rfl rfl (Nat.le_of_ble_eq_true rfl) (fun c hc => R_ (o_ r_ (ci_ r_ (fun bx => o_ r_ (bl_ r_ r_ (fun bl => T_ (am_ (R_ (A_ 1 r_ (o_ r_ (bm_ r_ (hD) (o_ r_ (bz_ r_ r_ (T_ (ap_ r_ w_ (as_ (al_ (R_ (A_ 1 r_ ?_)))))))))))))))))))
  exact S_ 0 r_ (T_ (ar_ (jq_retRowS rfl rfl rfl rfl 0 rfl (fun K h => h) (bc_ 2 r_ sub_end))))
include hl
theorem pnode_n (t : T) (h : 8 < t.dep) (ha1 : 1 ≤ a) (ha : a ≤ l.length) : Pan Tryz.prog 166 [Ptr b, .row t.row'] [Pz b l a] (stopV l 4 (a - 1)) := by
  have hD := Depth_c 8 t (by omega)
  rw [dl_eq] at hD
  have hd' : ((min t.dep (8 + 1) : Nat) : Int) > 8 := by omega
  have hF := pfail_c (a := a) (b := b) hl 4 (a - 1) (by omega)
  rw [show ((a - 1 : Nat) : Int) = (a : Int) - 1 by omega] at hF
  refine pan_intro Tryz.func166 rfl rfl (Nat.le_of_ble_eq_true rfl) (fun c hc => R_ (o_ r_ (ci_ r_ (fun bx => o_ r_ (bl_ r_ r_ (fun bl => T_ (am_ (R_ (A_ 1 r_ (o_ r_ (bm_ r_ (hD) (o_ r_ (bz_ r_ r_ (T_ (aq_ r_ u_ (an_ (M_ r_ (M_ r_ (N_ r_ ?_)))))))))))))))))))
  refine F_ r_ (L_ 2 r_ (o_ r_ (cg_ r_ r_ g_ ?_)))
  exact jl_pan (op_pan [2] rfl rfl (hF)) (by (repeat (first | refine pq_then ?_ | refine pq_block ?_)); exact pq_fin (by first | rfl | assumption))
theorem pexpr_step (F : Nat) (hJ : JnP l F) : ExP l (F + 1) := by
  intro b a ha hN
  unfold need at hN
  have con := hJ b 0 a (by omega) ha (by unfold need; omega)
  refine con_introE Tryz.func145 rfl rfl (Nat.le_of_ble_eq_true rfl) (fun c hc => ?_)
  cases hs : sx false l F 1 a with
  | er code p =>
    have e : finT l b (sx false l (F + 1) 0 a) = .pan (stopV l code p) := by rw [sx, if_neg (by omega), hs]; rfl
    have con := finT_er con hs
    refine R_ (o_ r_ (bl_ r_ r_ (fun bl => T_ (R_ (M_ r_ ?_)))))
    exact jl_pan (op_pan [1] rfl rfl (con)) (by (repeat (first | refine pq_then ?_ | refine pq_block ?_)); exact pq_fin (by first | rfl | assumption))
  | ok x c =>
    have hbd := sx_bd _ _ _ _ _ hs
    have con := finT_ok con hs
    cases ho : opAt l cmpL c with
    | none =>
      have e : finT l b (sx false l (F + 1) 0 a) = .ret (fun K => K (.row x.row') [Pz b l c]) := by rw [sx, if_neg (by omega), hs]; show finT l b (sxp false l cmpL (sx false l F 1) 1 x c) = _; rw [sxp, ho]; rfl
      refine R_ (o_ r_ (bl_ r_ r_ (fun bl => T_ (R_ (M_ r_ (o_ r_ (bi_ [1] r_ r_ (con) (o_ r_ (bl_ r_ r_ (fun bl => S_ 0 r_ (T_ (am_ (R_ (M_ r_ (o_ r_ (dd_ gl_cmps r_ r_ r_ (o_ r_ (bt_ [] rfl rfl (one_c b cmpL) (fun pp hpp => o_ r_ (cx_ (cs := [Ptr _, Ptr _]) [0, 0, 1] rfl rfl (fun _ _ => ⟨_, _, rfl, ⟨rfl, rfl⟩, _, _, rfl, ⟨rfl, rfl⟩, rfl⟩) rfl (op1_none hl g_ ho _ _) (E_ r_ ?_)))))))))))))))))))))
      exact T_ (R_ (M_ r_ (o_ r_ (bx_ r_ r_ (T_ (ap_ r_ r_ (as_ (al_ (R_ (A_ 3 r_ (S_ 4 r_ (T_ (ar_ (jq_fin e (jq_retRowS rfl rfl rfl rfl 0 rfl (fun K h => h) (bc_ 3 r_ sub_end))))))))))))))))
    | some o =>
      have ho0 : ¬ o = 0 := opAt_pos (k := 0) ho
      have hlt := opAt_lt ho
      have con2 := hJ b 0 (c + 1) (by omega) (by omega) (by unfold need; omega)
      refine R_ (o_ r_ (bl_ r_ r_ (fun bl => T_ (R_ (M_ r_ (o_ r_ (bi_ [1] r_ r_ (con) (o_ r_ (bl_ r_ r_ (fun bl => S_ 0 r_ (T_ (am_ (R_ (M_ r_ (o_ r_ (dd_ gl_cmps r_ r_ r_ (o_ r_ (bt_ [] rfl rfl (one_c b cmpL) (fun pp hpp => o_ r_ (cx_ (cs := [Ptr _, Ptr _]) [0, 0, 1] rfl rfl (fun _ _ => ⟨_, _, rfl, ⟨rfl, rfl⟩, _, _, rfl, ⟨rfl, rfl⟩, rfl⟩) rfl (op1_some hl g_ ho _ _) (E_ r_ ?_)))))))))))))))))))))
      refine T_ (R_ (M_ r_ (o_ r_ (bx_ r_ r_ (T_ (aq_ r_ u_ ?_))))))
      cases hs2 : sx false l F 1 (c + 1) with
      | er code p =>
        have e : finT l b (sx false l (F + 1) 0 a) = .pan (stopV l code p) := by rw [sx, if_neg (by omega), hs]; show finT l b (sxp false l cmpL (sx false l F 1) 1 x c) = _; rw [sxp, ho]; dsimp only; rw [hs2]; rfl
        have con2 := finT_er con2 hs2
        refine jc_hp1 7 (n := 8) rfl 3 k_ rfl (fun cs1 hcs1 => ?_)
        obtain ⟨u10, u11, u12, u13, u14, rfl⟩ := len5 hcs1
        refine df_ (i := 0) rfl k_ k_ k_ b_ (by (repeat (first | refine pani_then ?_ | refine pani_block ?_)); exact pani_body) (dk_ rfl) ?_
        refine df_ (i := 1) rfl k_ k_ k_ b_ (by (repeat (first | refine pani_then ?_ | refine pani_block ?_)); exact pani_body) (dk_ rfl) ?_
        refine df_ (i := 2) rfl k_ k_ k_ b_ (by (repeat (first | refine pani_then ?_ | refine pani_block ?_)); exact pani_body) (dn_ 3 rfl rfl rfl mem0 rfl) ?_
        refine df_ (i := 3) rfl k_ k_ k_ b_ (by (repeat (first | refine pani_then ?_ | refine pani_block ?_)); exact pani_body) (dk_ rfl) ?_
        refine hp_exact 3 rfl mem0 ?_
        exact hp_pan (i := 4) rfl k_ (op_pan [3] rfl rfl (con2)) (by (repeat (first | refine pq_then ?_ | refine pq_block ?_)); exact pq_fin (by first | rfl | assumption))
      | ok y d =>
        have hbd2 := sx_bd _ _ _ _ _ hs2
        have con2 := finT_ok con2 hs2
        by_cases hd : 8 < (T.bn o x y).dep
        · have e : finT l b (sx false l (F + 1) 0 a) = .pan (stopV l 4 (d - 1)) := by rw [sx, if_neg (by omega), hs]; show finT l b (sxp false l cmpL (sx false l F 1) 1 x c) = _; rw [sxp, ho]; dsimp only; rw [hs2]; dsimp only; rw [dpr_n ⟨rfl, hd⟩]; rfl
          refine jc_hp1 7 (n := 8) rfl 3 k_ rfl (fun cs1 hcs1 => ?_)
          obtain ⟨u10, u11, u12, u13, u14, rfl⟩ := len5 hcs1
          refine df_ (i := 0) rfl k_ k_ k_ b_ (by (repeat (first | refine pani_then ?_ | refine pani_block ?_)); exact pani_body) (dk_ rfl) ?_
          refine df_ (i := 1) rfl k_ k_ k_ b_ (by (repeat (first | refine pani_then ?_ | refine pani_block ?_)); exact pani_body) (dk_ rfl) ?_
          refine df_ (i := 2) rfl k_ k_ k_ b_ (by (repeat (first | refine pani_then ?_ | refine pani_block ?_)); exact pani_body) (dn_ 3 rfl rfl rfl mem0 rfl) ?_
          refine df_ (i := 3) rfl k_ k_ k_ b_ (by (repeat (first | refine pani_then ?_ | refine pani_block ?_)); exact pani_body) (dk_ rfl) ?_
          refine hp_exact 3 rfl mem0 (dg_ (i := 4) r_ k_ b_ (bi_ [3] r_ r_ (con2) ⟨?_, ?_⟩))
          exact keep1 1 rfl
          refine dg_ (i := 5) r_ k_ b_ (bm_ r_ (binary_c o x y) ⟨?_, ?_⟩)
          exact keep1 1 rfl
          exact hp_pan (i := 6) rfl k_ (op_pan [0] rfl rfl (pnode_n hl _ hd g_ g_)) (by (repeat (first | refine pq_then ?_ | refine pq_block ?_)); exact pq_fin (by first | rfl | assumption))
        · have e : finT l b (sx false l (F + 1) 0 a) = .ret (fun K => K (.row (T.bn o x y).row') [Pz b l d]) := by rw [sx, if_neg (by omega), hs]; show finT l b (sxp false l cmpL (sx false l F 1) 1 x c) = _; rw [sxp, ho]; dsimp only; rw [hs2]; dsimp only; rw [dpr_y (fun h => hd h.2)]; dsimp only; rw [sxp]; rfl
          refine jc_hp1 7 (n := 8) rfl 3 k_ rfl (fun cs1 hcs1 => ?_)
          obtain ⟨u10, u11, u12, u13, u14, rfl⟩ := len5 hcs1
          refine df_ (i := 0) rfl k_ k_ k_ b_ (by (repeat (first | refine pani_then ?_ | refine pani_block ?_)); exact pani_body) (dk_ rfl) ?_
          refine df_ (i := 1) rfl k_ k_ k_ b_ (by (repeat (first | refine pani_then ?_ | refine pani_block ?_)); exact pani_body) (dk_ rfl) ?_
          refine df_ (i := 2) rfl k_ k_ k_ b_ (by (repeat (first | refine pani_then ?_ | refine pani_block ?_)); exact pani_body) (dn_ 3 rfl rfl rfl mem0 rfl) ?_
          refine df_ (i := 3) rfl k_ k_ k_ b_ (by (repeat (first | refine pani_then ?_ | refine pani_block ?_)); exact pani_body) (dk_ rfl) ?_
          refine hp_exact 3 rfl mem0 (dg_ (i := 4) r_ k_ b_ (bi_ [3] r_ r_ (con2) ⟨?_, ?_⟩))
          exact keep1 1 rfl
          refine dg_ (i := 5) r_ k_ b_ (bm_ r_ (binary_c o x y) ⟨?_, ?_⟩)
          exact keep1 1 rfl
          refine dg_ (i := 6) r_ k_ b_ (bi_ [0] r_ r_ (pnode_y _ hd) ⟨?_, ?_⟩)
          exact keep1 1 rfl
          exact hp_tail (dj_ (i := 7) rfl k_ (by decide) (bk_ 1 rfl rfl rfl rfl rfl rfl (ht_done k_ (al_ (R_ (A_ 0 r_ (S_ 4 r_ (T_ (ar_ (jq_fin e (jq_retRowS rfl rfl rfl rfl 0 rfl (fun K h => h) (bc_ 2 r_ sub_end))))))))))))
omit hl in
theorem pjoined_top (F b a : Nat) (hF : FaP l F) (ha : a ≤ l.length) (hN : need l 3 a ≤ F) : ConE Tryz.prog 165 [Ptr b, In .i64 ((2 : Nat) : Int)] [Pz b l a] (finT l b (sx false l F 3 a)) := by
  have con := hF b a ha hN
  refine con_introE Tryz.func165 rfl rfl (Nat.le_of_ble_eq_true rfl) (fun c hc => ?_)
  cases hs : sx false l F 3 a with
  | er code p =>
    have e : finT l b (.er code p) = .pan (stopV l code p) := rfl
    have con := finT_er con hs
    refine R_ (o_ r_ (bl_ r_ r_ (fun bl => T_ (am_ (R_ (M_ r_ (o_ r_ (bn_ r_ r_ (T_ (aq_ r_ x_ (R_ (M_ r_ ?_))))))))))))
    exact jl_pan (op_pan [1] rfl rfl (con)) (by (repeat (first | refine pq_then ?_ | refine pq_block ?_)); exact pq_fin (by first | rfl | assumption))
  | ok x c =>
    have e : finT l b (.ok x c) = .ret (fun K => K (.row x.row') [Pz b l c]) := rfl
    have con := finT_ok con hs
    refine R_ (o_ r_ (bl_ r_ r_ (fun bl => T_ (am_ (R_ (M_ r_ (o_ r_ (bn_ r_ r_ (T_ (aq_ r_ x_ (R_ (M_ r_ (o_ r_ (bi_ [1] r_ r_ (con) (S_ 1 r_ (T_ (ar_ (aw_ ?_))))))))))))))))))
    exact jq_fin e (jq_retRowS rfl rfl rfl rfl 0 rfl (fun K h => h) (bc_ 1 r_ sub_end))
theorem pjoined_step (F k b a : Nat) (hk : k ≤ 1) (hJ : ∀ a, a ≤ l.length → need l (k + 2) a ≤ F → ConE Tryz.prog 165 [Ptr b, In .i64 ((k : Int) + 1)] [Pz b l a] (finT l b (sx false l F (k + 2) a)))
    (ha : a ≤ l.length) (hN : need l (k + 1) a ≤ F + 1) : ConE Tryz.prog 165 [Ptr b, In .i64 (k : Int)] [Pz b l a] (finT l b (sx false l (F + 1) (k + 1) a)) := by
  unfold need at hN
  have con := hJ a ha (by unfold need; omega)
  have hk2 : ¬ (k : Int) = 2 := by omega
  refine con_introE Tryz.func165 rfl rfl (Nat.le_of_ble_eq_true rfl) (fun c hc => R_ (o_ r_ (bl_ r_ r_ (fun bl => T_ (am_ (R_ (M_ r_ (o_ r_ (bn_ r_ r_ (T_ (ap_ r_ w_ (as_ (al_ (R_ (M_ r_ (M_ r_ (o_ r_ (de_ (n := 2) (e := 28) r_ r_ r_ g_ g_ ?_))))))))))))))))))
  refine o_ r_ (dd_ (e := .list ((opsL (k + 1)).map Wrow)) gl_lines rfl rfl (by rcases (show k = 0 ∨ k = 1 by omega) with rfl | rfl <;> rfl) ?_)
  cases hs : sx false l F (k + 2) a with
  | er code p =>
    have e : finT l b (sx false l (F + 1) (k + 1) a) = .pan (stopV l code p) := by rw [sx, if_neg (by omega), hs]; rfl
    have con := finT_er con hs
    refine o_ r_ (bt_ [] rfl rfl (one_c b (opsL (k + 1))) (fun pp hpp => E_ r_ (T_ (R_ (M_ r_ (M_ r_ (o_ r_ (bj_ r_ r_ g_ ?_))))))))
    exact jl_pan (op_pan [3] rfl rfl (con)) (by (repeat (first | refine pq_then ?_ | refine pq_block ?_)); exact pq_fin (by first | rfl | assumption))
  | ok x0 c0 =>
    have hbd := sx_bd _ _ _ _ _ hs
    have con := finT_ok con hs
    have e : sx false l (F + 1) (k + 1) a = sxp false l (opsL (k + 1)) (sx false l F (k + 2)) F x0 c0 := by rw [sx, if_neg (by omega), hs]; dsimp only; rw [if_neg (Nat.succ_ne_zero k)]
    generalize hr : sx false l (F + 1) (k + 1) a = r at e ⊢
    clear hr
    obtain ⟨o0, q0, ho0⟩ : ∃ (o0 : Int) (q0 : Nat), (opAt l (opsL (k + 1)) c0 = none ∧ o0 = 0 ∧ q0 = c0) ∨ (opAt l (opsL (k + 1)) c0 = some o0 ∧ ¬ o0 = 0 ∧ q0 = c0 + 1) := by
      cases h : opAt l (opsL (k + 1)) c0 with
      | none => exact ⟨0, c0, .inl ⟨rfl, rfl, rfl⟩⟩
      | some o => exact ⟨o, c0 + 1, .inr ⟨rfl, opAt_pos h, rfl⟩⟩
    have con1 : ∀ p q : Nat, Con Tryz.prog 127 [Ptr p, Ptr q] [Cap1 p (opsL (k + 1)), Cap2 q b, Pz b l c0] (fun K => K (In .i64 o0) [Cap1 p (opsL (k + 1)), Cap2 q b, Pz b l q0]) := by
      intro p q
      rcases ho0 with ⟨h, rfl, rfl⟩ | ⟨h, _, rfl⟩
      · exact op1_none hl g_ h p q
      · exact op1_some hl g_ h p q
    refine o_ r_ (bt_ [] rfl rfl (one_c b (opsL (k + 1))) (fun pp hpp => E_ r_ (T_ (R_ (M_ r_ (M_ r_ (o_ r_ (bj_ r_ r_ g_ (o_ r_ (bi_ [3] r_ r_ (con) (o_ r_ (bl_ r_ r_ (fun bl => S_ 0 r_ (T_ (am_ (R_ (M_ r_ (o_ r_ (cx_ (cs := [Ptr _, Ptr _]) [2, 2, 1] rfl rfl (fun _ _ => ⟨_, _, rfl, ⟨rfl, rfl⟩, _, _, rfl, ⟨rfl, rfl⟩, rfl⟩) rfl (con1 _ _) (E_ r_ ?_))))))))))))))))))))
    refine T_ (au_ ?_)
    rename_i bR
    clear con1 con
    refine jc_loopS (ι := T × Nat × Nat × Int × Nat) [] (fun i => (a < i.2.1 ∧ i.2.1 ≤ l.length) ∧ l.length - i.2.1 ≤ i.2.2.1 ∧ ((opAt l (opsL (k + 1)) i.2.1 = none ∧ i.2.2.2.1 = 0 ∧ i.2.2.2.2 = i.2.1) ∨ (opAt l (opsL (k + 1)) i.2.1 = some i.2.2.2.1 ∧ ¬ i.2.2.2.1 = 0 ∧ i.2.2.2.2 = i.2.1 + 1)) ∧ r = sxp false l (opsL (k + 1)) (sx false l F (k + 2)) i.2.2.1 i.1 i.2.1)
      (fun i => [(0, Ptr b), (1, In .i64 (k : Int)), (4, Ptr bR), (5, .cell (.val (.func (.func 127) #[] #[.pointer (some ⟨pp.1, 0, none⟩), .pointer (some ⟨pp.2, 0, none⟩)]))), (6, Ptr bl), (7, In .i64 i.2.2.2.1)])
      (fun i => [Cap1 pp.1 (opsL (k + 1)), Cap2 pp.2 b, Pz b l i.2.2.2.2, .blk bl 59 i.1.row', .blk bR 59 [.val (.int .i64 0), .val (.int .i64 0), .val (.string ⟨#[]⟩), .val (.int .i64 0), .val (.slice none 0 0)]]) (fun i => l.length - i.2.1) (x0, c0, F, o0, q0) ⟨hbd, by dsimp only; omega, ho0, e⟩ ?_ ?_ ?_
    · exact bc_ 0 r_ (bc_ 0 r_ (bc_ 0 r_ (bc_ 0 r_ (bc_ 0 r_ sub_end))))
    · (repeat (first | exact True.intro | refine ⟨rfl, ?_⟩))
    clear ho0 hpp e
    rintro ⟨x, c, n, o, q⟩ ⟨⟨hac, hcl⟩, hn, ho, hi⟩
    dsimp only at hac hcl hn ho hi ⊢
    refine jc_reset [(0, Ptr b), (1, In .i64 (k : Int)), (4, Ptr bR), (5, .cell (.val (.func (.func 127) #[] #[.pointer (some ⟨pp.1, 0, none⟩), .pointer (some ⟨pp.2, 0, none⟩)]))), (6, Ptr bl), (7, In .i64 o)] [Cap1 pp.1 (opsL (k + 1)), Cap2 pp.2 b, Pz b l q, .blk bl 59 x.row', .blk bR 59 [.val (.int .i64 0), .val (.int .i64 0), .val (.string ⟨#[]⟩), .val (.int .i64 0), .val (.slice none 0 0)]] ?_ ⟨[0, 0, 0, 0, 0], [], rfl⟩ ?_
    · (repeat (first | exact True.intro | refine ⟨rfl, ?_⟩))
    rcases ho with ⟨ho, rfl, rfl⟩ | ⟨ho, hn0, rfl⟩
    · have e : finT l b r = .ret (fun K => K (.row x.row') [Pz b l q]) := by rw [hi]; cases n <;> rw [sxp] <;> (try rw [ho]) <;> rfl
      refine am_ (R_ (M_ r_ (o_ r_ (bx_ r_ r_ (T_ (ap_ r_ r_ (av_ (ax_ (ax_ (ba_ (al_ (R_ (A_ 3 r_ (S_ 4 r_ (T_ (ar_ ?_))))))))))))))))
      exact jq_fin e (jq_retRowS rfl rfl rfl rfl 0 rfl (fun K h => h) (bc_ 3 r_ sub_end))
    · have hlt := opAt_lt ho
      obtain ⟨n, rfl⟩ : ∃ m, n = m + 1 := ⟨n - 1, by omega⟩
      have con2 := hJ (c + 1) (by omega) (by unfold need; omega)
      refine am_ (R_ (M_ r_ (o_ r_ (bx_ r_ r_ (T_ (aq_ r_ u_ (as_ (al_ (B_ ?_)))))))))
      cases hs2 : sx false l F (k + 2) (c + 1) with
      | er code p =>
        have e : finT l b r = .pan (stopV l code p) := by rw [hi, sxp, ho]; dsimp only; rw [hs2]; rfl
        have con2 := finT_er con2 hs2
        refine jc_hp1 9 (n := 10) rfl 3 k_ rfl (fun cs1 hcs1 => ?_)
        obtain ⟨u10, u11, u12, u13, u14, rfl⟩ := len5 hcs1
        refine df_ (i := 0) rfl k_ k_ k_ b_ (by (repeat (first | refine pani_then ?_ | refine pani_block ?_)); exact pani_body) (dk_ rfl) ?_
        refine df_ (i := 1) rfl k_ k_ k_ b_ (by (repeat (first | refine pani_then ?_ | refine pani_block ?_)); exact pani_body) (dk_ rfl) ?_
        refine df_ (i := 2) rfl k_ k_ k_ b_ (by (repeat (first | refine pani_then ?_ | refine pani_block ?_)); exact pani_body) (dn_ 3 rfl rfl rfl mem0 rfl) ?_
        refine df_ (i := 3) rfl k_ k_ k_ b_ (by (repeat (first | refine pani_then ?_ | refine pani_block ?_)); exact pani_body) (dk_ rfl) ?_
        refine df_ (i := 4) rfl k_ k_ k_ b_ (by (repeat (first | refine pani_then ?_ | refine pani_block ?_)); exact pani_body) (dk_ rfl) ?_
        refine df_ (i := 5) rfl k_ k_ k_ b_ (by (repeat (first | refine pani_then ?_ | refine pani_block ?_)); exact pani_body) (do_ rfl rfl g_) ?_
        refine hp_exact 3 rfl mem0 ?_
        exact hp_pan (i := 6) rfl k_ (op_pan [3] rfl rfl (con2)) (by (repeat (first | refine pq_then ?_ | refine pq_block ?_)); exact pq_fin (by first | rfl | assumption))
      | ok y d =>
        have hbd2 := sx_bd _ _ _ _ _ hs2
        have con2 := finT_ok con2 hs2
        by_cases hd : 8 < (T.bn o x y).dep
        · have e : finT l b r = .pan (stopV l 4 (d - 1)) := by rw [hi, sxp, ho]; dsimp only; rw [hs2]; dsimp only; rw [dpr_n ⟨rfl, hd⟩]; rfl
          refine jc_hp1 9 (n := 10) rfl 3 k_ rfl (fun cs1 hcs1 => ?_)
          obtain ⟨u10, u11, u12, u13, u14, rfl⟩ := len5 hcs1
          refine df_ (i := 0) rfl k_ k_ k_ b_ (by (repeat (first | refine pani_then ?_ | refine pani_block ?_)); exact pani_body) (dk_ rfl) ?_
          refine df_ (i := 1) rfl k_ k_ k_ b_ (by (repeat (first | refine pani_then ?_ | refine pani_block ?_)); exact pani_body) (dk_ rfl) ?_
          refine df_ (i := 2) rfl k_ k_ k_ b_ (by (repeat (first | refine pani_then ?_ | refine pani_block ?_)); exact pani_body) (dn_ 3 rfl rfl rfl mem0 rfl) ?_
          refine df_ (i := 3) rfl k_ k_ k_ b_ (by (repeat (first | refine pani_then ?_ | refine pani_block ?_)); exact pani_body) (dk_ rfl) ?_
          refine df_ (i := 4) rfl k_ k_ k_ b_ (by (repeat (first | refine pani_then ?_ | refine pani_block ?_)); exact pani_body) (dk_ rfl) ?_
          refine df_ (i := 5) rfl k_ k_ k_ b_ (by (repeat (first | refine pani_then ?_ | refine pani_block ?_)); exact pani_body) (do_ rfl rfl g_) ?_
          refine hp_exact 3 rfl mem0 (dg_ (i := 6) r_ k_ b_ (bi_ [3] r_ r_ (con2) ⟨?_, ?_⟩))
          exact keep1 1 rfl
          refine dg_ (i := 7) r_ k_ b_ (bm_ r_ (binary_c o x y) ⟨?_, ?_⟩)
          exact keep1 1 rfl
          exact hp_pan (i := 8) rfl k_ (op_pan [0] rfl rfl (pnode_n hl _ hd g_ g_)) (by (repeat (first | refine pq_then ?_ | refine pq_block ?_)); exact pq_fin (by first | rfl | assumption))
        · have e : r = sxp false l (opsL (k + 1)) (sx false l F (k + 2)) n (.bn o x y) d := by rw [hi, sxp, ho]; dsimp only; rw [hs2]; dsimp only; rw [dpr_y (fun h => hd h.2)]
          refine jc_hp1 9 (n := 10) rfl 3 k_ rfl (fun cs1 hcs1 => ?_)
          obtain ⟨u10, u11, u12, u13, u14, rfl⟩ := len5 hcs1
          refine df_ (i := 0) rfl k_ k_ k_ b_ (by (repeat (first | refine pani_then ?_ | refine pani_block ?_)); exact pani_body) (dk_ rfl) ?_
          refine df_ (i := 1) rfl k_ k_ k_ b_ (by (repeat (first | refine pani_then ?_ | refine pani_block ?_)); exact pani_body) (dk_ rfl) ?_
          refine df_ (i := 2) rfl k_ k_ k_ b_ (by (repeat (first | refine pani_then ?_ | refine pani_block ?_)); exact pani_body) (dn_ 3 rfl rfl rfl mem0 rfl) ?_
          refine df_ (i := 3) rfl k_ k_ k_ b_ (by (repeat (first | refine pani_then ?_ | refine pani_block ?_)); exact pani_body) (dk_ rfl) ?_
          refine df_ (i := 4) rfl k_ k_ k_ b_ (by (repeat (first | refine pani_then ?_ | refine pani_block ?_)); exact pani_body) (dk_ rfl) ?_
          refine df_ (i := 5) rfl k_ k_ k_ b_ (by (repeat (first | refine pani_then ?_ | refine pani_block ?_)); exact pani_body) (do_ rfl rfl g_) ?_
          refine hp_exact 3 rfl mem0 (dg_ (i := 6) r_ k_ b_ (bi_ [3] r_ r_ (con2) ⟨?_, ?_⟩))
          exact keep1 1 rfl
          refine dg_ (i := 7) r_ k_ b_ (bm_ r_ (binary_c o x y) ⟨?_, ?_⟩)
          exact keep1 1 rfl
          refine dg_ (i := 8) r_ k_ b_ (bi_ [0] r_ r_ (pnode_y _ hd) ⟨?_, ?_⟩)
          exact keep1 1 rfl
          refine hp_tail (dj_ (i := 9) rfl k_ (by decide) (bk_ 1 rfl rfl rfl rfl rfl rfl (ht_done k_ ?_)))
          cases ho2 : opAt l (opsL (k + 1)) d with
          | none =>
            refine ay_ (al_ (an_ (M_ r_ (o_ r_ (cx_ (cs := [Ptr _, Ptr _]) [2, 2, 1] rfl rfl (fun _ _ => ⟨_, _, rfl, ⟨rfl, rfl⟩, _, _, rfl, ⟨rfl, rfl⟩, rfl⟩) rfl (op1_none hl g_ ho2 _ _) (E_ r_ (ak_ (jq_againS (i := (x, c, n + 1, o, c + 1)) ((T.bn o x y, d, n, 0, d) : T × Nat × Nat × Int × Nat) ⟨⟨by dsimp only; omega, hbd2.2⟩, by dsimp only; omega, .inl ⟨ho2, rfl, rfl⟩, e⟩ (by dsimp only; omega) ?_ ?_))))))))
            · exact bc_ 0 r_ (bc_ 0 r_ (bc_ 0 r_ (bc_ 0 r_ (bc_ 0 r_ sub_end))))
            · (repeat (first | exact True.intro | refine ⟨rfl, ?_⟩))
          | some o2 =>
            have hlt2 := opAt_lt ho2
            refine ay_ (al_ (an_ (M_ r_ (o_ r_ (cx_ (cs := [Ptr _, Ptr _]) [2, 2, 1] rfl rfl (fun _ _ => ⟨_, _, rfl, ⟨rfl, rfl⟩, _, _, rfl, ⟨rfl, rfl⟩, rfl⟩) rfl (op1_some hl g_ ho2 _ _) (E_ r_ (ak_ (jq_againS (i := (x, c, n + 1, o, c + 1)) ((T.bn o x y, d, n, o2, d + 1) : T × Nat × Nat × Int × Nat) ⟨⟨by dsimp only; omega, hbd2.2⟩, by dsimp only; omega, .inr ⟨ho2, opAt_pos ho2, rfl⟩, e⟩ (by dsimp only; omega) ?_ ?_))))))))
            · exact bc_ 0 r_ (bc_ 0 r_ (bc_ 0 r_ (bc_ 0 r_ (bc_ 0 r_ sub_end))))
            · (repeat (first | exact True.intro | refine ⟨rfl, ?_⟩))
omit hl in
theorem ix_row (s : ByteArray) (x : T) : (T.ix s x).row' = [.val (.int .i64 3), .val (.int .i64 0), .val (.string s), .val (.int .i64 0), .list [x.row']] := by
  rw [← T.row_eq x]; rfl
theorem pfactor_step (F : Nat) (hF : FaP l F) (hX : ExP l F) : FaP l (F + 1) := by
  intro b a ha hN
  unfold need at hN
  refine con_introE Tryz.func176 rfl rfl (Nat.le_of_ble_eq_true rfl) (fun c hc => ?_)
  cases h1 : isNum l a with
  | true =>
    have e : finT l b (sx false l (F + 1) 3 a) = .ret (fun K => K (.row (T.nu (numAt l a)).row') [Pz b l (a + 1)]) := by rw [sx, if_pos (Nat.le_refl _), if_pos h1]; rfl
    refine R_ (o_ r_ (bl_ r_ r_ (fun bl => T_ (B_ (R_ (M_ r_ (o_ r_ (bi_ [1] r_ r_ (numbered_y ha h1) (E_ r_ (T_ (aq_ r_ r_ (R_ (M_ r_ (o_ r_ (bi_ [0] r_ r_ (pnum_ok hl ha h1) (o_ r_ (bu_ r_ r_ r_ r_ r_ (S_ 1 r_ (T_ ?_)))))))))))))))))))
    refine ar_ (az_ (aw_ (jq_fin e (jq_row 0 (T.nu (numAt l a)).row' rfl ?_ ?_))))
    · (repeat (first | exact RowLe.nil | refine RowLe.cons (CLe.refl _) ?_ | refine RowLe.cons CLe.nil ?_))
    · exact jq_retRowS rfl rfl rfl rfl 0 rfl (fun K h => h) (bc_ 1 r_ sub_end)
  | false =>
    have h1' : ¬ isNum l a = true := by rw [h1]; decide
    cases h2 : isA l a W45 with
    | true =>
      have hlt := isA_lt h2
      cases h3 : isNum l (a + 1) with
      | true =>
        have e : finT l b (sx false l (F + 1) 3 a) = .ret (fun K => K (.row (T.nu (ngI (numAt l (a + 1)))).row') [Pz b l (a + 2)]) := by rw [sx, if_pos (Nat.le_refl _), if_neg h1', if_pos h2, if_pos h3]; rfl
        refine R_ (o_ r_ (bl_ r_ r_ (fun bl => T_ (B_ (R_ (M_ r_ (o_ r_ (bi_ [1] r_ r_ (numbered_n ha h1) (E_ r_ (T_ (ap_ r_ r_ (R_ (M_ r_ (o_ r_ (bi_ [0] r_ r_ (has_y hl ha h2) (E_ r_ (T_ (aq_ r_ r_ ?_))))))))))))))))))
        refine am_ (R_ (M_ r_ (o_ r_ (bi_ [0] r_ r_ (numbered_y g_ h3) (T_ (aq_ r_ r_ (R_ (M_ r_ (o_ r_ (bi_ [0] r_ r_ (pnum_ok hl g_ h3) (o_ r_ (ow_negW r_ (o_ r_ (bu_ r_ r_ r_ r_ r_ (S_ 1 r_ (T_ (ar_ (aw_ (az_ ?_)))))))))))))))))))
        refine aw_ (jq_fin e (jq_row 0 (T.nu (ngI (numAt l (a + 1)))).row' rfl ?_ ?_))
        · (repeat (first | exact RowLe.nil | refine RowLe.cons (CLe.refl _) ?_ | refine RowLe.cons CLe.nil ?_))
        · exact jq_retRowS rfl rfl rfl rfl 0 rfl (fun K h => h) (bc_ 1 r_ sub_end)
      | false =>
        have h3' : ¬ isNum l (a + 1) = true := by rw [h3]; decide
        have con := hF b (a + 1) (by omega) (by unfold need; omega)
        cases hr : sx false l F 3 (a + 1) with
        | er code p =>
          have e : finT l b (sx false l (F + 1) 3 a) = .pan (stopV l code p) := by rw [sx, if_pos (Nat.le_refl _), if_neg h1', if_pos h2, if_neg h3', hr]; rfl
          have con := finT_er con hr
          refine R_ (o_ r_ (bl_ r_ r_ (fun bl => T_ (B_ (R_ (M_ r_ (o_ r_ (bi_ [1] r_ r_ (numbered_n ha h1) (E_ r_ (T_ (ap_ r_ r_ (R_ (M_ r_ (o_ r_ (bi_ [0] r_ r_ (has_y hl ha h2) (E_ r_ (T_ (aq_ r_ r_ ?_))))))))))))))))))
          refine am_ (R_ (M_ r_ (o_ r_ (bi_ [0] r_ r_ (numbered_n g_ h3) (T_ (ap_ r_ r_ (as_ (al_ (R_ (M_ r_ (o_ r_ (bu_ r_ r_ r_ r_ r_ (M_ r_ ?_)))))))))))))
          exact jl_pan (op_pan [0] rfl rfl (con)) (by (repeat (first | refine pq_then ?_ | refine pq_block ?_)); exact pq_fin (by first | rfl | assumption))
        | ok x c =>
          have hbd := sx_bd _ _ _ _ _ hr
          have con := finT_ok con hr
          by_cases hd : 8 < (T.bn 2 (.nu 0) x).dep
          · have e : finT l b (sx false l (F + 1) 3 a) = .pan (stopV l 4 (c - 1)) := by rw [sx, if_pos (Nat.le_refl _), if_neg h1', if_pos h2, if_neg h3', hr]; dsimp only; rw [dpr_n ⟨rfl, hd⟩]; rfl
            refine R_ (o_ r_ (bl_ r_ r_ (fun bl => T_ (B_ (R_ (M_ r_ (o_ r_ (bi_ [1] r_ r_ (numbered_n ha h1) (E_ r_ (T_ (ap_ r_ r_ (R_ (M_ r_ (o_ r_ (bi_ [0] r_ r_ (has_y hl ha h2) (E_ r_ (T_ (aq_ r_ r_ ?_))))))))))))))))))
            refine am_ (R_ (M_ r_ (o_ r_ (bi_ [0] r_ r_ (numbered_n g_ h3) (T_ (ap_ r_ r_ (as_ (al_ (R_ (M_ r_ (o_ r_ (bu_ r_ r_ r_ r_ r_ (M_ r_ (o_ r_ (bi_ [0] r_ r_ (con) (o_ r_ (bm_ r_ (binaryN_c 2 0 x) ?_)))))))))))))))))
            exact jl_pan (op_pan [0] rfl rfl (pnode_n hl _ hd g_ g_)) (by (repeat (first | refine pq_then ?_ | refine pq_block ?_)); exact pq_fin (by first | rfl | assumption))
          · have e : finT l b (sx false l (F + 1) 3 a) = .ret (fun K => K (.row (T.bn 2 (.nu 0) x).row') [Pz b l c]) := by rw [sx, if_pos (Nat.le_refl _), if_neg h1', if_pos h2, if_neg h3', hr]; dsimp only; rw [dpr_y (fun h => hd h.2)]; rfl
            refine R_ (o_ r_ (bl_ r_ r_ (fun bl => T_ (B_ (R_ (M_ r_ (o_ r_ (bi_ [1] r_ r_ (numbered_n ha h1) (E_ r_ (T_ (ap_ r_ r_ (R_ (M_ r_ (o_ r_ (bi_ [0] r_ r_ (has_y hl ha h2) (E_ r_ (T_ (aq_ r_ r_ ?_))))))))))))))))))
            refine am_ (R_ (M_ r_ (o_ r_ (bi_ [0] r_ r_ (numbered_n g_ h3) (T_ (ap_ r_ r_ (as_ (al_ (R_ (M_ r_ (o_ r_ (bu_ r_ r_ r_ r_ r_ (M_ r_ (o_ r_ (bi_ [0] r_ r_ (con) (o_ r_ (bm_ r_ (binaryN_c 2 0 x) (o_ r_ (bi_ [0] r_ r_ (pnode_y _ hd) (S_ 1 r_ ?_))))))))))))))))))))
            exact T_ (ar_ (az_ (aw_ (jq_fin e (jq_retRowS rfl rfl rfl rfl 0 rfl (fun K h => h) (bc_ 1 r_ sub_end))))))
    | false =>
      have h2' : ¬ isA l a W45 = true := by rw [h2]; decide
      cases h3 : isNm l a with
      | true =>
        have hlt := isNm_lt h3
        cases h4 : isA l (a + 1) W91 with
        | true =>
          have hlt2 := isA_lt h4
          have con := hX b (a + 2) (by omega) (by unfold need; omega)
          cases hr : sx false l F 0 (a + 2) with
          | er code p =>
            have e : finT l b (sx false l (F + 1) 3 a) = .pan (stopV l code p) := by rw [sx, if_pos (Nat.le_refl _), if_neg h1', if_neg h2', if_pos h3, if_pos h4, hr]; rfl
            have con := finT_er con hr
            refine R_ (o_ r_ (bl_ r_ r_ (fun bl => T_ (B_ (R_ (M_ r_ (o_ r_ (bi_ [1] r_ r_ (numbered_n ha h1) (E_ r_ (T_ (ap_ r_ r_ (R_ (M_ r_ (o_ r_ (bi_ [0] r_ r_ (has_n hl ha h2) (E_ r_ (T_ (ap_ r_ r_ ?_))))))))))))))))))
            refine R_ (M_ r_ (o_ r_ (bi_ [0] r_ r_ (named_y ha h3) (o_ r_ (cd_ r_ (E_ r_ (T_ (ap_ r_ r_ (as_ (ay_ (al_ (R_ (M_ r_ (o_ r_ (bi_ [0] r_ r_ (pname_ok hl ha h3) (E_ r_ (T_ (am_ ?_))))))))))))))))))
            refine R_ (M_ r_ (o_ r_ (bi_ [0] r_ r_ (has_y hl g_ h4) (o_ r_ (cd_ r_ (T_ (ap_ r_ r_ (as_ (al_ (R_ (M_ r_ ?_)))))))))))
            exact jl_pan (op_pan [0] rfl rfl (con)) (by (repeat (first | refine pq_then ?_ | refine pq_block ?_)); exact pq_fin (by first | rfl | assumption))
          | ok x c =>
            have hbd := sx_bd _ _ _ _ _ hr
            have con := finT_ok con hr
            cases h5 : isA l c W93 with
            | true =>
              have hlt5 := isA_lt h5
              by_cases hd : 8 < (T.ix (txtAt l a) x).dep
              · have e : finT l b (sx false l (F + 1) 3 a) = .pan (stopV l 4 c) := by rw [sx, if_pos (Nat.le_refl _), if_neg h1', if_neg h2', if_pos h3, if_pos h4, hr]; dsimp only; rw [if_pos h5, dpr_n ⟨rfl, hd⟩]; rfl
                have hN := pnode_n (b := b) (a := c + 1) hl _ hd (by omega) (by omega)
                rw [show c + 1 - 1 = c by omega, ix_row] at hN
                refine R_ (o_ r_ (bl_ r_ r_ (fun bl => T_ (B_ (R_ (M_ r_ (o_ r_ (bi_ [1] r_ r_ (numbered_n ha h1) (E_ r_ (T_ (ap_ r_ r_ (R_ (M_ r_ (o_ r_ (bi_ [0] r_ r_ (has_n hl ha h2) (E_ r_ (T_ (ap_ r_ r_ ?_))))))))))))))))))
                refine R_ (M_ r_ (o_ r_ (bi_ [0] r_ r_ (named_y ha h3) (o_ r_ (cd_ r_ (E_ r_ (T_ (ap_ r_ r_ (as_ (ay_ (al_ (R_ (M_ r_ (o_ r_ (bi_ [0] r_ r_ (pname_ok hl ha h3) (E_ r_ (T_ (am_ ?_))))))))))))))))))
                refine R_ (M_ r_ (o_ r_ (bi_ [0] r_ r_ (has_y hl g_ h4) (o_ r_ (cd_ r_ (T_ (ap_ r_ r_ (as_ (al_ (R_ (M_ r_ (o_ r_ (bi_ [0] r_ r_ (con) (o_ r_ (bl_ r_ r_ (fun bl => S_ 0 r_ (T_ (R_ (M_ r_ ?_)))))))))))))))))))
                refine o_ r_ (bi_ [1] r_ r_ (pword_ok hl g_ _ h5) (T_ (R_ (M_ r_ (M_ r_ (A_ 1 r_ (o_ r_ (bq_ r_ r_ b_ r_ r_ b_ (o_ r_ (bu_ r_ r_ r_ r_ r_ ?_))))))))))
                exact jl_pan (op_pan [0] rfl rfl (hN)) (by (repeat (first | refine pq_then ?_ | refine pq_block ?_)); exact pq_fin (by first | rfl | assumption))
              · have e : finT l b (sx false l (F + 1) 3 a) = .ret (fun K => K (.row (T.ix (txtAt l a) x).row') [Pz b l (c + 1)]) := by rw [sx, if_pos (Nat.le_refl _), if_neg h1', if_neg h2', if_pos h3, if_pos h4, hr]; dsimp only; rw [if_pos h5, dpr_y (fun h => hd h.2)]; rfl
                have hN := pnode_y (b := b) (l := l) (a := c + 1) _ hd
                rw [ix_row] at e hN
                refine R_ (o_ r_ (bl_ r_ r_ (fun bl => T_ (B_ (R_ (M_ r_ (o_ r_ (bi_ [1] r_ r_ (numbered_n ha h1) (E_ r_ (T_ (ap_ r_ r_ (R_ (M_ r_ (o_ r_ (bi_ [0] r_ r_ (has_n hl ha h2) (E_ r_ (T_ (ap_ r_ r_ ?_))))))))))))))))))
                refine R_ (M_ r_ (o_ r_ (bi_ [0] r_ r_ (named_y ha h3) (o_ r_ (cd_ r_ (E_ r_ (T_ (ap_ r_ r_ (as_ (ay_ (al_ (R_ (M_ r_ (o_ r_ (bi_ [0] r_ r_ (pname_ok hl ha h3) (E_ r_ (T_ (am_ ?_))))))))))))))))))
                refine R_ (M_ r_ (o_ r_ (bi_ [0] r_ r_ (has_y hl g_ h4) (o_ r_ (cd_ r_ (T_ (ap_ r_ r_ (as_ (al_ (R_ (M_ r_ (o_ r_ (bi_ [0] r_ r_ (con) (o_ r_ (bl_ r_ r_ (fun bl => S_ 0 r_ (T_ (R_ (M_ r_ ?_)))))))))))))))))))
                exact o_ r_ (bi_ [1] r_ r_ (pword_ok hl g_ _ h5) (T_ (R_ (M_ r_ (M_ r_ (A_ 1 r_ (o_ r_ (bq_ r_ r_ b_ r_ r_ b_ (o_ r_ (bu_ r_ r_ r_ r_ r_ (o_ r_ (bi_ [0] r_ r_ (hN) (S_ 2 r_ (T_ (ar_ (jq_fin e (jq_retRowS rfl rfl rfl rfl 0 rfl (fun K h => h) (bc_ 1 r_ sub_end))))))))))))))))))
            | false =>
              have h5' : ¬ isA l c W93 = true := by rw [h5]; decide
              have e : finT l b (sx false l (F + 1) 3 a) = .pan (stopV l 1 c) := by rw [sx, if_pos (Nat.le_refl _), if_neg h1', if_neg h2', if_pos h3, if_pos h4, hr]; dsimp only; rw [if_neg h5']; rfl
              refine R_ (o_ r_ (bl_ r_ r_ (fun bl => T_ (B_ (R_ (M_ r_ (o_ r_ (bi_ [1] r_ r_ (numbered_n ha h1) (E_ r_ (T_ (ap_ r_ r_ (R_ (M_ r_ (o_ r_ (bi_ [0] r_ r_ (has_n hl ha h2) (E_ r_ (T_ (ap_ r_ r_ ?_))))))))))))))))))
              refine R_ (M_ r_ (o_ r_ (bi_ [0] r_ r_ (named_y ha h3) (o_ r_ (cd_ r_ (E_ r_ (T_ (ap_ r_ r_ (as_ (ay_ (al_ (R_ (M_ r_ (o_ r_ (bi_ [0] r_ r_ (pname_ok hl ha h3) (E_ r_ (T_ (am_ ?_))))))))))))))))))
              refine R_ (M_ r_ (o_ r_ (bi_ [0] r_ r_ (has_y hl g_ h4) (o_ r_ (cd_ r_ (T_ (ap_ r_ r_ (as_ (al_ (R_ (M_ r_ (o_ r_ (bi_ [0] r_ r_ (con) (o_ r_ (bl_ r_ r_ (fun bl => S_ 0 r_ (T_ (R_ (M_ r_ ?_)))))))))))))))))))
              exact jl_pan (op_pan [1] rfl rfl (pword_er hl g_ _ h5)) (by (repeat (first | refine pq_then ?_ | refine pq_block ?_)); exact pq_fin (by first | rfl | assumption))
        | false =>
          have h4' : ¬ isA l (a + 1) W91 = true := by rw [h4]; decide
          have e : finT l b (sx false l (F + 1) 3 a) = .ret (fun K => K (.row (T.nm (txtAt l a)).row') [Pz b l (a + 1)]) := by rw [sx, if_pos (Nat.le_refl _), if_neg h1', if_neg h2', if_pos h3, if_neg h4']; rfl
          refine R_ (o_ r_ (bl_ r_ r_ (fun bl => T_ (B_ (R_ (M_ r_ (o_ r_ (bi_ [1] r_ r_ (numbered_n ha h1) (E_ r_ (T_ (ap_ r_ r_ (R_ (M_ r_ (o_ r_ (bi_ [0] r_ r_ (has_n hl ha h2) (E_ r_ (T_ (ap_ r_ r_ ?_))))))))))))))))))
          refine R_ (M_ r_ (o_ r_ (bi_ [0] r_ r_ (named_y ha h3) (o_ r_ (cd_ r_ (E_ r_ (T_ (ap_ r_ r_ (as_ (ay_ (al_ (R_ (M_ r_ (o_ r_ (bi_ [0] r_ r_ (pname_ok hl ha h3) (E_ r_ (T_ (am_ ?_))))))))))))))))))
          refine R_ (M_ r_ (o_ r_ (bi_ [0] r_ r_ (has_n hl g_ h4) (o_ r_ (cd_ r_ (T_ (aq_ r_ r_ (R_ (M_ r_ (o_ r_ (bu_ r_ r_ r_ r_ r_ (S_ 1 r_ (T_ (ar_ (aw_ (jq_fin e (jq_row 0 (T.nm (txtAt l a)).row' rfl ?_ ?_)))))))))))))))))
          · (repeat (first | exact RowLe.nil | refine RowLe.cons (CLe.refl _) ?_ | refine RowLe.cons CLe.nil ?_))
          · exact jq_retRowS rfl rfl rfl rfl 0 rfl (fun K h => h) (bc_ 1 r_ sub_end)
      | false =>
        have h3' : ¬ isNm l a = true := by rw [h3]; decide
        cases h4 : isA l a W40 with
        | true =>
          have hlt := isA_lt h4
          have con := hX b (a + 1) (by omega) (by unfold need; omega)
          cases hr : sx false l F 0 (a + 1) with
          | er code p =>
            have e : finT l b (sx false l (F + 1) 3 a) = .pan (stopV l code p) := by rw [sx, if_pos (Nat.le_refl _), if_neg h1', if_neg h2', if_neg h3', if_pos h4, hr]; rfl
            have con := finT_er con hr
            refine R_ (o_ r_ (bl_ r_ r_ (fun bl => T_ (B_ (R_ (M_ r_ (o_ r_ (bi_ [1] r_ r_ (numbered_n ha h1) (E_ r_ (T_ (ap_ r_ r_ (R_ (M_ r_ (o_ r_ (bi_ [0] r_ r_ (has_n hl ha h2) (E_ r_ (T_ (ap_ r_ r_ ?_))))))))))))))))))
            refine R_ (M_ r_ (o_ r_ (bi_ [0] r_ r_ (named_n ha h3) (o_ r_ (cd_ r_ (E_ r_ (T_ (aq_ r_ r_ (R_ (M_ r_ (o_ r_ (bi_ [0] r_ r_ (pword_ok hl ha _ h4) (T_ (R_ (M_ r_ ?_)))))))))))))))
            exact jl_pan (op_pan [0] rfl rfl (con)) (by (repeat (first | refine pq_then ?_ | refine pq_block ?_)); exact pq_fin (by first | rfl | assumption))
          | ok x c =>
            have hbd := sx_bd _ _ _ _ _ hr
            have con := finT_ok con hr
            cases h5 : isA l c W41 with
            | true =>
              have e : finT l b (sx false l (F + 1) 3 a) = .ret (fun K => K (.row x.row') [Pz b l (c + 1)]) := by rw [sx, if_pos (Nat.le_refl _), if_neg h1', if_neg h2', if_neg h3', if_pos h4, hr]; dsimp only; rw [if_pos h5]; rfl
              refine R_ (o_ r_ (bl_ r_ r_ (fun bl => T_ (B_ (R_ (M_ r_ (o_ r_ (bi_ [1] r_ r_ (numbered_n ha h1) (E_ r_ (T_ (ap_ r_ r_ (R_ (M_ r_ (o_ r_ (bi_ [0] r_ r_ (has_n hl ha h2) (E_ r_ (T_ (ap_ r_ r_ ?_))))))))))))))))))
              refine R_ (M_ r_ (o_ r_ (bi_ [0] r_ r_ (named_n ha h3) (o_ r_ (cd_ r_ (E_ r_ (T_ (aq_ r_ r_ (R_ (M_ r_ (o_ r_ (bi_ [0] r_ r_ (pword_ok hl ha _ h4) (T_ (R_ (M_ r_ (o_ r_ (bi_ [0] r_ r_ (con) (o_ r_ (bl_ r_ r_ (fun bl => S_ 0 r_ ?_))))))))))))))))))))
              exact T_ (R_ (M_ r_ (o_ r_ (bi_ [1] r_ r_ (pword_ok hl g_ _ h5) (T_ (R_ (A_ 1 r_ (S_ 2 r_ (T_ (ar_ (az_ (aw_ (jq_fin e (jq_retRowS rfl rfl rfl rfl 0 rfl (fun K h => h) (bc_ 1 r_ sub_end)))))))))))))))
            | false =>
              have h5' : ¬ isA l c W41 = true := by rw [h5]; decide
              have e : finT l b (sx false l (F + 1) 3 a) = .pan (stopV l 1 c) := by rw [sx, if_pos (Nat.le_refl _), if_neg h1', if_neg h2', if_neg h3', if_pos h4, hr]; dsimp only; rw [if_neg h5']; rfl
              refine R_ (o_ r_ (bl_ r_ r_ (fun bl => T_ (B_ (R_ (M_ r_ (o_ r_ (bi_ [1] r_ r_ (numbered_n ha h1) (E_ r_ (T_ (ap_ r_ r_ (R_ (M_ r_ (o_ r_ (bi_ [0] r_ r_ (has_n hl ha h2) (E_ r_ (T_ (ap_ r_ r_ ?_))))))))))))))))))
              refine R_ (M_ r_ (o_ r_ (bi_ [0] r_ r_ (named_n ha h3) (o_ r_ (cd_ r_ (E_ r_ (T_ (aq_ r_ r_ (R_ (M_ r_ (o_ r_ (bi_ [0] r_ r_ (pword_ok hl ha _ h4) (T_ (R_ (M_ r_ (o_ r_ (bi_ [0] r_ r_ (con) (o_ r_ (bl_ r_ r_ (fun bl => S_ 0 r_ ?_))))))))))))))))))))
              refine T_ (R_ (M_ r_ ?_))
              exact jl_pan (op_pan [1] rfl rfl (pword_er hl g_ _ h5)) (by (repeat (first | refine pq_then ?_ | refine pq_block ?_)); exact pq_fin (by first | rfl | assumption))
        | false =>
          have h4' : ¬ isA l a W40 = true := by rw [h4]; decide
          have e : finT l b (sx false l (F + 1) 3 a) = .pan (stopV l 1 a) := by rw [sx, if_pos (Nat.le_refl _), if_neg h1', if_neg h2', if_neg h3', if_neg h4']; rfl
          refine R_ (o_ r_ (bl_ r_ r_ (fun bl => T_ (B_ (R_ (M_ r_ (o_ r_ (bi_ [1] r_ r_ (numbered_n ha h1) (E_ r_ (T_ (ap_ r_ r_ (R_ (M_ r_ (o_ r_ (bi_ [0] r_ r_ (has_n hl ha h2) (E_ r_ (T_ (ap_ r_ r_ ?_))))))))))))))))))
          refine R_ (M_ r_ (o_ r_ (bi_ [0] r_ r_ (named_n ha h3) (o_ r_ (cd_ r_ (E_ r_ (T_ (aq_ r_ r_ (R_ (M_ r_ ?_))))))))))
          exact jl_pan (op_pan [0] rfl rfl (pword_er hl ha _ h4)) (by (repeat (first | refine pq_then ?_ | refine pq_block ?_)); exact pq_fin (by first | rfl | assumption))
/-- The strict parser of expressions is the program's. -/
theorem pexpr_all : ∀ F : Nat, FaP l F ∧ ExP l F ∧ JnP l F
  | 0 => ⟨fun b a ha h => absurd h (by unfold need; omega), fun b a ha h => absurd h (by unfold need; omega), fun b k a hk ha h => absurd h (by unfold need; omega)⟩
  | F + 1 => by
    obtain ⟨h1, h2, h3⟩ := pexpr_all F
    have f1 := pfactor_step hl F h1 h2
    refine ⟨f1, pexpr_step hl F h3, ?_⟩
    intro b k a hk ha hN
    rcases (show k = 0 ∨ k = 1 ∨ k = 2 by omega) with rfl | rfl | rfl
    · exact pjoined_step hl F 0 b a g_ (fun a ha h => h3 b 1 a g_ ha h) ha hN
    · exact pjoined_step hl F 1 b a g_ (fun a ha h => h3 b 2 a g_ ha h) ha hN
    · exact pjoined_top (F + 1) b a f1 ha hN
theorem exG_c (ha : a ≤ l.length) : ConE Tryz.prog 145 [Ptr b] [Pz b l a] (finT l b (exG l a)) := (pexpr_all hl (5 * l.length + 4)).2.1 b a ha (by unfold need; omega)
end
end Go.Proofs.YtamajcgdfjeehaaGreatDoor
end

section
namespace Go.Proofs.YtamajcgdfjeehaaGreatDoor
open Go.Vc
def finR {α : Type} (l : List Tok) (b : Nat) (g : α → S) : R α → Fin
  | .ok x c => .ret (fun K => K (g x) [Pz b l c])
  | .er code p => .pan (stopV l code p)
section
variable {α : Type} {l : List Tok} {b : Nat} {g : α → S} {f : FuncId} {args : List S} {Hin : List Ch} {r : R α}
theorem finR_con {x : α} {c : Nat} (h : ConE Tryz.prog f args Hin (finR l b g (.ok x c))) : Con Tryz.prog f args Hin (fun K => K (g x) [Pz b l c]) := h
theorem finR_pan {code : Int} {p : Nat} (h : ConE Tryz.prog f args Hin (finR l b g (.er code p))) : Pan Tryz.prog f args Hin (stopV l code p) := h
theorem con_finR {x : α} {c : Nat} (e : r = .ok x c) (h : Con Tryz.prog f args Hin (fun K => K (g x) [Pz b l c])) : ConE Tryz.prog f args Hin (finR l b g r) := by subst e; exact h
theorem pan_finR {code : Int} {p : Nat} (e : r = .er code p) (h : Pan Tryz.prog f args Hin (stopV l code p)) : ConE Tryz.prog f args Hin (finR l b g r) := by subst e; exact h
end
attribute [local irreducible] JL JC JQ OpWp Con ConN Pan ConE OpPan HP HT HOk hasW idxW isA isNum isNm numAt txtAt lineAt opAt lx lpx sx sxp exG
set_option maxHeartbeats 4000000

structure PC {α : Type} (f : FuncId) (l : List Tok) (b : Nat) (args : List S) (a : Nat) (g : α → S) (r : R α) : Prop where
  con : ConE Tryz.prog f (Ptr b :: args) [Pz b l a] (finR l b g r)
  bd : ∀ x c, r = .ok x c → a < c ∧ c ≤ l.length
theorem jl_bindE {nt : Nat} {c : Cx Tryz.prog nt} {env : Env} {H Hr : List Ch} {ops : Array Oper} {ls : List Oper} {Q : Exit → Act → World → Prop} {α β : Type} {gA : α → S} {gB : β → S} {l : List Tok} {b a : Nat} {r : R α} {f : α → Nat → R β} {fin0 : Fin} {fid : FuncId} [FI Tryz.prog fid] {args : List S} {xs : Array Operand} {at_ : Array TypeId} {d : Tmp} {ty : TypeId} {pos : String} {af : Array Edge} (is : List Nat)
    (hx : env.evs xs.toList = some (Ptr b :: args)) (hp : pick is H = some ([Pz b l a], Hr)) (con : PC fid l b args a gA r) (he : fin0 = finR l b gB (r.bind f)) (hq : ∀ v, fin0 = .pan v → PanQ c Q v) (hd : d < nt)
    (h : ∀ x c', r = .ok x c' → a < c' ∧ c' ≤ l.length → fin0 = finR l b gB (f x c') → JL c ops Q ls ((d, gA x) :: env) ([Pz b l c'] ++ Hr)) : JL c ops Q (⟨some d, .call { callee := .value (.func fid), args := xs, argTypes := at_ }, ty, pos, af, none⟩ :: ls) env H := by
  obtain ⟨con, bd⟩ := con
  cases r with
  | ok x c' => exact jl_op (ow_call1 is hx hp (finR_con con) (h x c' rfl (bd _ _ rfl) he)) hd
  | er code p => exact jl_pan (op_pan is hx hp (finR_pan con)) (hq _ he)
theorem hp_bindE {nt : Nat} {c : Cx Tryz.prog nt} {env : Env} {H Hr : List Ch} {ops : Array Oper} {Q : Exit → Act → World → Prop} {Sw : World → Prop} {m fuel : Nat} {listed : Array Bool} {i : Nat} {α β : Type} {gA : α → S} {gB : β → S} {l : List Tok} {b a : Nat} {r : R α} {f : α → Nat → R β} {fin0 : Fin} {fid : FuncId} [FI Tryz.prog fid] {args : List S} {xs : Array Operand} {at_ : Array TypeId} {d : Tmp} {ty : TypeId} {pos : String} {af : Array Edge}
    (hi : ops[i]? = some ⟨some d, .call { callee := .value (.func fid), args := xs, argTypes := at_ }, ty, pos, af, none⟩) (hr : Region.ready .any ops listed = [i]) (hd : d < nt) (is : List Nat)
    (hx : env.evs xs.toList = some (Ptr b :: args)) (hp : pick is H = some ([Pz b l a], Hr)) (con : PC fid l b args a gA r) (he : fin0 = finR l b gB (r.bind f)) (hq : ∀ v, fin0 = .pan v → PanQ c Q v)
    (h : ∀ x c', r = .ok x c' → a < c' ∧ c' ≤ l.length → fin0 = finR l b gB (f x c') → (∀ w, StW c ([Pz b l c'] ++ Hr) w → Sw w) ∧ HP c ops Q Sw m fuel (listed.setIfInBounds i true) ((d, gA x) :: env) ([Pz b l c'] ++ Hr)) : HP c ops Q Sw m (fuel + 1) listed env H := by
  obtain ⟨con, bd⟩ := con
  cases r with
  | ok x c' => exact hp_op hi hr hd (ow_call1 is hx hp (finR_con con) (h x c' rfl (bd _ _ rfl) he))
  | er code p => exact hp_pan hi hr (op_pan is hx hp (finR_pan con)) (hq _ he)
theorem R.bind_ok {α : Type} (r : R α) : (r.bind fun x b => .ok x b) = r := by cases r <;> rfl
section
variable {l : List Tok} {a b : Nat} (hl : l.length ≤ 1000000) (ha : a ≤ l.length)
include hl ha
theorem pword_p (w : ByteArray) : PC 82 l b [Str w] a (fun _ : Unit => .tup []) (wdG l w a) := by
  unfold wdG
  cases h : isA l a w with
  | true => exact ⟨con_finR (if_pos rfl) (pword_ok hl ha w h), fun x c e => by have := isA_lt h; rw [if_pos rfl] at e; cases e; omega⟩
  | false => exact ⟨pan_finR (if_neg Bool.false_ne_true) (pword_er hl ha w h), fun x c e => by rw [if_neg Bool.false_ne_true] at e; cases e⟩
theorem pname_p : PC 80 l b [] a (fun s : ByteArray => Str s) (nmG l a) := by
  unfold nmG
  cases h : isNm l a with
  | true => exact ⟨con_finR (if_pos rfl) (pname_ok hl ha h), fun x c e => by have := isNm_lt h; rw [if_pos rfl] at e; cases e; omega⟩
  | false => exact ⟨pan_finR (if_neg Bool.false_ne_true) (pname_er hl ha h), fun x c e => by rw [if_neg Bool.false_ne_true] at e; cases e⟩
theorem pnum_p : PC 81 l b [] a (fun n : Int => In .i64 n) (nuG l a) := by
  unfold nuG
  cases h : isNum l a with
  | true => exact ⟨con_finR (if_pos rfl) (pnum_ok hl ha h), fun x c e => by have := isNum_lt h; rw [if_pos rfl] at e; cases e; omega⟩
  | false => exact ⟨pan_finR (if_neg Bool.false_ne_true) (pnum_er hl ha h), fun x c e => by rw [if_neg Bool.false_ne_true] at e; cases e⟩
theorem pexpr_p : PC 145 l b [] a (fun t : T => .row t.row') (exG l a) := by
  refine ⟨?_, fun x c e => by unfold exG at e; exact sx_bd _ _ _ _ _ e⟩
  have := exG_c (b := b) hl ha
  cases h : exG l a with
  | ok t c => exact con_finR rfl (finT_ok this h)
  | er code p => exact pan_finR rfl (finT_er this h)
theorem pnumber_p : PC 123 l b [] a (fun n : Int => In .i64 n) (nbG l a) := by
  have hbd : ∀ x c, nbG l a = .ok x c → a < c ∧ c ≤ l.length := by
    intro x c e
    unfold nbG at e
    split at e
    · rename_i h
      have := isA_lt h
      cases h2 : nuG l (a + 1) with
      | ok y d =>
        rw [h2] at e
        have := (pnum_p (b := b) hl (show a + 1 ≤ l.length by omega)).bd _ _ h2
        simp only [R.bind] at e
        cases e
        omega
      | er code p => rw [h2] at e; cases e
    · exact (pnum_p (b := b) hl ha).bd _ _ e
  refine ⟨(con_introE Tryz.func123 rfl rfl (Nat.le_of_ble_eq_true rfl) (fun c hc => ?_)), hbd⟩
  generalize hfin : finR l b (fun n : Int => In .i64 n) (nbG l a) = fin0
  have e := hfin.symm
  cases h : isA l a W45 with
  | true =>
    have hlt := isA_lt h
    rw [nbG, if_pos h] at e
    refine R_ (E_ r_ (T_ (am_ (R_ (M_ r_ (o_ r_ (bi_ [0] r_ r_ (has_y hl ha h) (T_ (aq_ r_ r_ (R_ (M_ r_ (jl_bindE [0] rfl rfl (pnum_p hl g_) e (fun v hv => by (repeat (first | refine pq_then ?_ | refine pq_block ?_)); exact pq_fin hv) (nb rfl) (fun n c h2 g2 e => ?_)))))))))))))
    exact o_ r_ (ow_negW r_ (E_ r_ (T_ (ar_ (aw_ (jq_fin e (jq_ret1S rfl rfl (fun K h => h) (bc_ 0 r_ sub_end))))))))
  | false =>
    rw [nbG, if_neg (by rw [h]; decide), ← R.bind_ok (nuG l a)] at e
    refine R_ (E_ r_ (T_ (am_ (R_ (M_ r_ (o_ r_ (bi_ [0] r_ r_ (has_n hl ha h) (T_ (ap_ r_ r_ (as_ (al_ (R_ (M_ r_ (jl_bindE [0] rfl rfl (pnum_p hl ha) e (fun v hv => by (repeat (first | refine pq_then ?_ | refine pq_block ?_)); exact pq_fin hv) (nb rfl) (fun n c h2 g2 e => ?_)))))))))))))))
    exact E_ r_ (T_ (ar_ (jq_fin e (jq_ret1S rfl rfl (fun K h => h) (bc_ 0 r_ sub_end)))))
end
end Go.Proofs.YtamajcgdfjeehaaGreatDoor
end

section
namespace Go.Proofs.YtamajcgdfjeehaaGreatDoor
open Go.Vc
attribute [local irreducible] JL JC JQ OpWp Con ConN Pan ConE OpPan HP HT HOk hasW idxW isA isNum isNm numAt txtAt lineAt opAt lx lpx sx sxp exG
set_option maxHeartbeats 4000000

/-- No name is a brace (so it is with the tokens of a text). -/
def NmOk (l : List Tok) : Prop := ∀ a, isNm l a = true → isA l a Kcb = false
theorem kw_nm {l : List Tok} {a : Nat} {w : ByteArray} (h : isA l a w = true) (hw : hasW w = true) : isNm l a = false := by
  have hlt := isA_lt h
  rw [isA_get w hlt] at h
  rw [isNm_get hlt]
  simp only [Bool.and_eq_true, decide_eq_true_eq] at h
  rw [h.2, hw]; simp
theorem isA_ne {l : List Tok} {a : Nat} {w u : ByteArray} (h : isA l a w = true) (hw : ¬ w = u) : isA l a u = false := by
  have hlt := isA_lt h
  rw [isA_get w hlt] at h
  rw [isA_get u hlt]
  simp only [Bool.and_eq_true, decide_eq_true_eq] at h
  rw [h.2, decide_eq_false hw]; simp
theorem start_n {l : List Tok} {a : Nat} (h : startA l a = false) : isA l a Kif = false ∧ isA l a Kwhile = false ∧ isA l a Klock = false ∧ isNm l a = false := by
  unfold startA at h
  simp only [Bool.or_eq_false_iff] at h
  exact ⟨h.1.1.1, h.1.1.2, h.1.2, h.2⟩
theorem start_lt {l : List Tok} {a : Nat} (h : startA l a = true) : a < l.length := by
  rcases Nat.lt_or_ge a l.length with h' | h'
  · exact h'
  · rw [startA, isA_end _ (by omega), isA_end _ (by omega), isA_end _ (by omega), isNm_end (by omega)] at h; cases h
theorem start_cb {l : List Tok} (hN : NmOk l) {a : Nat} (h : isA l a Kcb = true) : startA l a = false := by
  rw [startA, isA_ne h (by decide), isA_ne h (by decide), isA_ne h (by decide)]
  cases h2 : isNm l a with
  | true => rw [hN a h2] at h; cases h
  | false => rfl
/-- The program's statement: as the reference's, but that it is looked at first. -/
def stG (l : List Tok) (F w a : Nat) : R Sm := if startA l a = true then (if 8 ≤ w then .er 4 a else stmtG l F w a) else .er 1 a
abbrev SmS (s : Sm) : S := .row s.row'
abbrev SlS (ss : List Sm) : S := .cell (.list (ss.map Sm.row))
theorem bind_okE {α β : Type} (x : α) (a : Nat) (f : α → Nat → R β) : (R.ok x a : R α).bind f = f x a := rfl
/-- What a composed step gives: first the one, then the other. -/
theorem bind_bd {α β : Type} {l : List Tok} {a : Nat} {r : R α} {f : α → Nat → R β} (h : ∀ x c, r = .ok x c → a < c ∧ c ≤ l.length) (k : ∀ x c, r = .ok x c → ∀ y d, f x c = .ok y d → c ≤ d ∧ d ≤ l.length) : ∀ y d, r.bind f = .ok y d → a < d ∧ d ≤ l.length := by
  intro y d e
  cases r with
  | ok x c =>
    have h1 := h x c rfl
    have h2 := k x c rfl y d e
    omega
  | er code p => cases e
theorem wdG_bd {l : List Tok} {w : ByteArray} {a : Nat} : ∀ x c, wdG l w a = .ok x c → a < c ∧ c ≤ l.length := by
  intro x c e
  unfold wdG at e
  split at e
  · rename_i h; have := isA_lt h; cases e; omega
  · cases e
theorem nmG_bd {l : List Tok} {a : Nat} : ∀ x c, nmG l a = .ok x c → a < c ∧ c ≤ l.length := by
  intro x c e
  unfold nmG at e
  split at e
  · rename_i h; have := isNm_lt h; cases e; omega
  · cases e
theorem nuG_bd {l : List Tok} {a : Nat} : ∀ x c, nuG l a = .ok x c → a < c ∧ c ≤ l.length := by
  intro x c e
  unfold nuG at e
  split at e
  · rename_i h; have := isNum_lt h; cases e; omega
  · cases e
theorem exG_bd {l : List Tok} {a : Nat} : ∀ x c, exG l a = .ok x c → a < c ∧ c ≤ l.length := by
  intro x c e
  unfold exG at e
  exact sx_bd _ _ _ _ _ e
theorem stmtsL_bd {l : List Tok} {st : Nat → R Sm} {w : Nat} (hs : ∀ a x c, st a = .ok x c → a < c ∧ c ≤ l.length) : ∀ (n a : Nat) (acc ss : List Sm) (c : Nat), a ≤ l.length → stmtsL l st w n a acc = .ok ss c → a ≤ c ∧ c ≤ l.length
  | 0, a, acc, ss, c, h, e => by simp only [stmtsL, R.ok.injEq] at e; omega
  | n + 1, a, acc, ss, c, h, e => by
    rw [stmtsL] at e
    split at e
    · split at e
      · cases e
      · cases h1 : st a with
        | er code p => rw [h1] at e; cases e
        | ok x b =>
          rw [h1] at e
          have h2 := hs _ _ _ h1
          have h3 := stmtsL_bd hs n b _ _ _ h2.2 e
          omega
    · simp only [R.ok.injEq] at e; omega
theorem blkG_bd {l : List Tok} {st : Nat → R Sm} {w n a : Nat} (hs : ∀ a x c, st a = .ok x c → a < c ∧ c ≤ l.length) : ∀ x c, blkG l st w n a = .ok x c → a < c ∧ c ≤ l.length :=
  bind_bd wdG_bd fun _ b hb y d e => by
    have h0 := wdG_bd _ _ hb
    cases h1 : stmtsL l st w n b [] with
    | er code p => rw [h1] at e; cases e
    | ok ss c =>
      rw [h1] at e
      have h2 := stmtsL_bd hs n b _ _ _ h0.2 h1
      cases h3 : wdG l Kcb c with
      | er code p => rw [bind_okE, h3] at e; cases e
      | ok u d' =>
        rw [bind_okE, h3, bind_okE] at e
        have h4 := wdG_bd _ _ h3
        cases e
        omega
theorem ok_bd {α : Type} {l : List Tok} {x : α} {a : Nat} (ha : a ≤ l.length) : ∀ y d, R.ok x a = .ok y d → a ≤ d ∧ d ≤ l.length := by
  intro y d e; cases e; omega
theorem bd_le {α : Type} {l : List Tok} {a : Nat} {r : R α} (h : ∀ x c, r = .ok x c → a < c ∧ c ≤ l.length) : ∀ x c, r = .ok x c → a ≤ c ∧ c ≤ l.length := fun x c e => by have := h x c e; omega
theorem stmtG_bd {l : List Tok} : ∀ (F w a : Nat) (x : Sm) (c : Nat), stmtG l F w a = .ok x c → a < c ∧ c ≤ l.length
  | 0, _, _, _, _, e => by simp [stmtG] at e
  | F + 1, w, a, x, c, e => by
    have ih := stmtG_bd (l := l) F
    have hB : ∀ b, ∀ x c, blkG l (stmtG l F (w + 1)) (w + 1) F b = .ok x c → b < c ∧ c ≤ l.length := fun b => blkG_bd (fun a x c => ih (w + 1) a x c)
    rw [stmtG] at e
    split at e
    · have h := bind_bd exG_bd (fun _ b _ => bd_le (bind_bd wdG_bd (fun _ b _ => bd_le (bind_bd nuG_bd (fun _ b _ => bd_le (bind_bd (hB _) (fun _ b hb => by
        have := hB _ _ _ hb
        split
        · rename_i h
          have := isA_lt h
          exact fun y d e => by have := bind_bd (a := b) (fun x c e => by have := hB _ _ _ e; omega) (fun _ b hb => ok_bd (hB _ _ _ hb).2) y d e; omega
        · exact ok_bd this.2))))))) x c e
      omega
    · split at e
      · have h := bind_bd exG_bd (fun _ b _ => bd_le (bind_bd wdG_bd (fun _ b _ => bd_le (bind_bd nuG_bd (fun _ b _ => bd_le (bind_bd wdG_bd (fun _ b _ => bd_le (bind_bd nuG_bd (fun _ b _ => bd_le (bind_bd (hB _) (fun _ b hb => ok_bd (hB _ _ _ hb).2)))))))))) ) x c e
        omega
      · split at e
        · have h := bind_bd nmG_bd (fun _ b _ => bd_le (bind_bd (hB _) (fun _ b hb => ok_bd (hB _ _ _ hb).2))) x c e
          omega
        · refine bind_bd nmG_bd (fun _ b _ => ?_) x c e
          split
          · exact fun y d e => by
              have := bind_bd exG_bd (fun _ b _ => bd_le (bind_bd wdG_bd (fun _ b _ => bd_le (bind_bd wdG_bd (fun _ b _ => bd_le (bind_bd exG_bd (fun _ b hb => ok_bd (exG_bd _ _ hb).2))))))) y d e
              omega
          · exact bd_le (bind_bd wdG_bd (fun _ b _ => bd_le (bind_bd exG_bd (fun _ b hb => ok_bd (exG_bd _ _ hb).2))))
end Go.Proofs.YtamajcgdfjeehaaGreatDoor
end

section
namespace Go.Proofs.YtamajcgdfjeehaaGreatDoor
open Go.Vc
attribute [local irreducible] JL JC JQ OpWp Con ConN Pan ConE OpPan hasW idxW isA isNum isNm numAt txtAt lineAt opAt lx lpx sx sxp dpR
set_option maxHeartbeats 4000000

abbrev Rz (b : Nat) (l : List Tok) (a : Nat) (ln e : Int) (fr : Bool) : Ch := .blk b 118 [.list (l.map Tok.row), .val (.int .i64 (a : Int)), .val (.int .i64 ln), .val (.int .i64 e), .val (.bool fr)]
theorem lineAt_getI {l : List Tok} {p : Nat} {m : Int} (h : m.toNat < l.length) (hm : m.toNat = min p (l.length - 1)) : lineAt l p = l[m.toNat].line := by
  have h2 : min p (l.length - 1) < l.length := by omega
  simp [lineAt, hm, h2]
section
variable {l : List Tok} {a b : Nat} {ln e : Int} {fr : Bool} (hl : l.length ≤ 1000000)
theorem rfail_e (he : ¬ e = 0) (p code : Int) : Con Tryz.prog 54 [Ptr b, In .i64 p, In .i64 code] [Rz b l a ln e fr] (fun K => K (.tup []) [Rz b l a ln e fr]) := by
  refine con_intro Tryz.func54 rfl rfl (Nat.le_of_ble_eq_true rfl) (fun c hc => am_ (R_ (M_ r_ (N_ r_ (F_ r_ (L_ 0 r_ (o_ r_ (bx_ r_ r_ (T_ (aq_ r_ u_ (ar_ (aw_ (jq_ret0 (.inl rfl) rfl [0] rfl (fun K h => h))))))))))))))
include hl in
theorem rfail_c (p : Nat) (hp : p ≤ 2000000) (code : Int) : Con Tryz.prog 54 [Ptr b, In .i64 (p : Int), In .i64 code] [Rz b l a ln 0 fr] (fun K => K (.tup []) [Rz b l a (lineAt l p) code fr]) := by
  have eL : (l.map Tok.row).length = l.length := List.length_map _
  refine con_intro Tryz.func54 rfl rfl (Nat.le_of_ble_eq_true rfl) (fun c hc => ?_)
  by_cases h0 : 0 < l.length
  · refine am_ (R_ (M_ r_ (N_ r_ (F_ r_ (L_ 0 r_ (o_ r_ (bx_ r_ r_ (T_ (ap_ r_ r_ (as_ (al_ (R_ (M_ r_ (M_ r_ (M_ r_ (N_ r_ ?_))))))))))))))))
    refine F_ r_ (W_ 0 r_ (N_ r_ (F_ r_ (W_ 0 r_ (T_ (R_ (M_ r_ (N_ r_ (F_ r_ (L_ 0 r_ (o_ r_ (br_ r_ (fun hlen => o_ r_ (bz_ r_ r_ (T_ (aq_ r_ t_ (jc_anyB 19 none rfl k_ k_ ?_)))))))))))))))))
    refine yM_ r_ (yM_ r_ (yN_ r_ (yF_ r_ (yL_ 0 r_ (yM_ r_ (yM_ r_ (yN_ r_ (yF_ r_ (yL_ 0 r_ (aa_ (fun c => br_ r_ (fun hlen => p_)) (aa_ (fun c => cg_ r_ r_ g_ p_) (aa_ (fun c => cl_ r_ r_ p_) (aa_ (fun c => ck_ r_ r_ p_) (aa_ (fun c => cv_ r_ r_ g_ g_ r_ r_ b_ p_) (aa_ (fun c => cf_ r_ r_ r_ b_ r_ b_ p_) ?_)))))))))))))))
    refine aa_ (fun c => cb_ r_ r_ p_) (yN_ r_ (yF_ r_ (ae_ (afin_none (W_ 0 r_ (ak_ (jq_ret0 (.inr rfl) rfl [0] rfl (fun K h => by rw [lineAt_getI (m := max 0 (min (p : Int) (((l.map Tok.row).length : Int) - 1))) g_ g_] at h; exact h))))))))
  · obtain rfl : l = [] := List.eq_nil_of_length_eq_zero (by omega)
    have e : lineAt [] p = 1 := by simp [lineAt]
    refine am_ (R_ (M_ r_ (N_ r_ (F_ r_ (L_ 0 r_ (o_ r_ (bx_ r_ r_ (T_ (ap_ r_ r_ (as_ (al_ (R_ (M_ r_ (M_ r_ (M_ r_ (N_ r_ ?_))))))))))))))))
    refine F_ r_ (W_ 0 r_ (N_ r_ (F_ r_ (W_ 0 r_ (T_ (R_ (M_ r_ (N_ r_ (F_ r_ (L_ 0 r_ (o_ r_ (br_ r_ (fun hlen => o_ r_ (bz_ r_ r_ (T_ (ap_ r_ r_ (as_ ?_)))))))))))))))))
    refine jq_ret0 (.inr rfl) rfl [0] rfl (fun K h => by rw [e] at h; exact h)
theorem ris_e (he : ¬ e = 0) (w : ByteArray) : Con Tryz.prog 92 [Ptr b, Str w] [Rz b l a ln e fr] (fun K => K (Bl false) [Rz b l a ln e fr]) := by
  refine con_intro Tryz.func92 rfl rfl (Nat.le_of_ble_eq_true rfl) (fun c hc => R_ (E_ r_ (T_ (am_ (ao_ r_ r_ k_ k_ (yM_ r_ (yN_ r_ (yF_ r_ (yL_ 0 r_ (aa_ (fun c => bn_ r_ r_ p_) (yM_ r_ (ac_ r_ w_ (ac_ r_ w_ (ac_ r_ w_ (ac_ r_ w_ ?_)))))))))))))))
  refine ac_ r_ w_ (ac_ r_ w_ (ac_ r_ w_ (ac_ r_ w_ (ac_ r_ w_ (ac_ r_ w_ (aa_ (fun c => bv_ r_ w_ r_ p_) (yM_ r_ (ac_ r_ r_ (ac_ r_ r_ (ac_ r_ r_ (ac_ r_ r_ (ac_ r_ r_ (ac_ r_ r_ (ac_ r_ r_ (ac_ r_ r_ ?_)))))))))))))))
  refine ac_ r_ r_ (ac_ r_ r_ (ac_ r_ r_ (ac_ r_ r_ (aa_ (fun c => bv_ r_ r_ r_ p_) (yM_ r_ (ac_ r_ r_ (ac_ r_ r_ (ac_ r_ r_ (ac_ r_ r_ (ac_ r_ r_ (ac_ r_ r_ (ac_ r_ r_ (ac_ r_ r_ (ac_ r_ r_ (ac_ r_ r_ ?_)))))))))))))))
  refine ac_ r_ r_ (ac_ r_ r_ (ac_ r_ r_ (aa_ (fun c => bv_ r_ r_ r_ p_) (yE_ r_ (ae_ (al_ (ar_ (jq_ret1 rfl rfl [0] rfl (fun K h => h)))))))))
theorem ris_c (w : ByteArray) (ha : a ≤ l.length) : Con Tryz.prog 92 [Ptr b, Str w] [Rz b l a ln 0 fr] (fun K => K (Bl (isA l a w)) [Rz b l a ln 0 fr]) := by
  have eL : (l.map Tok.row).length = l.length := List.length_map _
  refine con_intro Tryz.func92 rfl rfl (Nat.le_of_ble_eq_true rfl) (fun c hc => ?_)
  by_cases hlt : a < l.length
  · have e := isA_get w hlt
    by_cases hk : l[a].kind = 2
    · have hkn : ¬ ¬ l[a].kind = 2 := fun h => h hk
      refine R_ (E_ r_ (T_ (am_ (ao_ r_ r_ k_ k_ (yM_ r_ (yN_ r_ (yF_ r_ (yL_ 0 r_ (aa_ (fun c => bn_ r_ r_ p_) (yM_ r_ (ab_ r_ x_ (fun c => bd_ r_ p_) (ab_ r_ x_ (fun c => bh_ r_ p_) (ab_ r_ x_ (fun c => bf_ r_ r_ r_ b_ p_) (ab_ r_ x_ (fun c => bg_ 0 r_ r_ r_ r_ p_) (ab_ r_ x_ (fun c => bd_ r_ p_) ?_)))))))))))))))
      refine ab_ r_ x_ (fun c => bh_ r_ p_) (ab_ r_ x_ (fun c => bf_ r_ r_ r_ b_ p_) (ab_ r_ x_ (fun c => bg_ 0 r_ r_ r_ r_ p_) (ab_ r_ x_ (fun c => br_ r_ (fun hlen => p_)) (ab_ r_ x_ (fun c => bw_ r_ r_ p_) (aa_ (fun c => bp_ r_ x_ r_ p_) (yM_ r_ (ab_ r_ t_ (fun c => bd_ r_ p_) (ab_ r_ t_ (fun c => bh_ r_ p_) (ab_ r_ t_ (fun c => bf_ r_ r_ r_ b_ p_) (ab_ r_ t_ (fun c => bg_ 0 r_ r_ r_ r_ p_) ?_))))))))))
      refine ab_ r_ t_ (fun c => bd_ r_ p_) (ab_ r_ t_ (fun c => bh_ r_ p_) (ab_ r_ t_ (fun c => bf_ r_ r_ r_ b_ p_) (ab_ r_ t_ (fun c => bg_ 0 r_ r_ r_ r_ p_) (ab_ r_ t_ (fun c => cc_ r_ r_ g_ r_ r_ b_ p_) (ab_ r_ t_ (fun c => cf_ r_ r_ r_ b_ r_ b_ p_) (ab_ r_ t_ (fun c => cb_ r_ r_ p_) (ab_ r_ t_ (fun c => bx_ r_ r_ p_) (aa_ (fun c => bp_ r_ t_ r_ p_) (yM_ r_ (ac_ r_ w_ (ac_ r_ w_ (ac_ r_ w_ (ac_ r_ w_ ?_)))))))))))))
      refine ac_ r_ w_ (ac_ r_ w_ (ac_ r_ w_ (ac_ r_ w_ (ac_ r_ w_ (ac_ r_ w_ (ac_ r_ w_ (ac_ r_ w_ (ac_ r_ w_ (aa_ (fun c => bv_ r_ w_ r_ p_) (yE_ r_ (ae_ (al_ (ar_ (jq_ret1 rfl rfl [0] rfl (fun K h => by rw [e, decide_eq_true hk] at h; exact h)))))))))))))))
    · refine R_ (E_ r_ (T_ (am_ (ao_ r_ r_ k_ k_ (yM_ r_ (yN_ r_ (yF_ r_ (yL_ 0 r_ (aa_ (fun c => bn_ r_ r_ p_) (yM_ r_ (ab_ r_ x_ (fun c => bd_ r_ p_) (ab_ r_ x_ (fun c => bh_ r_ p_) (ab_ r_ x_ (fun c => bf_ r_ r_ r_ b_ p_) (ab_ r_ x_ (fun c => bg_ 0 r_ r_ r_ r_ p_) (ab_ r_ x_ (fun c => bd_ r_ p_) ?_)))))))))))))))
      refine ab_ r_ x_ (fun c => bh_ r_ p_) (ab_ r_ x_ (fun c => bf_ r_ r_ r_ b_ p_) (ab_ r_ x_ (fun c => bg_ 0 r_ r_ r_ r_ p_) (ab_ r_ x_ (fun c => br_ r_ (fun hlen => p_)) (ab_ r_ x_ (fun c => bw_ r_ r_ p_) (aa_ (fun c => bp_ r_ x_ r_ p_) (yM_ r_ (ab_ r_ t_ (fun c => bd_ r_ p_) (ab_ r_ t_ (fun c => bh_ r_ p_) (ab_ r_ t_ (fun c => bf_ r_ r_ r_ b_ p_) (ab_ r_ t_ (fun c => bg_ 0 r_ r_ r_ r_ p_) ?_))))))))))
      refine ab_ r_ t_ (fun c => bd_ r_ p_) (ab_ r_ t_ (fun c => bh_ r_ p_) (ab_ r_ t_ (fun c => bf_ r_ r_ r_ b_ p_) (ab_ r_ t_ (fun c => bg_ 0 r_ r_ r_ r_ p_) (ab_ r_ t_ (fun c => cc_ r_ r_ g_ r_ r_ b_ p_) (ab_ r_ t_ (fun c => cf_ r_ r_ r_ b_ r_ b_ p_) (ab_ r_ t_ (fun c => cb_ r_ r_ p_) (ab_ r_ t_ (fun c => bx_ r_ r_ p_) (aa_ (fun c => bp_ r_ t_ r_ p_) (yM_ r_ (ab_ r_ u_ (fun c => bd_ r_ p_) ?_))))))))))
      refine ab_ r_ u_ (fun c => bh_ r_ p_) (ab_ r_ u_ (fun c => bf_ r_ r_ r_ b_ p_) (ab_ r_ u_ (fun c => bg_ 0 r_ r_ r_ r_ p_) (ab_ r_ u_ (fun c => bd_ r_ p_) (ab_ r_ u_ (fun c => bh_ r_ p_) (ab_ r_ u_ (fun c => bf_ r_ r_ r_ b_ p_) (ab_ r_ u_ (fun c => bg_ 0 r_ r_ r_ r_ p_) (ab_ r_ u_ (fun c => cc_ r_ r_ g_ r_ r_ b_ p_) (ab_ r_ u_ (fun c => cf_ r_ r_ r_ b_ r_ b_ p_) (ab_ r_ u_ (fun c => cb_ r_ r_ p_) ?_)))))))))
      refine ab_ r_ u_ (fun c => bd_ r_ p_) (ab_ r_ u_ (fun c => cs_ r_ r_ p_) (aa_ (fun c => bp_ r_ u_ r_ p_) (yE_ r_ (ae_ (al_ (ar_ (jq_ret1 rfl rfl [0] rfl (fun K h => by rw [e, decide_eq_false hk] at h; exact h))))))))
  · have e := isA_end w hlt
    have hlt2 : ¬ (a : Int) < l.length := by omega
    refine R_ (E_ r_ (T_ (am_ (ao_ r_ r_ k_ k_ (yM_ r_ (yN_ r_ (yF_ r_ (yL_ 0 r_ (aa_ (fun c => bn_ r_ r_ p_) (yM_ r_ (ab_ r_ x_ (fun c => bd_ r_ p_) (ab_ r_ x_ (fun c => bh_ r_ p_) (ab_ r_ x_ (fun c => bf_ r_ r_ r_ b_ p_) (ab_ r_ x_ (fun c => bg_ 0 r_ r_ r_ r_ p_) (ab_ r_ x_ (fun c => bd_ r_ p_) ?_)))))))))))))))
    refine ab_ r_ x_ (fun c => bh_ r_ p_) (ab_ r_ x_ (fun c => bf_ r_ r_ r_ b_ p_) (ab_ r_ x_ (fun c => bg_ 0 r_ r_ r_ r_ p_) (ab_ r_ x_ (fun c => br_ r_ (fun hlen => p_)) (ab_ r_ x_ (fun c => bw_ r_ r_ p_) (aa_ (fun c => bp_ r_ x_ r_ p_) (yM_ r_ (ac_ r_ v_ (ac_ r_ v_ (ac_ r_ v_ (ac_ r_ v_ (ac_ r_ v_ (ac_ r_ v_ (ac_ r_ v_ (ac_ r_ v_ (ac_ r_ v_ ?_)))))))))))))))
    refine ac_ r_ v_ (ac_ r_ v_ (ac_ r_ v_ (aa_ (fun c => bv_ r_ v_ r_ p_) (yM_ r_ (ac_ r_ r_ (ac_ r_ r_ (ac_ r_ r_ (ac_ r_ r_ (ac_ r_ r_ (ac_ r_ r_ (ac_ r_ r_ (ac_ r_ r_ (ac_ r_ r_ (ac_ r_ r_ (ac_ r_ r_ ?_)))))))))))))))
    refine ac_ r_ r_ (ac_ r_ r_ (aa_ (fun c => bv_ r_ r_ r_ p_) (yE_ r_ (ae_ (al_ (ar_ (jq_ret1 rfl rfl [0] rfl (fun K h => by rw [e] at h; exact h))))))))
theorem ris_y {w : ByteArray} (ha : a ≤ l.length) (h : isA l a w = true) : Con Tryz.prog 92 [Ptr b, Str w] [Rz b l a ln 0 fr] (fun K => K (Bl true) [Rz b l a ln 0 fr]) := by have := ris_c (b := b) (ln := ln) (fr := fr) w ha; rwa [h] at this
theorem ris_n {w : ByteArray} (ha : a ≤ l.length) (h : isA l a w = false) : Con Tryz.prog 92 [Ptr b, Str w] [Rz b l a ln 0 fr] (fun K => K (Bl false) [Rz b l a ln 0 fr]) := by have := ris_c (b := b) (ln := ln) (fr := fr) w ha; rwa [h] at this
theorem rskip_e (he : ¬ e = 0) (w : ByteArray) : Con Tryz.prog 50 [Ptr b, Str w] [Rz b l a ln e fr] (fun K => K (Bl false) [Rz b l a ln e fr]) := by
  refine con_intro Tryz.func50 rfl rfl (Nat.le_of_ble_eq_true rfl) (fun c hc => R_ (E_ r_ (T_ (am_ (R_ (M_ r_ (M_ r_ (o_ r_ (bi_ [0] r_ r_ (ris_e he _) (o_ r_ (cd_ r_ (T_ (aq_ r_ r_ (R_ (E_ r_ (T_ (ar_ ?_)))))))))))))))))
  refine aw_ (jq_ret1 rfl rfl [0] rfl (fun K h => h))
include hl in
theorem rskip_y {w : ByteArray} (ha : a ≤ l.length) (h : isA l a w = true) : Con Tryz.prog 50 [Ptr b, Str w] [Rz b l a ln 0 fr] (fun K => K (Bl true) [Rz b l (a + 1) ln 0 fr]) := by
  refine con_intro Tryz.func50 rfl rfl (Nat.le_of_ble_eq_true rfl) (fun c hc => R_ (E_ r_ (T_ (am_ (R_ (M_ r_ (M_ r_ (o_ r_ (bi_ [0] r_ r_ (ris_y ha h) (o_ r_ (cd_ r_ (T_ (ap_ r_ r_ (as_ (al_ (R_ (M_ r_ ?_)))))))))))))))))
  refine N_ r_ (F_ r_ (L_ 0 r_ (o_ r_ (bj_ r_ r_ g_ (N_ r_ (F_ r_ (W_ 0 r_ (T_ (R_ (E_ r_ (T_ (ar_ (jq_ret1 rfl rfl [0] rfl (fun K h => h))))))))))))))
theorem rskip_n {w : ByteArray} (ha : a ≤ l.length) (h : isA l a w = false) : Con Tryz.prog 50 [Ptr b, Str w] [Rz b l a ln 0 fr] (fun K => K (Bl false) [Rz b l a ln 0 fr]) := by
  refine con_intro Tryz.func50 rfl rfl (Nat.le_of_ble_eq_true rfl) (fun c hc => R_ (E_ r_ (T_ (am_ (R_ (M_ r_ (M_ r_ (o_ r_ (bi_ [0] r_ r_ (ris_n ha h) (o_ r_ (cd_ r_ (T_ (aq_ r_ r_ (R_ (E_ r_ (T_ (ar_ ?_)))))))))))))))))
  refine aw_ (jq_ret1 rfl rfl [0] rfl (fun K h => h))
theorem rneed_e (he : ¬ e = 0) (w : ByteArray) : Con Tryz.prog 94 [Ptr b, Str w] [Rz b l a ln e fr] (fun K => K (.tup []) [Rz b l a ln e fr]) := by
  refine con_intro Tryz.func94 rfl rfl (Nat.le_of_ble_eq_true rfl) (fun c hc => R_ (M_ r_ (M_ r_ (o_ r_ (bi_ [0] r_ r_ (rskip_e he _) (o_ r_ (cd_ r_ (T_ (aq_ r_ r_ (an_ (M_ r_ (M_ r_ (N_ r_ (F_ r_ (L_ 0 r_ (o_ r_ (bi_ [0] r_ r_ (rfail_e he _ _) (ak_ ?_))))))))))))))))))
  refine jq_ret0 (.inr rfl) rfl [0] rfl (fun K h => h)
include hl in
theorem rneed_y {w : ByteArray} (ha : a ≤ l.length) (h : isA l a w = true) : Con Tryz.prog 94 [Ptr b, Str w] [Rz b l a ln 0 fr] (fun K => K (.tup []) [Rz b l (a + 1) ln 0 fr]) := by
  refine con_intro Tryz.func94 rfl rfl (Nat.le_of_ble_eq_true rfl) (fun c hc => R_ (M_ r_ (M_ r_ (o_ r_ (bi_ [0] r_ r_ (rskip_y hl ha h) (o_ r_ (cd_ r_ (T_ (ap_ r_ r_ (as_ (jq_ret0 (.inr rfl) rfl [0] rfl (fun K h => h))))))))))))
include hl in
theorem rneed_n {w : ByteArray} (ha : a ≤ l.length) (h : isA l a w = false) : Con Tryz.prog 94 [Ptr b, Str w] [Rz b l a ln 0 fr] (fun K => K (.tup []) [Rz b l a (lineAt l a) 1 fr]) := by
  refine con_intro Tryz.func94 rfl rfl (Nat.le_of_ble_eq_true rfl) (fun c hc => R_ (M_ r_ (M_ r_ (o_ r_ (bi_ [0] r_ r_ (rskip_n ha h) (o_ r_ (cd_ r_ (T_ (aq_ r_ r_ (an_ (M_ r_ (M_ r_ (N_ r_ (F_ r_ (L_ 0 r_ (o_ r_ (bi_ [0] r_ r_ (rfail_c hl a g_ _) (ak_ ?_))))))))))))))))))
  refine jq_ret0 (.inr rfl) rfl [0] rfl (fun K h => h)
theorem risNm_e (he : ¬ e = 0) : Con Tryz.prog 93 [Ptr b] [Rz b l a ln e fr] (fun K => K (Bl false) [Rz b l a ln e fr]) := by
  refine con_intro Tryz.func93 rfl rfl (Nat.le_of_ble_eq_true rfl) (fun c hc => R_ (E_ r_ (T_ (am_ (ao_ r_ r_ k_ k_ (yM_ r_ (yN_ r_ (yF_ r_ (yL_ 0 r_ (aa_ (fun c => bn_ r_ r_ p_) (yM_ r_ (ac_ r_ w_ (ac_ r_ w_ (ac_ r_ w_ (ac_ r_ w_ ?_)))))))))))))))
  refine ac_ r_ w_ (ac_ r_ w_ (ac_ r_ w_ (ac_ r_ w_ (ac_ r_ w_ (ac_ r_ w_ (aa_ (fun c => bv_ r_ w_ r_ p_) (yM_ r_ (ac_ r_ r_ (ac_ r_ r_ (ac_ r_ r_ (ac_ r_ r_ (ac_ r_ r_ (ac_ r_ r_ (ac_ r_ r_ (ac_ r_ r_ ?_)))))))))))))))
  refine ac_ r_ r_ (ac_ r_ r_ (ac_ r_ r_ (ac_ r_ r_ (aa_ (fun c => bv_ r_ r_ r_ p_) (yM_ r_ (ac_ r_ r_ (ac_ r_ r_ (ac_ r_ r_ (ac_ r_ r_ (ac_ r_ r_ (ac_ r_ r_ (ac_ r_ r_ (ac_ r_ r_ (ac_ r_ r_ (ac_ r_ r_ ?_)))))))))))))))
  refine ac_ r_ r_ (ac_ r_ r_ (ac_ r_ r_ (aa_ (fun c => bv_ r_ r_ r_ p_) (yE_ r_ (ae_ (al_ (ar_ (jq_ret1 rfl rfl [0] rfl (fun K h => h)))))))))
theorem risNm_c (ha : a ≤ l.length) : Con Tryz.prog 93 [Ptr b] [Rz b l a ln 0 fr] (fun K => K (Bl (isNm l a)) [Rz b l a ln 0 fr]) := by
  have eL : (l.map Tok.row).length = l.length := List.length_map _
  refine con_intro Tryz.func93 rfl rfl (Nat.le_of_ble_eq_true rfl) (fun c hc => ?_)
  by_cases hlt : a < l.length
  · have e := isNm_get hlt
    by_cases hk : l[a].kind = 1
    · refine R_ (E_ r_ (T_ (am_ (ao_ r_ r_ k_ k_ (yM_ r_ (yN_ r_ (yF_ r_ (yL_ 0 r_ (aa_ (fun c => bn_ r_ r_ p_) (yM_ r_ (ab_ r_ x_ (fun c => bd_ r_ p_) (ab_ r_ x_ (fun c => bh_ r_ p_) (ab_ r_ x_ (fun c => bf_ r_ r_ r_ b_ p_) (ab_ r_ x_ (fun c => bg_ 0 r_ r_ r_ r_ p_) (ab_ r_ x_ (fun c => bd_ r_ p_) ?_)))))))))))))))
      refine ab_ r_ x_ (fun c => bh_ r_ p_) (ab_ r_ x_ (fun c => bf_ r_ r_ r_ b_ p_) (ab_ r_ x_ (fun c => bg_ 0 r_ r_ r_ r_ p_) (ab_ r_ x_ (fun c => br_ r_ (fun hlen => p_)) (ab_ r_ x_ (fun c => bw_ r_ r_ p_) (aa_ (fun c => bp_ r_ x_ r_ p_) (yM_ r_ (ab_ r_ t_ (fun c => bd_ r_ p_) (ab_ r_ t_ (fun c => bh_ r_ p_) (ab_ r_ t_ (fun c => bf_ r_ r_ r_ b_ p_) (ab_ r_ t_ (fun c => bg_ 0 r_ r_ r_ r_ p_) ?_))))))))))
      refine ab_ r_ t_ (fun c => bd_ r_ p_) (ab_ r_ t_ (fun c => bh_ r_ p_) (ab_ r_ t_ (fun c => bf_ r_ r_ r_ b_ p_) (ab_ r_ t_ (fun c => bg_ 0 r_ r_ r_ r_ p_) (ab_ r_ t_ (fun c => cc_ r_ r_ g_ r_ r_ b_ p_) (ab_ r_ t_ (fun c => cf_ r_ r_ r_ b_ r_ b_ p_) (ab_ r_ t_ (fun c => cb_ r_ r_ p_) (ab_ r_ t_ (fun c => bn_ r_ r_ p_) (aa_ (fun c => bp_ r_ t_ r_ p_) (yM_ r_ (ab_ r_ u_ (fun c => bd_ r_ p_) ?_))))))))))
      refine ab_ r_ u_ (fun c => bh_ r_ p_) (ab_ r_ u_ (fun c => bf_ r_ r_ r_ b_ p_) (ab_ r_ u_ (fun c => bg_ 0 r_ r_ r_ r_ p_) (ab_ r_ u_ (fun c => bd_ r_ p_) (ab_ r_ u_ (fun c => bh_ r_ p_) (ab_ r_ u_ (fun c => bf_ r_ r_ r_ b_ p_) (ab_ r_ u_ (fun c => bg_ 0 r_ r_ r_ r_ p_) (ab_ r_ u_ (fun c => cc_ r_ r_ g_ r_ r_ b_ p_) (ab_ r_ u_ (fun c => cf_ r_ r_ r_ b_ r_ b_ p_) (ab_ r_ u_ (fun c => cb_ r_ r_ p_) ?_)))))))))
      refine ab_ r_ u_ (fun c => bm_ r_ (RKeyword_c _) p_) (ab_ r_ u_ (fun c => cd_ r_ p_) (aa_ (fun c => bp_ r_ u_ r_ p_) (yE_ r_ (ae_ (al_ (ar_ (jq_ret1 rfl rfl [0] rfl (fun K h => by rw [e, decide_eq_true hk, Bool.true_and] at h; exact h))))))))
    · refine R_ (E_ r_ (T_ (am_ (ao_ r_ r_ k_ k_ (yM_ r_ (yN_ r_ (yF_ r_ (yL_ 0 r_ (aa_ (fun c => bn_ r_ r_ p_) (yM_ r_ (ab_ r_ x_ (fun c => bd_ r_ p_) (ab_ r_ x_ (fun c => bh_ r_ p_) (ab_ r_ x_ (fun c => bf_ r_ r_ r_ b_ p_) (ab_ r_ x_ (fun c => bg_ 0 r_ r_ r_ r_ p_) (ab_ r_ x_ (fun c => bd_ r_ p_) ?_)))))))))))))))
      refine ab_ r_ x_ (fun c => bh_ r_ p_) (ab_ r_ x_ (fun c => bf_ r_ r_ r_ b_ p_) (ab_ r_ x_ (fun c => bg_ 0 r_ r_ r_ r_ p_) (ab_ r_ x_ (fun c => br_ r_ (fun hlen => p_)) (ab_ r_ x_ (fun c => bw_ r_ r_ p_) (aa_ (fun c => bp_ r_ x_ r_ p_) (yM_ r_ (ab_ r_ t_ (fun c => bd_ r_ p_) (ab_ r_ t_ (fun c => bh_ r_ p_) (ab_ r_ t_ (fun c => bf_ r_ r_ r_ b_ p_) (ab_ r_ t_ (fun c => bg_ 0 r_ r_ r_ r_ p_) ?_))))))))))
      refine ab_ r_ t_ (fun c => bd_ r_ p_) (ab_ r_ t_ (fun c => bh_ r_ p_) (ab_ r_ t_ (fun c => bf_ r_ r_ r_ b_ p_) (ab_ r_ t_ (fun c => bg_ 0 r_ r_ r_ r_ p_) (ab_ r_ t_ (fun c => cc_ r_ r_ g_ r_ r_ b_ p_) (ab_ r_ t_ (fun c => cf_ r_ r_ r_ b_ r_ b_ p_) (ab_ r_ t_ (fun c => cb_ r_ r_ p_) (ab_ r_ t_ (fun c => bn_ r_ r_ p_) (aa_ (fun c => bp_ r_ t_ r_ p_) (yM_ r_ (ac_ r_ w_ (ac_ r_ w_ (ac_ r_ w_ (ac_ r_ w_ ?_)))))))))))))
      refine ac_ r_ w_ (ac_ r_ w_ (ac_ r_ w_ (ac_ r_ w_ (ac_ r_ w_ (ac_ r_ w_ (ac_ r_ w_ (ac_ r_ w_ (ac_ r_ w_ (aa_ (fun c => bv_ r_ w_ r_ p_) (yE_ r_ (ae_ (al_ (ar_ (jq_ret1 rfl rfl [0] rfl (fun K h => by rw [e, decide_eq_false hk] at h; exact h)))))))))))))))
  · have e := isNm_end hlt
    have hlt2 : ¬ (a : Int) < l.length := by omega
    refine R_ (E_ r_ (T_ (am_ (ao_ r_ r_ k_ k_ (yM_ r_ (yN_ r_ (yF_ r_ (yL_ 0 r_ (aa_ (fun c => bn_ r_ r_ p_) (yM_ r_ (ab_ r_ x_ (fun c => bd_ r_ p_) (ab_ r_ x_ (fun c => bh_ r_ p_) (ab_ r_ x_ (fun c => bf_ r_ r_ r_ b_ p_) (ab_ r_ x_ (fun c => bg_ 0 r_ r_ r_ r_ p_) (ab_ r_ x_ (fun c => bd_ r_ p_) ?_)))))))))))))))
    refine ab_ r_ x_ (fun c => bh_ r_ p_) (ab_ r_ x_ (fun c => bf_ r_ r_ r_ b_ p_) (ab_ r_ x_ (fun c => bg_ 0 r_ r_ r_ r_ p_) (ab_ r_ x_ (fun c => br_ r_ (fun hlen => p_)) (ab_ r_ x_ (fun c => bw_ r_ r_ p_) (aa_ (fun c => bp_ r_ x_ r_ p_) (yM_ r_ (ac_ r_ v_ (ac_ r_ v_ (ac_ r_ v_ (ac_ r_ v_ (ac_ r_ v_ (ac_ r_ v_ (ac_ r_ v_ (ac_ r_ v_ (ac_ r_ v_ ?_)))))))))))))))
    refine ac_ r_ v_ (ac_ r_ v_ (ac_ r_ v_ (aa_ (fun c => bv_ r_ v_ r_ p_) (yM_ r_ (ac_ r_ r_ (ac_ r_ r_ (ac_ r_ r_ (ac_ r_ r_ (ac_ r_ r_ (ac_ r_ r_ (ac_ r_ r_ (ac_ r_ r_ (ac_ r_ r_ (ac_ r_ r_ (ac_ r_ r_ ?_)))))))))))))))
    refine ac_ r_ r_ (ac_ r_ r_ (aa_ (fun c => bv_ r_ r_ r_ p_) (yE_ r_ (ae_ (al_ (ar_ (jq_ret1 rfl rfl [0] rfl (fun K h => by rw [e] at h; exact h))))))))
theorem risNm_y (ha : a ≤ l.length) (h : isNm l a = true) : Con Tryz.prog 93 [Ptr b] [Rz b l a ln 0 fr] (fun K => K (Bl true) [Rz b l a ln 0 fr]) := by have := risNm_c (b := b) (ln := ln) (fr := fr) ha; rwa [h] at this
theorem risNm_n (ha : a ≤ l.length) (h : isNm l a = false) : Con Tryz.prog 93 [Ptr b] [Rz b l a ln 0 fr] (fun K => K (Bl false) [Rz b l a ln 0 fr]) := by have := risNm_c (b := b) (ln := ln) (fr := fr) ha; rwa [h] at this
theorem rname_e (he : ¬ e = 0) : Con Tryz.prog 51 [Ptr b] [Rz b l a ln e fr] (fun K => K (Str ⟨#[]⟩) [Rz b l a ln e fr]) := by
  refine con_intro Tryz.func51 rfl rfl (Nat.le_of_ble_eq_true rfl) (fun c hc => R_ (E_ r_ (T_ (am_ (R_ (M_ r_ (o_ r_ (bi_ [0] r_ r_ (risNm_e he) (o_ r_ (cd_ r_ (T_ (aq_ r_ r_ (R_ (M_ r_ (M_ r_ (N_ r_ (F_ r_ ?_)))))))))))))))))
  refine L_ 0 r_ (o_ r_ (bi_ [0] r_ r_ (rfail_e he _ _) (T_ (R_ (E_ r_ (T_ (ar_ (aw_ (jq_ret1 rfl rfl [0] rfl (fun K h => h))))))))))
include hl in
theorem rname_n (ha : a ≤ l.length) (h : isNm l a = false) : Con Tryz.prog 51 [Ptr b] [Rz b l a ln 0 fr] (fun K => K (Str ⟨#[]⟩) [Rz b l a (lineAt l a) 1 fr]) := by
  refine con_intro Tryz.func51 rfl rfl (Nat.le_of_ble_eq_true rfl) (fun c hc => R_ (E_ r_ (T_ (am_ (R_ (M_ r_ (o_ r_ (bi_ [0] r_ r_ (risNm_n ha h) (o_ r_ (cd_ r_ (T_ (aq_ r_ r_ (R_ (M_ r_ (M_ r_ (N_ r_ (F_ r_ ?_)))))))))))))))))
  refine L_ 0 r_ (o_ r_ (bi_ [0] r_ r_ (rfail_c hl a g_ _) (T_ (R_ (E_ r_ (T_ (ar_ (aw_ (jq_ret1 rfl rfl [0] rfl (fun K h => h))))))))))
include hl in
theorem rname_y (ha : a ≤ l.length) (h : isNm l a = true) : Con Tryz.prog 51 [Ptr b] [Rz b l a ln 0 fr] (fun K => K (Str (txtAt l a)) [Rz b l (a + 1) ln 0 fr]) := by
  have eL : (l.map Tok.row).length = l.length := List.length_map _
  have hlt := isNm_lt h
  refine con_intro Tryz.func51 rfl rfl (Nat.le_of_ble_eq_true rfl) (fun c hc => R_ (E_ r_ (T_ (am_ (R_ (M_ r_ (o_ r_ (bi_ [0] r_ r_ (risNm_y ha h) (o_ r_ (cd_ r_ (T_ (ap_ r_ r_ (as_ (al_ (R_ (M_ r_ (N_ r_ ?_)))))))))))))))))
  refine F_ r_ (L_ 0 r_ (o_ r_ (bj_ r_ r_ g_ (N_ r_ (F_ r_ (W_ 0 r_ (T_ (am_ (ao_ r_ r_ k_ k_ (yM_ r_ (yN_ r_ (yF_ r_ (yL_ 0 r_ (yM_ r_ (yN_ r_ (yF_ r_ ?_))))))))))))))))
  refine yL_ 0 r_ (aa_ (fun c => cg_ r_ r_ g_ p_) (aa_ (fun c => cv_ r_ r_ g_ g_ r_ r_ b_ p_) (aa_ (fun c => cf_ r_ r_ r_ b_ r_ b_ p_) (aa_ (fun c => cb_ r_ r_ p_) (yE_ r_ (ae_ (al_ (ar_ (jq_ret1 rfl rfl [0] rfl (fun K h => by rw [txtAt_getI (m := (a : Int) + 1 - 1) g_ g_] at h; exact h))))))))))
theorem rnum_e (he : ¬ e = 0) : Con Tryz.prog 52 [Ptr b] [Rz b l a ln e fr] (fun K => K (In .i64 0) [Rz b l a ln e fr]) := by
  refine con_intro Tryz.func52 rfl rfl (Nat.le_of_ble_eq_true rfl) (fun c hc => R_ (E_ r_ (T_ (am_ (am_ (ao_ r_ r_ k_ k_ (yM_ r_ (yN_ r_ (yF_ r_ (yL_ 0 r_ (aa_ (fun c => bx_ r_ r_ p_) (yM_ r_ (ac_ r_ u_ (ac_ r_ u_ (ac_ r_ u_ ?_)))))))))))))))
  refine ac_ r_ u_ (ac_ r_ u_ (ac_ r_ u_ (ac_ r_ u_ (ac_ r_ u_ (ac_ r_ u_ (ac_ r_ u_ (aa_ (fun c => bp_ r_ u_ r_ p_) (yM_ r_ (ac_ r_ r_ (ac_ r_ r_ (ac_ r_ r_ (ac_ r_ r_ (ac_ r_ r_ (ac_ r_ r_ (ac_ r_ r_ ?_)))))))))))))))
  refine ac_ r_ r_ (ac_ r_ r_ (ac_ r_ r_ (ac_ r_ r_ (ac_ r_ r_ (aa_ (fun c => bp_ r_ r_ r_ p_) (ae_ (al_ (aq_ r_ r_ (R_ (M_ r_ (M_ r_ (N_ r_ (F_ r_ (L_ 0 r_ (o_ r_ (bi_ [0] r_ r_ (rfail_e he _ _) ?_))))))))))))))))
  refine T_ (R_ (E_ r_ (T_ (ar_ (aw_ (jq_ret1 rfl rfl [0] rfl (fun K h => h)))))))
include hl in
theorem rnum_n (ha : a ≤ l.length) (h : isNum l a = false) : Con Tryz.prog 52 [Ptr b] [Rz b l a ln 0 fr] (fun K => K (In .i64 0) [Rz b l a (lineAt l a) 1 fr]) := by
  have eL : (l.map Tok.row).length = l.length := List.length_map _
  refine con_intro Tryz.func52 rfl rfl (Nat.le_of_ble_eq_true rfl) (fun c hc => ?_)
  by_cases hlt : a < l.length
  · rw [isNum_get hlt] at h
    have hk : ¬ l[a].kind = 2 := of_decide_eq_false h
    have hlt3 : ¬ (a : Int) ≥ l.length := by omega
    refine R_ (E_ r_ (T_ (am_ (am_ (ao_ r_ r_ k_ k_ (yM_ r_ (yN_ r_ (yF_ r_ (yL_ 0 r_ (aa_ (fun c => bx_ r_ r_ p_) (yM_ r_ (ab_ r_ r_ (fun c => bd_ r_ p_) (ab_ r_ r_ (fun c => bh_ r_ p_) (ab_ r_ r_ (fun c => bf_ r_ r_ r_ b_ p_) (ab_ r_ r_ (fun c => bg_ 0 r_ r_ r_ r_ p_) ?_)))))))))))))))
    refine ab_ r_ r_ (fun c => bd_ r_ p_) (ab_ r_ r_ (fun c => bh_ r_ p_) (ab_ r_ r_ (fun c => bf_ r_ r_ r_ b_ p_) (ab_ r_ r_ (fun c => bg_ 0 r_ r_ r_ r_ p_) (ab_ r_ r_ (fun c => br_ r_ (fun hlen => p_)) (ab_ r_ r_ (fun c => cn_ r_ r_ p_) (aa_ (fun c => bv_ r_ r_ r_ p_) (yM_ r_ (ab_ r_ v_ (fun c => bd_ r_ p_) (ab_ r_ v_ (fun c => bh_ r_ p_) (ab_ r_ v_ (fun c => bf_ r_ r_ r_ b_ p_) ?_))))))))))
    refine ab_ r_ v_ (fun c => bg_ 0 r_ r_ r_ r_ p_) (ab_ r_ v_ (fun c => bd_ r_ p_) (ab_ r_ v_ (fun c => bh_ r_ p_) (ab_ r_ v_ (fun c => bf_ r_ r_ r_ b_ p_) (ab_ r_ v_ (fun c => bg_ 0 r_ r_ r_ r_ p_) (ab_ r_ v_ (fun c => cc_ r_ r_ g_ r_ r_ b_ p_) (ab_ r_ v_ (fun c => cf_ r_ r_ r_ b_ r_ b_ p_) (ab_ r_ v_ (fun c => cb_ r_ r_ p_) (ab_ r_ v_ (fun c => bx_ r_ r_ p_) (aa_ (fun c => bv_ r_ v_ r_ p_) (ae_ (al_ ?_)))))))))))
    refine aq_ r_ u_ (R_ (M_ r_ (M_ r_ (N_ r_ (F_ r_ (L_ 0 r_ (o_ r_ (bi_ [0] r_ r_ (rfail_c hl a g_ _) (T_ (R_ (E_ r_ (T_ (ar_ (aw_ (jq_ret1 rfl rfl [0] rfl (fun K h => h))))))))))))))))
  · refine R_ (E_ r_ (T_ (am_ (am_ (ao_ r_ r_ k_ k_ (yM_ r_ (yN_ r_ (yF_ r_ (yL_ 0 r_ (aa_ (fun c => bx_ r_ r_ p_) (yM_ r_ (ab_ r_ r_ (fun c => bd_ r_ p_) (ab_ r_ r_ (fun c => bh_ r_ p_) (ab_ r_ r_ (fun c => bf_ r_ r_ r_ b_ p_) (ab_ r_ r_ (fun c => bg_ 0 r_ r_ r_ r_ p_) ?_)))))))))))))))
    refine ab_ r_ r_ (fun c => bd_ r_ p_) (ab_ r_ r_ (fun c => bh_ r_ p_) (ab_ r_ r_ (fun c => bf_ r_ r_ r_ b_ p_) (ab_ r_ r_ (fun c => bg_ 0 r_ r_ r_ r_ p_) (ab_ r_ r_ (fun c => br_ r_ (fun hlen => p_)) (ab_ r_ r_ (fun c => cn_ r_ r_ p_) (aa_ (fun c => bv_ r_ r_ r_ p_) (yM_ r_ (ac_ r_ t_ (ac_ r_ t_ (ac_ r_ t_ (ac_ r_ t_ (ac_ r_ t_ (ac_ r_ t_ (ac_ r_ t_ (ac_ r_ t_ ?_)))))))))))))))
    refine ac_ r_ t_ (ac_ r_ t_ (ac_ r_ t_ (ac_ r_ t_ (aa_ (fun c => bp_ r_ t_ r_ p_) (ae_ (al_ (aq_ r_ r_ (R_ (M_ r_ (M_ r_ (N_ r_ (F_ r_ (L_ 0 r_ (o_ r_ (bi_ [0] r_ r_ (rfail_c hl a g_ _) (T_ ?_))))))))))))))))
    refine R_ (E_ r_ (T_ (ar_ (aw_ (jq_ret1 rfl rfl [0] rfl (fun K h => h))))))
include hl in
theorem rnum_y (_ha : a ≤ l.length) (h : isNum l a = true) : Con Tryz.prog 52 [Ptr b] [Rz b l a ln 0 fr] (fun K => K (In .i64 (numAt l a)) [Rz b l (a + 1) ln 0 fr]) := by
  have eL : (l.map Tok.row).length = l.length := List.length_map _
  have hlt := isNum_lt h
  rw [isNum_get hlt] at h
  have hk : l[a].kind = 2 := of_decide_eq_true h
  have hkn : ¬ ¬ l[a].kind = 2 := fun h => h hk
  have hlt3 : ¬ (a : Int) ≥ l.length := by omega
  refine con_intro Tryz.func52 rfl rfl (Nat.le_of_ble_eq_true rfl) (fun c hc => R_ (E_ r_ (T_ (am_ (am_ (ao_ r_ r_ k_ k_ (yM_ r_ (yN_ r_ (yF_ r_ (yL_ 0 r_ (aa_ (fun c => bx_ r_ r_ p_) (yM_ r_ (ab_ r_ r_ (fun c => bd_ r_ p_) (ab_ r_ r_ (fun c => bh_ r_ p_) (ab_ r_ r_ (fun c => bf_ r_ r_ r_ b_ p_) ?_)))))))))))))))
  refine ab_ r_ r_ (fun c => bg_ 0 r_ r_ r_ r_ p_) (ab_ r_ r_ (fun c => bd_ r_ p_) (ab_ r_ r_ (fun c => bh_ r_ p_) (ab_ r_ r_ (fun c => bf_ r_ r_ r_ b_ p_) (ab_ r_ r_ (fun c => bg_ 0 r_ r_ r_ r_ p_) (ab_ r_ r_ (fun c => br_ r_ (fun hlen => p_)) (ab_ r_ r_ (fun c => cn_ r_ r_ p_) (aa_ (fun c => bv_ r_ r_ r_ p_) (yM_ r_ (ab_ r_ v_ (fun c => bd_ r_ p_) (ab_ r_ v_ (fun c => bh_ r_ p_) ?_))))))))))
  refine ab_ r_ v_ (fun c => bf_ r_ r_ r_ b_ p_) (ab_ r_ v_ (fun c => bg_ 0 r_ r_ r_ r_ p_) (ab_ r_ v_ (fun c => bd_ r_ p_) (ab_ r_ v_ (fun c => bh_ r_ p_) (ab_ r_ v_ (fun c => bf_ r_ r_ r_ b_ p_) (ab_ r_ v_ (fun c => bg_ 0 r_ r_ r_ r_ p_) (ab_ r_ v_ (fun c => cc_ r_ r_ g_ r_ r_ b_ p_) (ab_ r_ v_ (fun c => cf_ r_ r_ r_ b_ r_ b_ p_) (ab_ r_ v_ (fun c => cb_ r_ r_ p_) (ab_ r_ v_ (fun c => bx_ r_ r_ p_) ?_)))))))))
  refine aa_ (fun c => bv_ r_ v_ r_ p_) (ae_ (al_ (ap_ r_ w_ (as_ (al_ (R_ (M_ r_ (N_ r_ (F_ r_ (L_ 0 r_ (o_ r_ (bj_ r_ r_ g_ (N_ r_ (F_ r_ (W_ 0 r_ (T_ ?_))))))))))))))))
  refine am_ (ao_ r_ r_ k_ k_ (yM_ r_ (yN_ r_ (yF_ r_ (yL_ 0 r_ (yM_ r_ (yN_ r_ (yF_ r_ (yL_ 0 r_ (aa_ (fun c => cg_ r_ r_ g_ p_) (aa_ (fun c => cv_ r_ r_ g_ g_ r_ r_ b_ p_) (aa_ (fun c => cf_ r_ r_ r_ b_ r_ b_ p_) (aa_ (fun c => cb_ r_ r_ p_) (yE_ r_ (ae_ ?_)))))))))))))))
  refine al_ (ar_ (jq_ret1 rfl rfl [0] rfl (fun K h => by rw [numAt_getI (m := (a : Int) + 1 - 1) g_ g_] at h; exact h)))
theorem rdeep_e (he : ¬ e = 0) (_ha : a ≤ 2000000) (d : Int) : Con Tryz.prog 179 [Ptr b, In .i64 d] [Rz b l a ln e fr] (fun K => K (.tup []) [Rz b l a ln e fr]) := by
  refine con_intro Tryz.func179 rfl rfl (Nat.le_of_ble_eq_true rfl) (fun c hc => ?_)
  by_cases hd : d > 8
  · cases fr with
    | true =>
      refine R_ (M_ r_ (o_ r_ (bz_ r_ r_ (M_ r_ (ah_ r_ u_ b_ (bd_ r_ (ah_ r_ u_ b_ (bh_ r_ (ah_ r_ u_ b_ (bf_ r_ r_ r_ b_ (ah_ r_ u_ b_ (bg_ 0 r_ r_ r_ r_ (ah_ r_ u_ b_ (cd_ r_ (o_ r_ (bp_ r_ u_ r_ (T_ (ap_ r_ r_ (as_ (jq_ret0 (.inr rfl) rfl [0] rfl (fun K h => h)))))))))))))))))))))
    | false =>
      refine R_ (M_ r_ (o_ r_ (bz_ r_ r_ (M_ r_ (ah_ r_ u_ b_ (bd_ r_ (ah_ r_ u_ b_ (bh_ r_ (ah_ r_ u_ b_ (bf_ r_ r_ r_ b_ (ah_ r_ u_ b_ (bg_ 0 r_ r_ r_ r_ (ah_ r_ u_ b_ (cd_ r_ (o_ r_ (bp_ r_ u_ r_ (T_ (aq_ r_ r_ (an_ (M_ r_ (M_ r_ (N_ r_ ?_))))))))))))))))))))))
      refine F_ r_ (L_ 0 r_ (o_ r_ (cg_ r_ r_ g_ (o_ r_ (bi_ [0] r_ r_ (rfail_e he _ _) (ak_ (jq_ret0 (.inr rfl) rfl [0] rfl (fun K h => h))))))))
  · refine R_ (M_ r_ (o_ r_ (bz_ r_ r_ (M_ r_ (ai_ r_ w_ b_ (ai_ r_ w_ b_ (ai_ r_ w_ b_ (ai_ r_ w_ b_ (ai_ r_ w_ b_ (o_ r_ (bv_ r_ w_ r_ (T_ (ap_ r_ r_ (as_ (jq_ret0 (.inr rfl) rfl [0] rfl (fun K h => h))))))))))))))))
theorem rdeep_y (d : Int) (h : ¬ (fr = false ∧ d > 8)) : Con Tryz.prog 179 [Ptr b, In .i64 d] [Rz b l a ln 0 fr] (fun K => K (.tup []) [Rz b l a ln 0 fr]) := by
  refine con_intro Tryz.func179 rfl rfl (Nat.le_of_ble_eq_true rfl) (fun c hc => ?_)
  by_cases hd : d > 8
  · cases fr with
    | true =>
      refine R_ (M_ r_ (o_ r_ (bz_ r_ r_ (M_ r_ (ah_ r_ u_ b_ (bd_ r_ (ah_ r_ u_ b_ (bh_ r_ (ah_ r_ u_ b_ (bf_ r_ r_ r_ b_ (ah_ r_ u_ b_ (bg_ 0 r_ r_ r_ r_ (ah_ r_ u_ b_ (cd_ r_ (o_ r_ (bp_ r_ u_ r_ (T_ (ap_ r_ r_ (as_ (jq_ret0 (.inr rfl) rfl [0] rfl (fun K h => h)))))))))))))))))))))
    | false => exact absurd ⟨rfl, hd⟩ h
  · refine R_ (M_ r_ (o_ r_ (bz_ r_ r_ (M_ r_ (ai_ r_ w_ b_ (ai_ r_ w_ b_ (ai_ r_ w_ b_ (ai_ r_ w_ b_ (ai_ r_ w_ b_ (o_ r_ (bv_ r_ w_ r_ (T_ (ap_ r_ r_ (as_ (jq_ret0 (.inr rfl) rfl [0] rfl (fun K h => h))))))))))))))))
include hl in
theorem rdeep_n (d : Int) (h : d > 8) (ha0 : 1 ≤ a) (ha : a ≤ l.length) : Con Tryz.prog 179 [Ptr b, In .i64 d] [Rz b l a ln 0 false] (fun K => K (.tup []) [Rz b l a (lineAt l (a - 1)) 4 false]) := by
  refine con_intro Tryz.func179 rfl rfl (Nat.le_of_ble_eq_true rfl) (fun c hc => ?_)
  have hF := rfail_c (b := b) (a := a) (ln := ln) (fr := false) hl (a - 1) (by omega) 4
  rw [show ((a - 1 : Nat) : Int) = (a : Int) - 1 by omega] at hF
  refine R_ (M_ r_ (o_ r_ (bz_ r_ r_ (M_ r_ (ah_ r_ u_ b_ (bd_ r_ (ah_ r_ u_ b_ (bh_ r_ (ah_ r_ u_ b_ (bf_ r_ r_ r_ b_ (ah_ r_ u_ b_ (bg_ 0 r_ r_ r_ r_ (ah_ r_ u_ b_ (cd_ r_ (o_ r_ (bp_ r_ u_ r_ (T_ (aq_ r_ r_ (an_ (M_ r_ (M_ r_ (N_ r_ ?_))))))))))))))))))))))
  refine F_ r_ (L_ 0 r_ (o_ r_ (cg_ r_ r_ g_ (o_ r_ (bi_ [0] r_ r_ (hF) (ak_ (jq_ret0 (.inr rfl) rfl [0] rfl (fun K h => h))))))))
end
end Go.Proofs.YtamajcgdfjeehaaGreatDoor
end

section
namespace Go.Proofs.YtamajcgdfjeehaaGreatDoor
open Go.Vc
attribute [local irreducible] JL JC JQ OpWp Con ConN Pan ConE OpPan hasW idxW isA isNum isNm numAt txtAt lineAt opAt lx lpx sx sxp dpR
set_option maxHeartbeats 4000000

abbrev A5 : List C := [.any, .any, .any, .any, .any]
abbrev Z5 : List C := [.val (.int .i64 0), .val (.int .i64 0), .val (.string ⟨#[]⟩), .val (.int .i64 0), .val (.slice none 0 0)]
def LvPost (b : Nat) (l : List Tok) (fr : Bool) : R T → (S → List Ch → Prop) → Prop
  | .ok t c, K => K (.tup [.row t.row', In .i64 (t.dep : Int)]) [Rz b l c 0 0 fr]
  | .er code p, K => ∀ g : Nat × Int, g.1 ≤ l.length ∧ ¬ code = 0 → K (.tup [.row A5, In .i64 g.2]) [Rz b l g.1 (lineAt l p) code fr]
def FcP (l : List Tok) (fr : Bool) (F : Nat) : Prop := ∀ b a, a ≤ l.length → need l 3 a ≤ F → Con Tryz.prog 177 [Ptr b] [Rz b l a 0 0 fr] (LvPost b l fr (sx fr l F 3 a))
def LvP (l : List Tok) (fr : Bool) (F : Nat) : Prop := ∀ b k a, k ≤ 3 → a ≤ l.length → need l k a ≤ F → Con Tryz.prog 170 [Ptr b, In .i64 (k : Int)] [Rz b l a 0 0 fr] (LvPost b l fr (sx fr l F k a))
def XpP (l : List Tok) (fr : Bool) (F : Nat) : Prop := ∀ b a, a ≤ l.length → need l 0 a ≤ F → Con Tryz.prog 157 [Ptr b] [Rz b l a 0 0 fr] (LvPost b l fr (sx fr l F 0 a))

section
variable {l : List Tok} {a b : Nat} {ln e : Int} {fr : Bool} (hl : l.length ≤ 1000000)
theorem factor_e (he : ¬ e = 0) : Con Tryz.prog 177 [Ptr b] [Rz b l a ln e fr] (fun K => K (.tup [.row Z5, In .i64 0]) [Rz b l a ln e fr]) := by
  refine con_intro Tryz.func177 rfl rfl (Nat.le_of_ble_eq_true rfl) (fun c hc => R_ (o_ r_ (bl_ r_ r_ (fun bl => E_ r_ (T_ (B_ (R_ (M_ r_ (N_ r_ (F_ r_ (L_ 1 r_ (o_ r_ (bx_ r_ r_ (E_ r_ (T_ (aq_ r_ u_ (R_ ?_)))))))))))))))))
  exact o_ r_ (bu_ r_ r_ r_ r_ r_ (S_ 0 r_ (E_ r_ (T_ (ar_ (az_ (aw_ (jq_retRowT rfl rfl rfl rfl rfl 0 rfl (fun K h => h) (bc_ 1 r_ sub_end)))))))))
theorem rnext_e (he : ¬ e = 0) (x y : C) : Con Tryz.prog 178 [Ptr b, .cell x, .cell y] [Rz b l a ln e fr] (fun K => K (In .i64 0) [Rz b l a ln e fr]) := by
  refine con_intro Tryz.func178 rfl rfl (Nat.le_of_ble_eq_true rfl) (fun c hc => R_ (E_ r_ (T_ (am_ (am_ (ao_ r_ r_ k_ k_ (yM_ r_ (yN_ r_ (yF_ r_ (yL_ 0 r_ (aa_ (fun c => bx_ r_ r_ p_) (yM_ r_ (ac_ r_ u_ (ac_ r_ u_ (ac_ r_ u_ ?_)))))))))))))))
  refine ac_ r_ u_ (ac_ r_ u_ (ac_ r_ u_ (ac_ r_ u_ (ac_ r_ u_ (ac_ r_ u_ (ac_ r_ u_ (aa_ (fun c => bp_ r_ u_ r_ p_) (yM_ r_ (ac_ r_ r_ (ac_ r_ r_ (ac_ r_ r_ (ac_ r_ r_ (ac_ r_ r_ (ac_ r_ r_ (ac_ r_ r_ ?_)))))))))))))))
  refine ac_ r_ r_ (ac_ r_ r_ (ac_ r_ r_ (ac_ r_ r_ (ac_ r_ r_ (aa_ (fun c => bp_ r_ r_ r_ p_) (ae_ (al_ (aq_ r_ r_ (R_ (E_ r_ (T_ (ar_ (aw_ (jq_ret1 rfl rfl [0] rfl (fun K h => h)))))))))))))))
theorem level_e3 (he : ¬ e = 0) : Con Tryz.prog 170 [Ptr b, In .i64 3] [Rz b l a ln e fr] (fun K => K (.tup [.row Z5, In .i64 0]) [Rz b l a ln e fr]) := by
  refine con_intro Tryz.func170 rfl rfl (Nat.le_of_ble_eq_true rfl) (fun c hc => R_ (o_ r_ (bl_ r_ r_ (fun bl => E_ r_ (T_ (R_ (o_ r_ (bq_ r_ r_ b_ r_ r_ b_ (o_ r_ (bq_ r_ r_ b_ r_ r_ b_ (E_ r_ (E_ r_ (T_ (am_ (R_ (M_ r_ (T_ (au_ ?_))))))))))))))))))
  refine R_ (o_ r_ (bn_ r_ r_ (E_ r_ (T_ (ap_ r_ r_ (R_ (o_ r_ (bn_ r_ r_ (E_ r_ (T_ (ap_ r_ r_ (R_ (o_ r_ (bn_ r_ r_ (E_ r_ (T_ (aq_ r_ x_ (R_ ?_))))))))))))))))))
  exact M_ r_ (o_ r_ (bi_ [1] r_ r_ (factor_e he) (X_ r_ (X_ r_ (S_ 1 r_ (E_ r_ (T_ (ar_ (az_ (aw_ (jq_retRowT rfl rfl rfl rfl rfl 0 rfl (fun K h => h) (bc_ 1 r_ sub_end))))))))))))
theorem level_eS (he : ¬ e = 0) (k : Nat) (hk : k ≤ 2) (h : Con Tryz.prog 170 [Ptr b, In .i64 ((k + 1 : Nat) : Int)] [Rz b l a ln e fr] (fun K => K (.tup [.row Z5, In .i64 0]) [Rz b l a ln e fr])) : Con Tryz.prog 170 [Ptr b, In .i64 (k : Int)] [Rz b l a ln e fr] (fun K => K (.tup [.row Z5, In .i64 0]) [Rz b l a ln e fr]) := by
  refine con_intro Tryz.func170 rfl rfl (Nat.le_of_ble_eq_true rfl) (fun c hc => ?_)
  have hI : ∀ x y : C, Con Tryz.prog 178 [Ptr b, .cell x, .cell y] [Rz b l a ln e fr] (fun K => K (In .i64 0) [Rz b l a ln e fr]) := rnext_e he
  rcases (show k = 0 ∨ k = 1 ∨ k = 2 by omega) with rfl | rfl | rfl
  · refine R_ (o_ r_ (bl_ r_ r_ (fun bl => E_ r_ (T_ (R_ (o_ r_ (bq_ r_ r_ b_ r_ r_ b_ (o_ r_ (bq_ r_ r_ b_ r_ r_ b_ (E_ r_ (E_ r_ (T_ (am_ (R_ (M_ r_ (T_ (au_ (R_ ?_))))))))))))))))))
    refine o_ r_ (bn_ r_ r_ (E_ r_ (T_ (ap_ r_ r_ (R_ (o_ r_ (bn_ r_ r_ (E_ r_ (T_ (ap_ r_ r_ (R_ (o_ r_ (bn_ r_ r_ (E_ r_ (T_ (ap_ r_ r_ (as_ (ay_ ?_))))))))))))))))))
    refine al_ (R_ (M_ r_ (M_ r_ (o_ r_ (bj_ r_ r_ g_ (o_ r_ (bi_ [1] r_ r_ (h) (M_ r_ (X_ r_ (X_ r_ (o_ r_ (bl_ r_ r_ (fun bl => S_ 0 r_ (E_ r_ (T_ (am_ (R_ (E_ r_ ?_))))))))))))))))))
    refine T_ (au_ ?_)
    rename_i bR
    refine jc_loopS (ι := Unit) [0, 1, 4, 5, 6, 7, 8, 9, 10] (fun _ => True) (fun _ => []) (fun _ => [.blk bR 59 Z5, .blk bl 59 Z5, Rz b l a ln e fr]) (fun _ => 0) () trivial ?_ ?_ ?_
    · exact bc_ 2 r_ (bc_ 0 r_ (bc_ 0 r_ sub_end))
    · (repeat (first | exact True.intro | refine ⟨rfl, ?_⟩))
    · intro _ _
      refine am_ (R_ (M_ r_ (M_ r_ (M_ r_ (o_ r_ (bi_ [2] r_ r_ (hI _ _) (o_ r_ (bx_ r_ r_ (M_ r_ (ai_ r_ r_ b_ (ai_ r_ r_ b_ (ai_ r_ r_ b_ (aj_ r_ b_ (aj_ r_ b_ (ai_ r_ r_ b_ (o_ r_ (bv_ r_ r_ r_ (T_ ?_))))))))))))))))))
      exact ap_ r_ r_ (av_ (ax_ (ax_ (ba_ (al_ (R_ (A_ 2 r_ (M_ r_ (S_ 1 r_ (E_ r_ (T_ (ar_ (jq_retRowT rfl rfl rfl rfl rfl 0 rfl (fun K h => h) (bc_ 1 r_ sub_end))))))))))))))
  · refine R_ (o_ r_ (bl_ r_ r_ (fun bl => E_ r_ (T_ (R_ (o_ r_ (bq_ r_ r_ b_ r_ r_ b_ (o_ r_ (bq_ r_ r_ b_ r_ r_ b_ (E_ r_ (E_ r_ (T_ (am_ (R_ (M_ r_ (T_ (au_ (R_ ?_))))))))))))))))))
    refine o_ r_ (bn_ r_ r_ (E_ r_ (T_ (aq_ r_ x_ (an_ (o_ r_ (bq_ r_ r_ b_ r_ r_ b_ (o_ r_ (bq_ r_ r_ b_ r_ r_ b_ (E_ r_ (E_ r_ (ak_ (ay_ (al_ (R_ (M_ r_ (M_ r_ (o_ r_ (bj_ r_ r_ g_ ?_)))))))))))))))))))
    refine o_ r_ (bi_ [1] r_ r_ (h) (M_ r_ (X_ r_ (X_ r_ (o_ r_ (bl_ r_ r_ (fun bl => S_ 0 r_ (E_ r_ (T_ (am_ (R_ (E_ r_ (T_ (au_ ?_))))))))))))))
    rename_i bR
    refine jc_loopS (ι := Unit) [0, 1, 4, 5, 6, 7, 8, 9, 10] (fun _ => True) (fun _ => []) (fun _ => [.blk bR 59 Z5, .blk bl 59 Z5, Rz b l a ln e fr]) (fun _ => 0) () trivial ?_ ?_ ?_
    · exact bc_ 2 r_ (bc_ 0 r_ (bc_ 0 r_ sub_end))
    · (repeat (first | exact True.intro | refine ⟨rfl, ?_⟩))
    · intro _ _
      refine am_ (R_ (M_ r_ (M_ r_ (M_ r_ (o_ r_ (bi_ [2] r_ r_ (hI _ _) (o_ r_ (bx_ r_ r_ (M_ r_ (ai_ r_ r_ b_ (ai_ r_ r_ b_ (ai_ r_ r_ b_ (aj_ r_ b_ (aj_ r_ b_ (ai_ r_ r_ b_ (o_ r_ (bv_ r_ r_ r_ (T_ ?_))))))))))))))))))
      exact ap_ r_ r_ (av_ (ax_ (ax_ (ba_ (al_ (R_ (A_ 2 r_ (M_ r_ (S_ 1 r_ (E_ r_ (T_ (ar_ (jq_retRowT rfl rfl rfl rfl rfl 0 rfl (fun K h => h) (bc_ 1 r_ sub_end))))))))))))))
  · refine R_ (o_ r_ (bl_ r_ r_ (fun bl => E_ r_ (T_ (R_ (o_ r_ (bq_ r_ r_ b_ r_ r_ b_ (o_ r_ (bq_ r_ r_ b_ r_ r_ b_ (E_ r_ (E_ r_ (T_ (am_ (R_ (M_ r_ (T_ (au_ (R_ ?_))))))))))))))))))
    refine o_ r_ (bn_ r_ r_ (E_ r_ (T_ (ap_ r_ r_ (R_ (o_ r_ (bn_ r_ r_ (E_ r_ (T_ (aq_ r_ x_ (an_ (o_ r_ (bq_ r_ r_ b_ r_ r_ b_ (o_ r_ (bq_ r_ r_ b_ r_ r_ b_ (E_ r_ (E_ r_ (ak_ (ay_ ?_)))))))))))))))))))
    refine al_ (R_ (M_ r_ (M_ r_ (o_ r_ (bj_ r_ r_ g_ (o_ r_ (bi_ [1] r_ r_ (h) (M_ r_ (X_ r_ (X_ r_ (o_ r_ (bl_ r_ r_ (fun bl => S_ 0 r_ (E_ r_ (T_ (am_ (R_ (E_ r_ ?_))))))))))))))))))
    refine T_ (au_ ?_)
    rename_i bR
    refine jc_loopS (ι := Unit) [0, 1, 4, 5, 6, 7, 8, 9, 10] (fun _ => True) (fun _ => []) (fun _ => [.blk bR 59 Z5, .blk bl 59 Z5, Rz b l a ln e fr]) (fun _ => 0) () trivial ?_ ?_ ?_
    · exact bc_ 2 r_ (bc_ 0 r_ (bc_ 0 r_ sub_end))
    · (repeat (first | exact True.intro | refine ⟨rfl, ?_⟩))
    · intro _ _
      refine am_ (R_ (M_ r_ (M_ r_ (M_ r_ (o_ r_ (bi_ [2] r_ r_ (hI _ _) (o_ r_ (bx_ r_ r_ (M_ r_ (ai_ r_ r_ b_ (ai_ r_ r_ b_ (ai_ r_ r_ b_ (aj_ r_ b_ (aj_ r_ b_ (ai_ r_ r_ b_ (o_ r_ (bv_ r_ r_ r_ (T_ ?_))))))))))))))))))
      exact ap_ r_ r_ (av_ (ax_ (ax_ (ba_ (al_ (R_ (A_ 2 r_ (M_ r_ (S_ 1 r_ (E_ r_ (T_ (ar_ (jq_retRowT rfl rfl rfl rfl rfl 0 rfl (fun K h => h) (bc_ 1 r_ sub_end))))))))))))))
theorem level_e (he : ¬ e = 0) (k : Nat) (hk : k ≤ 3) : Con Tryz.prog 170 [Ptr b, In .i64 (k : Int)] [Rz b l a ln e fr] (fun K => K (.tup [.row Z5, In .i64 0]) [Rz b l a ln e fr]) := by
  have h2 := level_eS he 2 (by omega) (level_e3 (b := b) (l := l) (a := a) (ln := ln) (fr := fr) he)
  have h1 := level_eS he 1 (by omega) h2
  have h0 := level_eS he 0 (by omega) h1
  rcases (show k = 0 ∨ k = 1 ∨ k = 2 ∨ k = 3 by omega) with rfl | rfl | rfl | rfl
  · exact h0
  · exact h1
  · exact h2
  · exact level_e3 he
theorem rexpr_e (he : ¬ e = 0) : Con Tryz.prog 157 [Ptr b] [Rz b l a ln e fr] (fun K => K (.tup [.row Z5, In .i64 0]) [Rz b l a ln e fr]) := by
  have h := level_e (b := b) (l := l) (a := a) (ln := ln) (fr := fr) he 0 (by omega)
  exact con_intro Tryz.func157 rfl rfl (Nat.le_of_ble_eq_true rfl) (fun c hc => R_ (o_ r_ (bl_ r_ r_ (fun bl => E_ r_ (T_ (R_ (M_ r_ (o_ r_ (bi_ [1] r_ r_ (h) (X_ r_ (X_ r_ (S_ 1 r_ (E_ r_ (T_ (ar_ (jq_retRowT rfl rfl rfl rfl rfl 0 rfl (fun K h => h) (bc_ 1 r_ sub_end)))))))))))))))))

def opnL : Nat → List Int
  | 0 => [11, 12, 13, 14]
  | 1 => [1, 2, 7, 8]
  | _ => [3, 4, 5, 6, 9, 10]
theorem opnL_eq : ∀ k, opnL k = (opsL k).map (fun w => idxW signL w + 1)
  | 0 => by decide +kernel
  | 1 => by decide +kernel
  | _ + 2 => by show [3, 4, 5, 6, 9, 10] = mulL.map (fun w => idxW signL w + 1); decide +kernel
def opF (L : List ByteArray) (s : ByteArray) : Int := if (L.any fun w => decide (w = s)) = true then idxW signL s + 1 else 0
theorem op_c (k : Nat) (s : ByteArray) : Con Tryz.prog 182 [Str s, .cell (.list ((opsL k).map Wrow)), .cell (.list ((opnL k).map Irow))] [] (fun K => K (In .i64 (opF (opsL k) s)) []) := by
  have eO := opnL_eq k
  generalize opnL k = O at eO
  generalize opsL k = L at eO
  have eL : (L.map Wrow).length = L.length := List.length_map _
  have eN : (O.map Irow).length = O.length := List.length_map _
  have eON : O.length = L.length := by rw [eO, List.length_map]
  refine con_intro Tryz.func182 rfl rfl (Nat.le_of_ble_eq_true rfl) (fun c hc => R_ (E_ r_ (T_ (am_ (R_ (E_ r_ (T_ (au_ (jc_loopS [] (fun k : Nat => k ≤ L.length ∧ ∀ j (hj : j < L.length), j < k → ¬ L[j] = s) (fun k => [(0, Str s), (1, .cell (.list (L.map Wrow))), (2, .cell (.list (O.map Irow))), (7, In .i64 (k : Int))]) (fun _ => []) (fun k => L.length - k) 0 ⟨Nat.zero_le _, fun j _ h => by omega⟩ ?_ ?_ ?_)))))))))
  · exact sub_end
  · (repeat (first | exact True.intro | refine ⟨rfl, ?_⟩))
  · rintro k ⟨hk, hno⟩
    refine jc_reset [(0, Str s), (1, .cell (.list (L.map Wrow))), (2, .cell (.list (O.map Irow))), (7, In .i64 (k : Int))] [] ?_ ⟨[], [], rfl⟩ ?_
    · (repeat (first | exact True.intro | refine ⟨rfl, ?_⟩))
    by_cases hlt : k < L.length
    · have hltO : k < O.length := by omega
      by_cases hb : L[k] = s
      · have e : opF L s = O[k] := by
          unfold opF
          rw [if_pos (List.any_eq_true.2 ⟨L[k], List.getElem_mem hlt, decide_eq_true hb⟩)]
          subst eO
          simp [hb]
        refine am_ (R_ (M_ r_ (M_ r_ (o_ r_ (br_ r_ (fun hlen => o_ r_ (bw_ r_ r_ (T_ (aq_ r_ t_ (as_ (al_ (B_ (R_ (M_ r_ (M_ r_ (o_ r_ (cc_ r_ r_ g_ r_ r_ b_ (o_ r_ (cb_ r_ r_ ?_)))))))))))))))))))
        refine M_ r_ (o_ r_ (cs_ r_ r_ (T_ (aq_ r_ u_ (R_ (M_ r_ (M_ r_ (o_ r_ (cc_ r_ r_ g_ r_ r_ b_ (o_ r_ (cb_ r_ r_ (E_ r_ (T_ (ar_ (az_ (aw_ (aw_ (az_ ?_))))))))))))))))))
        refine aw_ (jq_ret1 rfl rfl [] rfl (fun K h => by rw [e] at h; exact h))
      · refine am_ (R_ (M_ r_ (M_ r_ (o_ r_ (br_ r_ (fun hlen => o_ r_ (bw_ r_ r_ (T_ (aq_ r_ t_ (as_ (al_ (B_ (R_ (M_ r_ (M_ r_ (o_ r_ (cc_ r_ r_ g_ r_ r_ b_ (o_ r_ (cb_ r_ r_ ?_)))))))))))))))))))
        refine M_ r_ (o_ r_ (cs_ r_ r_ (T_ (ap_ r_ w_ (as_ (ay_ (al_ (an_ (M_ r_ (o_ r_ (bj_ r_ r_ g_ (E_ r_ (ak_ (jq_againS (k + 1) ⟨by omega, fun j hj hjk => ?_⟩ g_ ?_ ?_))))))))))))))
        · by_cases e : j < k
          · exact hno j hj e
          · obtain rfl : j = k := by omega
            exact hb
        · exact sub_end
        · (repeat (first | exact True.intro | refine ⟨rfl, ?_⟩))
    · have e : opF L s = 0 := by
        unfold opF
        rw [if_neg]
        intro h
        obtain ⟨w, hw, hd⟩ := List.any_eq_true.1 h
        obtain ⟨j, hj, rfl⟩ := List.mem_iff_getElem.1 hw
        exact hno j hj g_ (of_decide_eq_true hd)
      refine am_ (R_ (M_ r_ (M_ r_ (o_ r_ (br_ r_ (fun hlen => o_ r_ (bw_ r_ r_ (T_ (ap_ r_ v_ (av_ (ax_ (ax_ (ba_ (al_ (R_ (E_ r_ (T_ ?_)))))))))))))))))
      refine ar_ (jq_ret1 rfl rfl [] rfl (fun K h => by rw [e] at h; exact h))
theorem rnext_c (ha : a ≤ l.length) (k : Nat) : Con Tryz.prog 178 [Ptr b, .cell (.list ((opsL k).map Wrow)), .cell (.list ((opnL k).map Irow))] [Rz b l a ln 0 fr] (fun K => K (In .i64 (opV l (opsL k) a)) [Rz b l a ln 0 fr]) := by
  have eL : (l.map Tok.row).length = l.length := List.length_map _
  refine con_intro Tryz.func178 rfl rfl (Nat.le_of_ble_eq_true rfl) (fun c hc => ?_)
  by_cases hlt : a < l.length
  · have hge : ¬ (a : Int) ≥ l.length := by omega
    have e := opAt_get (opsL k) hlt
    by_cases hk : l[a].kind = 3
    · have hkn : ¬ ¬ l[a].kind = 3 := fun h => h hk
      have e2 : opV l (opsL k) a = opF (opsL k) l[a].text := by
        unfold opV opF
        rw [e]
        by_cases h : ((opsL k).any fun w => decide (w = l[a].text)) = true
        · rw [if_pos ⟨hk, h⟩, if_pos h]; rfl
        · rw [if_neg (fun x => h x.2), if_neg h]; rfl
      refine R_ (E_ r_ (T_ (am_ (am_ (ao_ r_ r_ k_ k_ (yM_ r_ (yN_ r_ (yF_ r_ (yL_ 0 r_ (aa_ (fun c => bx_ r_ r_ p_) (yM_ r_ (ab_ r_ r_ (fun c => bd_ r_ p_) (ab_ r_ r_ (fun c => bh_ r_ p_) (ab_ r_ r_ (fun c => bf_ r_ r_ r_ b_ p_) (ab_ r_ r_ (fun c => bg_ 0 r_ r_ r_ r_ p_) ?_)))))))))))))))
      refine ab_ r_ r_ (fun c => bd_ r_ p_) (ab_ r_ r_ (fun c => bh_ r_ p_) (ab_ r_ r_ (fun c => bf_ r_ r_ r_ b_ p_) (ab_ r_ r_ (fun c => bg_ 0 r_ r_ r_ r_ p_) (ab_ r_ r_ (fun c => br_ r_ (fun hlen => p_)) (ab_ r_ r_ (fun c => cn_ r_ r_ p_) (aa_ (fun c => bv_ r_ r_ r_ p_) (yM_ r_ (ab_ r_ v_ (fun c => bd_ r_ p_) (ab_ r_ v_ (fun c => bh_ r_ p_) (ab_ r_ v_ (fun c => bf_ r_ r_ r_ b_ p_) ?_))))))))))
      refine ab_ r_ v_ (fun c => bg_ 0 r_ r_ r_ r_ p_) (ab_ r_ v_ (fun c => bd_ r_ p_) (ab_ r_ v_ (fun c => bh_ r_ p_) (ab_ r_ v_ (fun c => bf_ r_ r_ r_ b_ p_) (ab_ r_ v_ (fun c => bg_ 0 r_ r_ r_ r_ p_) (ab_ r_ v_ (fun c => cc_ r_ r_ g_ r_ r_ b_ p_) (ab_ r_ v_ (fun c => cf_ r_ r_ r_ b_ r_ b_ p_) (ab_ r_ v_ (fun c => cb_ r_ r_ p_) (ab_ r_ v_ (fun c => bx_ r_ r_ p_) (aa_ (fun c => bv_ r_ v_ r_ p_) (ae_ (al_ ?_)))))))))))
      refine ap_ r_ w_ (as_ (al_ (am_ (ao_ r_ r_ k_ k_ (yM_ r_ (yN_ r_ (yF_ r_ (yL_ 0 r_ (yM_ r_ (yN_ r_ (yF_ r_ (yL_ 0 r_ (aa_ (fun c => cc_ r_ r_ g_ r_ r_ b_ p_) (aa_ (fun c => cf_ r_ r_ r_ b_ r_ b_ p_) (aa_ (fun c => cb_ r_ r_ p_) ?_)))))))))))))))
      refine yM_ r_ (yM_ r_ (aa_ (fun c => bm_ r_ (op_c k _) p_) (yE_ r_ (ae_ (al_ (ar_ (jq_ret1 rfl rfl [0] rfl (fun K h => by rw [e2] at h; exact h))))))))
    · have e2 : opV l (opsL k) a = 0 := by unfold opV; rw [e, if_neg (fun x => hk x.1)]; rfl
      refine R_ (E_ r_ (T_ (am_ (am_ (ao_ r_ r_ k_ k_ (yM_ r_ (yN_ r_ (yF_ r_ (yL_ 0 r_ (aa_ (fun c => bx_ r_ r_ p_) (yM_ r_ (ab_ r_ r_ (fun c => bd_ r_ p_) (ab_ r_ r_ (fun c => bh_ r_ p_) (ab_ r_ r_ (fun c => bf_ r_ r_ r_ b_ p_) (ab_ r_ r_ (fun c => bg_ 0 r_ r_ r_ r_ p_) ?_)))))))))))))))
      refine ab_ r_ r_ (fun c => bd_ r_ p_) (ab_ r_ r_ (fun c => bh_ r_ p_) (ab_ r_ r_ (fun c => bf_ r_ r_ r_ b_ p_) (ab_ r_ r_ (fun c => bg_ 0 r_ r_ r_ r_ p_) (ab_ r_ r_ (fun c => br_ r_ (fun hlen => p_)) (ab_ r_ r_ (fun c => cn_ r_ r_ p_) (aa_ (fun c => bv_ r_ r_ r_ p_) (yM_ r_ (ab_ r_ v_ (fun c => bd_ r_ p_) (ab_ r_ v_ (fun c => bh_ r_ p_) (ab_ r_ v_ (fun c => bf_ r_ r_ r_ b_ p_) ?_))))))))))
      refine ab_ r_ v_ (fun c => bg_ 0 r_ r_ r_ r_ p_) (ab_ r_ v_ (fun c => bd_ r_ p_) (ab_ r_ v_ (fun c => bh_ r_ p_) (ab_ r_ v_ (fun c => bf_ r_ r_ r_ b_ p_) (ab_ r_ v_ (fun c => bg_ 0 r_ r_ r_ r_ p_) (ab_ r_ v_ (fun c => cc_ r_ r_ g_ r_ r_ b_ p_) (ab_ r_ v_ (fun c => cf_ r_ r_ r_ b_ r_ b_ p_) (ab_ r_ v_ (fun c => cb_ r_ r_ p_) (ab_ r_ v_ (fun c => bx_ r_ r_ p_) (aa_ (fun c => bv_ r_ v_ r_ p_) (ae_ (al_ ?_)))))))))))
      refine aq_ r_ u_ (R_ (E_ r_ (T_ (ar_ (aw_ (jq_ret1 rfl rfl [0] rfl (fun K h => by rw [e2] at h; exact h)))))))
  · have e2 : opV l (opsL k) a = 0 := by unfold opV; rw [opAt_end hlt]; rfl
    have hge : (a : Int) ≥ l.length := by omega
    refine R_ (E_ r_ (T_ (am_ (am_ (ao_ r_ r_ k_ k_ (yM_ r_ (yN_ r_ (yF_ r_ (yL_ 0 r_ (aa_ (fun c => bx_ r_ r_ p_) (yM_ r_ (ab_ r_ r_ (fun c => bd_ r_ p_) (ab_ r_ r_ (fun c => bh_ r_ p_) (ab_ r_ r_ (fun c => bf_ r_ r_ r_ b_ p_) (ab_ r_ r_ (fun c => bg_ 0 r_ r_ r_ r_ p_) ?_)))))))))))))))
    refine ab_ r_ r_ (fun c => bd_ r_ p_) (ab_ r_ r_ (fun c => bh_ r_ p_) (ab_ r_ r_ (fun c => bf_ r_ r_ r_ b_ p_) (ab_ r_ r_ (fun c => bg_ 0 r_ r_ r_ r_ p_) (ab_ r_ r_ (fun c => br_ r_ (fun hlen => p_)) (ab_ r_ r_ (fun c => cn_ r_ r_ p_) (aa_ (fun c => bv_ r_ r_ r_ p_) (yM_ r_ (ac_ r_ t_ (ac_ r_ t_ (ac_ r_ t_ (ac_ r_ t_ (ac_ r_ t_ (ac_ r_ t_ (ac_ r_ t_ (ac_ r_ t_ ?_)))))))))))))))
    refine ac_ r_ t_ (ac_ r_ t_ (ac_ r_ t_ (ac_ r_ t_ (aa_ (fun c => bp_ r_ t_ r_ p_) (ae_ (al_ (aq_ r_ r_ (R_ (E_ r_ (T_ (ar_ (aw_ (jq_ret1 rfl rfl [0] rfl (fun K h => by rw [e2] at h; exact h))))))))))))))
theorem rnext_none (ha : a ≤ l.length) {k : Nat} (h : opAt l (opsL k) a = none) : Con Tryz.prog 178 [Ptr b, .cell (.list ((opsL k).map Wrow)), .cell (.list ((opnL k).map Irow))] [Rz b l a ln 0 fr] (fun K => K (In .i64 0) [Rz b l a ln 0 fr]) := by
  have := rnext_c (b := b) (ln := ln) (fr := fr) ha k
  rw [opV, h] at this
  exact this
theorem rnext_some (ha : a ≤ l.length) {k : Nat} {o : Int} (h : opAt l (opsL k) a = some o) : Con Tryz.prog 178 [Ptr b, .cell (.list ((opsL k).map Wrow)), .cell (.list ((opnL k).map Irow))] [Rz b l a ln 0 fr] (fun K => K (In .i64 o) [Rz b l a ln 0 fr]) := by
  have := rnext_c (b := b) (ln := ln) (fr := fr) ha k
  rw [opV, h] at this
  exact this
end
end Go.Proofs.YtamajcgdfjeehaaGreatDoor
end

section
namespace Go.Proofs.YtamajcgdfjeehaaGreatDoor
open Go.Vc
attribute [local irreducible] JL JC JQ OpWp Con ConN Pan ConE OpPan hasW idxW isA isNum isNm numAt txtAt lineAt opAt lx lpx sx sxp
set_option maxHeartbeats 4000000

theorem dep_pos (t : T) : 1 ≤ t.dep := by cases t <;> simp [T.dep]
theorem dpR_ok {fr : Bool} {t : T} (h : ¬ (fr = false ∧ 8 < t.dep)) (a : Nat) : dpR fr t a = .ok t a := by unfold dpR; rw [if_neg h]
theorem dpR_er {fr : Bool} {t : T} (h : fr = false ∧ 8 < t.dep) (a : Nat) : dpR fr t a = .er 4 (a - 1) := by unfold dpR; rw [if_pos h]
theorem sxp_dep {fr : Bool} {l : List Tok} {L : List ByteArray} {sub : Nat → R T} {a0 : Nat} (hs : ∀ a t b, sub a = .ok t b → a < b ∧ t.dep ≤ b - a) : ∀ (n : Nat) (x : T) (a : Nat) (t : T) (b : Nat), a0 ≤ a → x.dep ≤ a - a0 → sxp fr l L sub n x a = .ok t b → t.dep ≤ b - a0
  | 0, x, a, t, b, _, h, e => by simp only [sxp, R.ok.injEq] at e; obtain ⟨rfl, rfl⟩ := e; exact h
  | n + 1, x, a, t, b, ha, h, e => by
    rw [sxp] at e
    split at e
    · simp only [R.ok.injEq] at e; obtain ⟨rfl, rfl⟩ := e; exact h
    · rename_i o _
      split at e
      · cases e
      · rename_i y b1 hy
        have h1 := hs _ _ _ hy
        split at e
        · cases e
        · rename_i z b2 hz
          obtain ⟨rfl, rfl⟩ := dpR_bd hz
          exact sxp_dep hs n _ _ _ _ g_ (by simp only [T.dep]; omega) e
theorem sx_dep {fr : Bool} {l : List Tok} : ∀ (F k a : Nat) (t : T) (b : Nat), sx fr l F k a = .ok t b → t.dep ≤ b - a
  | 0, _, _, _, _, h => by simp [sx] at h
  | F + 1, k, a, t, b, h => by
    have ih := sx_dep (fr := fr) (l := l) F
    rw [sx] at h
    split at h
    · split at h
      · cases h; simp only [T.dep]; omega
      · split at h
        · split at h
          · cases h; simp only [T.dep]; omega
          · split at h
            · cases h
            · rename_i x b' h1
              have h2 := ih _ _ _ _ h1
              have h3 := sx_bd _ _ _ _ _ h1
              obtain ⟨rfl, rfl⟩ := dpR_bd h
              simp only [T.dep]; omega
        · split at h
          · split at h
            · split at h
              · cases h
              · rename_i x b' h2
                have h3 := ih _ _ _ _ h2
                have h4 := sx_bd _ _ _ _ _ h2
                split at h
                · obtain ⟨rfl, rfl⟩ := dpR_bd h
                  simp only [T.dep]; omega
                · cases h
            · cases h; simp only [T.dep]; omega
          · split at h
            · split at h
              · cases h
              · rename_i x b' h2
                have h3 := ih _ _ _ _ h2
                have h4 := sx_bd _ _ _ _ _ h2
                split at h
                · cases h; omega
                · cases h
            · cases h
    · split at h
      · cases h
      · rename_i x b' h1
        have h2 := sx_bd _ _ _ _ _ h1
        exact sxp_dep (L := opsL k) (fun a t b h => ⟨(sx_bd F (k + 1) a t b h).1, ih (k + 1) a t b h⟩) _ _ _ _ _ g_ (ih _ _ _ _ h1) h

section
variable {l : List Tok} {fr : Bool} (hl : l.length ≤ 1000000)
include hl
theorem factor_step (F : Nat) (hF : FcP l fr F) (hX : XpP l fr F) : FcP l fr (F + 1) := by
  intro b a ha hN
  unfold need at hN
  have eL : (l.map Tok.row).length = l.length := List.length_map _
  refine con_intro Tryz.func177 rfl rfl (Nat.le_of_ble_eq_true rfl) (fun c hc => ?_)
  cases h1 : isNum l a with
  | true =>
    have hlt := isNum_lt h1
    have hk : l[a].kind = 2 := of_decide_eq_true (by rw [← isNum_get hlt]; exact h1)
    have e : sx fr l (F + 1) 3 a = .ok (.nu (numAt l a)) (a + 1) := by rw [sx, if_pos (Nat.le_refl _), if_pos h1]
    refine R_ (o_ r_ (bl_ r_ r_ (fun bl => E_ r_ (T_ (B_ (R_ (M_ r_ (N_ r_ (F_ r_ (L_ 1 r_ (o_ r_ (bx_ r_ r_ (E_ r_ (T_ (ap_ r_ r_ (am_ (ao_ r_ r_ k_ k_ ?_)))))))))))))))))
    refine yM_ r_ (yN_ r_ (yF_ r_ (yL_ 1 r_ (yM_ r_ (yN_ r_ (yF_ r_ (yL_ 1 r_ (aa_ (fun c => br_ r_ (fun hlen => p_)) (aa_ (fun c => bw_ r_ r_ p_) (yM_ r_ (ab_ r_ t_ (fun c => bd_ r_ p_) (ab_ r_ t_ (fun c => bh_ r_ p_) (ab_ r_ t_ (fun c => bf_ r_ r_ r_ b_ p_) (ab_ r_ t_ (fun c => bg_ 1 r_ r_ r_ r_ p_) (ab_ r_ t_ (fun c => bd_ r_ p_) ?_)))))))))))))))
    refine ab_ r_ t_ (fun c => bh_ r_ p_) (ab_ r_ t_ (fun c => bf_ r_ r_ r_ b_ p_) (ab_ r_ t_ (fun c => bg_ 1 r_ r_ r_ r_ p_) (ab_ r_ t_ (fun c => cc_ r_ r_ g_ r_ r_ b_ p_) (ab_ r_ t_ (fun c => cf_ r_ r_ r_ b_ r_ b_ p_) (ab_ r_ t_ (fun c => cb_ r_ r_ p_) (ab_ r_ t_ (fun c => bn_ r_ r_ p_) (aa_ (fun c => bp_ r_ t_ r_ p_) (yE_ r_ (ae_ (al_ (aq_ r_ u_ (R_ (M_ r_ (o_ r_ (bi_ [1] r_ r_ (rnum_y hl ha h1) ?_)))))))))))))))
    refine o_ r_ (bu_ r_ r_ r_ r_ r_ (S_ 1 r_ (E_ r_ (T_ (ar_ (az_ (aw_ (jq_row 0 (T.nu (numAt l a)).row' rfl ?_ ?_))))))))
    · (repeat (first | exact RowLe.nil | refine RowLe.cons (CLe.refl _) ?_ | refine RowLe.cons CLe.nil ?_))
    · exact jq_retRowT rfl rfl rfl rfl rfl 0 rfl (fun K h => by rw [e] at h; exact h) (bc_ 1 r_ sub_end)
  | false =>
    have h1' : ¬ isNum l a = true := by rw [h1]; decide
    by_cases hlt : a < l.length
    · have hk : ¬ l[a].kind = 2 := fun hc => h1' (by rw [isNum_get hlt]; exact decide_eq_true hc)
      cases h2 : isA l a W45 with
      | true =>
        cases h3 : isNum l (a + 1) with
        | true =>
          have hlt2 := isNum_lt h3
          have hk2 : l[a + 1].kind = 2 := of_decide_eq_true (by rw [← isNum_get hlt2]; exact h3)
          have e : sx fr l (F + 1) 3 a = .ok (.nu (ngI (numAt l (a + 1)))) (a + 2) := by rw [sx, if_pos (Nat.le_refl _), if_neg h1', if_pos h2, if_pos h3]
          refine R_ (o_ r_ (bl_ r_ r_ (fun bl => E_ r_ (T_ (B_ (R_ (M_ r_ (N_ r_ (F_ r_ (L_ 1 r_ (o_ r_ (bx_ r_ r_ (E_ r_ (T_ (ap_ r_ r_ (am_ (ao_ r_ r_ k_ k_ ?_)))))))))))))))))
          refine yM_ r_ (yN_ r_ (yF_ r_ (yL_ 1 r_ (yM_ r_ (yN_ r_ (yF_ r_ (yL_ 1 r_ (aa_ (fun c => br_ r_ (fun hlen => p_)) (aa_ (fun c => bw_ r_ r_ p_) (yM_ r_ (ab_ r_ t_ (fun c => bd_ r_ p_) (ab_ r_ t_ (fun c => bh_ r_ p_) (ab_ r_ t_ (fun c => bf_ r_ r_ r_ b_ p_) (ab_ r_ t_ (fun c => bg_ 1 r_ r_ r_ r_ p_) (ab_ r_ t_ (fun c => bd_ r_ p_) ?_)))))))))))))))
          refine ab_ r_ t_ (fun c => bh_ r_ p_) (ab_ r_ t_ (fun c => bf_ r_ r_ r_ b_ p_) (ab_ r_ t_ (fun c => bg_ 1 r_ r_ r_ r_ p_) (ab_ r_ t_ (fun c => cc_ r_ r_ g_ r_ r_ b_ p_) (ab_ r_ t_ (fun c => cf_ r_ r_ r_ b_ r_ b_ p_) (ab_ r_ t_ (fun c => cb_ r_ r_ p_) (ab_ r_ t_ (fun c => bn_ r_ r_ p_) (aa_ (fun c => bp_ r_ t_ r_ p_) (yE_ r_ (ae_ (al_ (ap_ r_ w_ (R_ (M_ r_ (o_ r_ (bi_ [1] r_ r_ (rskip_y hl ha h2) (E_ r_ ?_))))))))))))))))
          refine T_ (aq_ r_ r_ (am_ (am_ (ao_ r_ r_ k_ k_ (yM_ r_ (yN_ r_ (yF_ r_ (yL_ 0 r_ (yM_ r_ (yN_ r_ (yF_ r_ (yL_ 0 r_ (aa_ (fun c => br_ r_ (fun hlen => p_)) (aa_ (fun c => bw_ r_ r_ p_) (yM_ r_ ?_)))))))))))))))
          refine ab_ r_ t_ (fun c => bd_ r_ p_) (ab_ r_ t_ (fun c => bh_ r_ p_) (ab_ r_ t_ (fun c => bf_ r_ r_ r_ b_ p_) (ab_ r_ t_ (fun c => bg_ 0 r_ r_ r_ r_ p_) (ab_ r_ t_ (fun c => bd_ r_ p_) (ab_ r_ t_ (fun c => bh_ r_ p_) (ab_ r_ t_ (fun c => bf_ r_ r_ r_ b_ p_) (ab_ r_ t_ (fun c => bg_ 0 r_ r_ r_ r_ p_) (ab_ r_ t_ (fun c => cc_ r_ r_ g_ r_ r_ b_ p_) (ab_ r_ t_ (fun c => cf_ r_ r_ r_ b_ r_ b_ p_) ?_)))))))))
          refine ab_ r_ t_ (fun c => cb_ r_ r_ p_) (ab_ r_ t_ (fun c => bn_ r_ r_ p_) (aa_ (fun c => bp_ r_ t_ r_ p_) (ae_ (al_ (aq_ r_ u_ (R_ (M_ r_ (o_ r_ (bi_ [0] r_ r_ (rnum_y hl g_ h3) (o_ r_ (ow_negW r_ (o_ r_ (bu_ r_ r_ r_ r_ r_ (S_ 1 r_ (E_ r_ (T_ (ar_ (aw_ ?_))))))))))))))))))
          refine az_ (aw_ (jq_row 0 (T.nu (ngI (numAt l (a + 1)))).row' rfl ?_ ?_))
          · (repeat (first | exact RowLe.nil | refine RowLe.cons (CLe.refl _) ?_ | refine RowLe.cons CLe.nil ?_))
          · exact jq_retRowT rfl rfl rfl rfl rfl 0 rfl (fun K h => by rw [e] at h; exact h) (bc_ 1 r_ sub_end)
        | false =>
          have h3' : ¬ isNum l (a + 1) = true := by rw [h3]; decide
          have con := hF b (a + 1) (by omega) (by unfold need; omega)
          by_cases hlt2 : a + 1 < l.length
          · have hk2 : ¬ l[a + 1].kind = 2 := fun hc => h3' (by rw [isNum_get hlt2]; exact decide_eq_true hc)
            cases hr : sx fr l F 3 (a + 1) with
            | er code p =>
              have e : sx fr l (F + 1) 3 a = .er code p := by rw [sx, if_pos (Nat.le_refl _), if_neg h1', if_pos h2, if_neg h3', hr]
              rw [hr] at con
              refine R_ (o_ r_ (bl_ r_ r_ (fun bl => E_ r_ (T_ (B_ (R_ (M_ r_ (N_ r_ (F_ r_ (L_ 1 r_ (o_ r_ (bx_ r_ r_ (E_ r_ (T_ (ap_ r_ r_ (am_ (ao_ r_ r_ k_ k_ ?_)))))))))))))))))
              refine yM_ r_ (yN_ r_ (yF_ r_ (yL_ 1 r_ (yM_ r_ (yN_ r_ (yF_ r_ (yL_ 1 r_ (aa_ (fun c => br_ r_ (fun hlen => p_)) (aa_ (fun c => bw_ r_ r_ p_) (yM_ r_ (ab_ r_ t_ (fun c => bd_ r_ p_) (ab_ r_ t_ (fun c => bh_ r_ p_) (ab_ r_ t_ (fun c => bf_ r_ r_ r_ b_ p_) (ab_ r_ t_ (fun c => bg_ 1 r_ r_ r_ r_ p_) (ab_ r_ t_ (fun c => bd_ r_ p_) ?_)))))))))))))))
              refine ab_ r_ t_ (fun c => bh_ r_ p_) (ab_ r_ t_ (fun c => bf_ r_ r_ r_ b_ p_) (ab_ r_ t_ (fun c => bg_ 1 r_ r_ r_ r_ p_) (ab_ r_ t_ (fun c => cc_ r_ r_ g_ r_ r_ b_ p_) (ab_ r_ t_ (fun c => cf_ r_ r_ r_ b_ r_ b_ p_) (ab_ r_ t_ (fun c => cb_ r_ r_ p_) (ab_ r_ t_ (fun c => bn_ r_ r_ p_) (aa_ (fun c => bp_ r_ t_ r_ p_) (yE_ r_ (ae_ (al_ (ap_ r_ w_ (R_ (M_ r_ (o_ r_ (bi_ [1] r_ r_ (rskip_y hl ha h2) (E_ r_ ?_))))))))))))))))
              refine T_ (aq_ r_ r_ (am_ (am_ (ao_ r_ r_ k_ k_ (yM_ r_ (yN_ r_ (yF_ r_ (yL_ 0 r_ (yM_ r_ (yN_ r_ (yF_ r_ (yL_ 0 r_ (aa_ (fun c => br_ r_ (fun hlen => p_)) (aa_ (fun c => bw_ r_ r_ p_) (yM_ r_ ?_)))))))))))))))
              refine ab_ r_ t_ (fun c => bd_ r_ p_) (ab_ r_ t_ (fun c => bh_ r_ p_) (ab_ r_ t_ (fun c => bf_ r_ r_ r_ b_ p_) (ab_ r_ t_ (fun c => bg_ 0 r_ r_ r_ r_ p_) (ab_ r_ t_ (fun c => bd_ r_ p_) (ab_ r_ t_ (fun c => bh_ r_ p_) (ab_ r_ t_ (fun c => bf_ r_ r_ r_ b_ p_) (ab_ r_ t_ (fun c => bg_ 0 r_ r_ r_ r_ p_) (ab_ r_ t_ (fun c => cc_ r_ r_ g_ r_ r_ b_ p_) (ab_ r_ t_ (fun c => cf_ r_ r_ r_ b_ r_ b_ p_) ?_)))))))))
              refine ab_ r_ t_ (fun c => cb_ r_ r_ p_) (ab_ r_ t_ (fun c => bn_ r_ r_ p_) (aa_ (fun c => bp_ r_ t_ r_ p_) (ae_ (al_ (ap_ r_ w_ (as_ (al_ (R_ (M_ r_ (o_ r_ (bt_ [0] rfl rfl (con) (fun pp hpp => M_ r_ (X_ r_ (X_ r_ (o_ r_ (bl_ r_ r_ (fun bl => S_ 0 r_ ?_)))))))))))))))))
              refine E_ r_ (T_ (R_ (M_ r_ (M_ r_ (o_ r_ (ow_add r_ r_ (o_ r_ (bi_ [1] r_ r_ (rdeep_e hpp.2 g_ _) (T_ (R_ (o_ r_ (bu_ r_ r_ r_ r_ r_ (A_ 1 r_ (o_ r_ (bq_ r_ r_ b_ r_ r_ b_ (o_ r_ (bu_ r_ r_ r_ r_ r_ (M_ r_ (o_ r_ (ow_add r_ r_ (S_ 2 r_ ?_)))))))))))))))))))))
              refine E_ r_ (T_ (ar_ (az_ (aw_ (jq_row 0 A5 rfl ?_ ?_)))))
              · (repeat (first | exact RowLe.nil | refine RowLe.cons (CLe.any _) ?_))
              · exact jq_retRowT rfl rfl rfl rfl rfl 0 rfl (fun K h => by rw [e] at h; exact h (pp.1, _) ⟨by omega, hpp.2⟩) (bc_ 1 r_ sub_end)
            | ok x c =>
              have hbd := sx_bd _ _ _ _ _ hr
              have hdep := sx_dep _ _ _ _ _ hr
              have hpos := dep_pos x
              have hd2 : (T.bn 2 (.nu 0) x).dep = x.dep + 1 := by simp only [T.dep]; omega
              rw [hr] at con
              by_cases hd : fr = false ∧ 8 < (T.bn 2 (.nu 0) x).dep
              · have e : sx fr l (F + 1) 3 a = .er 4 (c - 1) := by rw [sx, if_pos (Nat.le_refl _), if_neg h1', if_pos h2, if_neg h3', hr]; exact dpR_er hd _
                obtain ⟨rfl, hd⟩ := hd
                rw [hd2] at hd
                refine R_ (o_ r_ (bl_ r_ r_ (fun bl => E_ r_ (T_ (B_ (R_ (M_ r_ (N_ r_ (F_ r_ (L_ 1 r_ (o_ r_ (bx_ r_ r_ (E_ r_ (T_ (ap_ r_ r_ (am_ (ao_ r_ r_ k_ k_ ?_)))))))))))))))))
                refine yM_ r_ (yN_ r_ (yF_ r_ (yL_ 1 r_ (yM_ r_ (yN_ r_ (yF_ r_ (yL_ 1 r_ (aa_ (fun c => br_ r_ (fun hlen => p_)) (aa_ (fun c => bw_ r_ r_ p_) (yM_ r_ (ab_ r_ t_ (fun c => bd_ r_ p_) (ab_ r_ t_ (fun c => bh_ r_ p_) (ab_ r_ t_ (fun c => bf_ r_ r_ r_ b_ p_) (ab_ r_ t_ (fun c => bg_ 1 r_ r_ r_ r_ p_) (ab_ r_ t_ (fun c => bd_ r_ p_) ?_)))))))))))))))
                refine ab_ r_ t_ (fun c => bh_ r_ p_) (ab_ r_ t_ (fun c => bf_ r_ r_ r_ b_ p_) (ab_ r_ t_ (fun c => bg_ 1 r_ r_ r_ r_ p_) (ab_ r_ t_ (fun c => cc_ r_ r_ g_ r_ r_ b_ p_) (ab_ r_ t_ (fun c => cf_ r_ r_ r_ b_ r_ b_ p_) (ab_ r_ t_ (fun c => cb_ r_ r_ p_) (ab_ r_ t_ (fun c => bn_ r_ r_ p_) (aa_ (fun c => bp_ r_ t_ r_ p_) (yE_ r_ (ae_ (al_ (ap_ r_ w_ (R_ (M_ r_ (o_ r_ (bi_ [1] r_ r_ (rskip_y hl ha h2) (E_ r_ ?_))))))))))))))))
                refine T_ (aq_ r_ r_ (am_ (am_ (ao_ r_ r_ k_ k_ (yM_ r_ (yN_ r_ (yF_ r_ (yL_ 0 r_ (yM_ r_ (yN_ r_ (yF_ r_ (yL_ 0 r_ (aa_ (fun c => br_ r_ (fun hlen => p_)) (aa_ (fun c => bw_ r_ r_ p_) (yM_ r_ ?_)))))))))))))))
                refine ab_ r_ t_ (fun c => bd_ r_ p_) (ab_ r_ t_ (fun c => bh_ r_ p_) (ab_ r_ t_ (fun c => bf_ r_ r_ r_ b_ p_) (ab_ r_ t_ (fun c => bg_ 0 r_ r_ r_ r_ p_) (ab_ r_ t_ (fun c => bd_ r_ p_) (ab_ r_ t_ (fun c => bh_ r_ p_) (ab_ r_ t_ (fun c => bf_ r_ r_ r_ b_ p_) (ab_ r_ t_ (fun c => bg_ 0 r_ r_ r_ r_ p_) (ab_ r_ t_ (fun c => cc_ r_ r_ g_ r_ r_ b_ p_) (ab_ r_ t_ (fun c => cf_ r_ r_ r_ b_ r_ b_ p_) ?_)))))))))
                refine ab_ r_ t_ (fun c => cb_ r_ r_ p_) (ab_ r_ t_ (fun c => bn_ r_ r_ p_) (aa_ (fun c => bp_ r_ t_ r_ p_) (ae_ (al_ (ap_ r_ w_ (as_ (al_ (R_ (M_ r_ (o_ r_ (bi_ [0] r_ r_ (con) (M_ r_ (X_ r_ (X_ r_ (o_ r_ (bl_ r_ r_ (fun bl => S_ 0 r_ ?_)))))))))))))))))
                refine E_ r_ (T_ (R_ (M_ r_ (M_ r_ (o_ r_ (bj_ r_ r_ g_ (o_ r_ (bi_ [1] r_ r_ (rdeep_n hl _ g_ g_ g_) (T_ (R_ (o_ r_ (bu_ r_ r_ r_ r_ r_ (A_ 1 r_ (o_ r_ (bq_ r_ r_ b_ r_ r_ b_ (o_ r_ (bu_ r_ r_ r_ r_ r_ (M_ r_ (o_ r_ (bj_ r_ r_ g_ (S_ 2 r_ ?_)))))))))))))))))))))
                refine E_ r_ (T_ (ar_ (az_ (aw_ (jq_row 0 A5 rfl ?_ ?_)))))
                · (repeat (first | exact RowLe.nil | refine RowLe.cons (CLe.any _) ?_))
                · exact jq_retRowT rfl rfl rfl rfl rfl 0 rfl (fun K h => by rw [e] at h; exact h (c, _) ⟨by omega, by decide⟩) (bc_ 1 r_ sub_end)
              · have e : sx fr l (F + 1) 3 a = .ok (.bn 2 (.nu 0) x) c := by rw [sx, if_pos (Nat.le_refl _), if_neg h1', if_pos h2, if_neg h3', hr]; exact dpR_ok hd _
                rw [hd2] at hd
                refine R_ (o_ r_ (bl_ r_ r_ (fun bl => E_ r_ (T_ (B_ (R_ (M_ r_ (N_ r_ (F_ r_ (L_ 1 r_ (o_ r_ (bx_ r_ r_ (E_ r_ (T_ (ap_ r_ r_ (am_ (ao_ r_ r_ k_ k_ ?_)))))))))))))))))
                refine yM_ r_ (yN_ r_ (yF_ r_ (yL_ 1 r_ (yM_ r_ (yN_ r_ (yF_ r_ (yL_ 1 r_ (aa_ (fun c => br_ r_ (fun hlen => p_)) (aa_ (fun c => bw_ r_ r_ p_) (yM_ r_ (ab_ r_ t_ (fun c => bd_ r_ p_) (ab_ r_ t_ (fun c => bh_ r_ p_) (ab_ r_ t_ (fun c => bf_ r_ r_ r_ b_ p_) (ab_ r_ t_ (fun c => bg_ 1 r_ r_ r_ r_ p_) (ab_ r_ t_ (fun c => bd_ r_ p_) ?_)))))))))))))))
                refine ab_ r_ t_ (fun c => bh_ r_ p_) (ab_ r_ t_ (fun c => bf_ r_ r_ r_ b_ p_) (ab_ r_ t_ (fun c => bg_ 1 r_ r_ r_ r_ p_) (ab_ r_ t_ (fun c => cc_ r_ r_ g_ r_ r_ b_ p_) (ab_ r_ t_ (fun c => cf_ r_ r_ r_ b_ r_ b_ p_) (ab_ r_ t_ (fun c => cb_ r_ r_ p_) (ab_ r_ t_ (fun c => bn_ r_ r_ p_) (aa_ (fun c => bp_ r_ t_ r_ p_) (yE_ r_ (ae_ (al_ (ap_ r_ w_ (R_ (M_ r_ (o_ r_ (bi_ [1] r_ r_ (rskip_y hl ha h2) (E_ r_ ?_))))))))))))))))
                refine T_ (aq_ r_ r_ (am_ (am_ (ao_ r_ r_ k_ k_ (yM_ r_ (yN_ r_ (yF_ r_ (yL_ 0 r_ (yM_ r_ (yN_ r_ (yF_ r_ (yL_ 0 r_ (aa_ (fun c => br_ r_ (fun hlen => p_)) (aa_ (fun c => bw_ r_ r_ p_) (yM_ r_ ?_)))))))))))))))
                refine ab_ r_ t_ (fun c => bd_ r_ p_) (ab_ r_ t_ (fun c => bh_ r_ p_) (ab_ r_ t_ (fun c => bf_ r_ r_ r_ b_ p_) (ab_ r_ t_ (fun c => bg_ 0 r_ r_ r_ r_ p_) (ab_ r_ t_ (fun c => bd_ r_ p_) (ab_ r_ t_ (fun c => bh_ r_ p_) (ab_ r_ t_ (fun c => bf_ r_ r_ r_ b_ p_) (ab_ r_ t_ (fun c => bg_ 0 r_ r_ r_ r_ p_) (ab_ r_ t_ (fun c => cc_ r_ r_ g_ r_ r_ b_ p_) (ab_ r_ t_ (fun c => cf_ r_ r_ r_ b_ r_ b_ p_) ?_)))))))))
                refine ab_ r_ t_ (fun c => cb_ r_ r_ p_) (ab_ r_ t_ (fun c => bn_ r_ r_ p_) (aa_ (fun c => bp_ r_ t_ r_ p_) (ae_ (al_ (ap_ r_ w_ (as_ (al_ (R_ (M_ r_ (o_ r_ (bi_ [0] r_ r_ (con) (M_ r_ (X_ r_ (X_ r_ (o_ r_ (bl_ r_ r_ (fun bl => S_ 0 r_ ?_)))))))))))))))))
                refine E_ r_ (T_ (R_ (M_ r_ (M_ r_ (o_ r_ (bj_ r_ r_ g_ (o_ r_ (bi_ [1] rfl rfl (rdeep_y _ (fun hh => hd ⟨hh.1, by omega⟩)) (T_ (R_ (o_ r_ (bu_ r_ r_ r_ r_ r_ (A_ 1 r_ (o_ r_ (bq_ r_ r_ b_ r_ r_ b_ (o_ r_ (bu_ r_ r_ r_ r_ r_ (M_ r_ (o_ r_ (bj_ r_ r_ g_ (S_ 2 r_ ?_)))))))))))))))))))))
                refine E_ r_ (T_ (ar_ (az_ (aw_ (jq_row 0 (T.bn 2 (.nu 0) x).row' rfl ?_ ?_)))))
                · (repeat (first | exact RowLe.nil | refine RowLe.cons (CLe.refl _) ?_ | refine RowLe.cons CLe.nil ?_))
                  refine RowLe.cons (CLe.list (.cons ?_ (.cons ?_ .nil))) .nil
                  · (repeat (first | exact RowLe.nil | refine RowLe.cons (CLe.refl _) ?_ | refine RowLe.cons CLe.nil ?_))
                  · rw [T.row_eq]
                    (repeat (first | exact RowLe.nil | refine RowLe.cons (CLe.refl _) ?_ | refine RowLe.cons CLe.nil ?_))
                · exact jq_retRowT rfl rfl rfl rfl rfl 0 rfl (fun K h => by rw [e, LvPost, hd2] at h; exact h) (bc_ 1 r_ sub_end)
          · cases hr : sx fr l F 3 (a + 1) with
            | er code p =>
              have e : sx fr l (F + 1) 3 a = .er code p := by rw [sx, if_pos (Nat.le_refl _), if_neg h1', if_pos h2, if_neg h3', hr]
              rw [hr] at con
              refine R_ (o_ r_ (bl_ r_ r_ (fun bl => E_ r_ (T_ (B_ (R_ (M_ r_ (N_ r_ (F_ r_ (L_ 1 r_ (o_ r_ (bx_ r_ r_ (E_ r_ (T_ (ap_ r_ r_ (am_ (ao_ r_ r_ k_ k_ ?_)))))))))))))))))
              refine yM_ r_ (yN_ r_ (yF_ r_ (yL_ 1 r_ (yM_ r_ (yN_ r_ (yF_ r_ (yL_ 1 r_ (aa_ (fun c => br_ r_ (fun hlen => p_)) (aa_ (fun c => bw_ r_ r_ p_) (yM_ r_ (ab_ r_ t_ (fun c => bd_ r_ p_) (ab_ r_ t_ (fun c => bh_ r_ p_) (ab_ r_ t_ (fun c => bf_ r_ r_ r_ b_ p_) (ab_ r_ t_ (fun c => bg_ 1 r_ r_ r_ r_ p_) (ab_ r_ t_ (fun c => bd_ r_ p_) ?_)))))))))))))))
              refine ab_ r_ t_ (fun c => bh_ r_ p_) (ab_ r_ t_ (fun c => bf_ r_ r_ r_ b_ p_) (ab_ r_ t_ (fun c => bg_ 1 r_ r_ r_ r_ p_) (ab_ r_ t_ (fun c => cc_ r_ r_ g_ r_ r_ b_ p_) (ab_ r_ t_ (fun c => cf_ r_ r_ r_ b_ r_ b_ p_) (ab_ r_ t_ (fun c => cb_ r_ r_ p_) (ab_ r_ t_ (fun c => bn_ r_ r_ p_) (aa_ (fun c => bp_ r_ t_ r_ p_) (yE_ r_ (ae_ (al_ (ap_ r_ w_ (R_ (M_ r_ (o_ r_ (bi_ [1] r_ r_ (rskip_y hl ha h2) (E_ r_ ?_))))))))))))))))
              refine T_ (aq_ r_ r_ (am_ (am_ (ao_ r_ r_ k_ k_ (yM_ r_ (yN_ r_ (yF_ r_ (yL_ 0 r_ (yM_ r_ (yN_ r_ (yF_ r_ (yL_ 0 r_ (aa_ (fun c => br_ r_ (fun hlen => p_)) (aa_ (fun c => bw_ r_ r_ p_) (yM_ r_ ?_)))))))))))))))
              refine ac_ r_ v_ (ac_ r_ v_ (ac_ r_ v_ (ac_ r_ v_ (ac_ r_ v_ (ac_ r_ v_ (ac_ r_ v_ (ac_ r_ v_ (ac_ r_ v_ (ac_ r_ v_ (ac_ r_ v_ (ac_ r_ v_ (aa_ (fun c => bv_ r_ v_ r_ p_) (ae_ (al_ (ap_ r_ r_ ?_)))))))))))))))
              refine as_ (al_ (R_ (M_ r_ (o_ r_ (bt_ [0] rfl rfl (con) (fun pp hpp => M_ r_ (X_ r_ (X_ r_ (o_ r_ (bl_ r_ r_ (fun bl => S_ 0 r_ (E_ r_ (T_ (R_ (M_ r_ (M_ r_ (o_ r_ (ow_add r_ r_ ?_))))))))))))))))))
              refine o_ r_ (bi_ [1] r_ r_ (rdeep_e hpp.2 g_ _) (T_ (R_ (o_ r_ (bu_ r_ r_ r_ r_ r_ (A_ 1 r_ (o_ r_ (bq_ r_ r_ b_ r_ r_ b_ (o_ r_ (bu_ r_ r_ r_ r_ r_ (M_ r_ (o_ r_ (ow_add r_ r_ (S_ 2 r_ (E_ r_ (T_ (ar_ (az_ (aw_ (jq_row 0 A5 rfl ?_ ?_))))))))))))))))))))
              · (repeat (first | exact RowLe.nil | refine RowLe.cons (CLe.any _) ?_))
              · exact jq_retRowT rfl rfl rfl rfl rfl 0 rfl (fun K h => by rw [e] at h; exact h (pp.1, _) ⟨by omega, hpp.2⟩) (bc_ 1 r_ sub_end)
            | ok x c =>
              have hbd := sx_bd _ _ _ _ _ hr
              omega
      | false =>
        have h2' : ¬ isA l a W45 = true := by rw [h2]; decide
        cases h3 : isNm l a with
        | true =>
          cases h4 : isA l (a + 1) W91 with
          | true =>
            have hlt2 := isA_lt h4
            have con := hX b (a + 2) (by omega) (by unfold need; omega)
            cases hr : sx fr l F 0 (a + 2) with
            | er code p =>
              have e : sx fr l (F + 1) 3 a = .er code p := by rw [sx, if_pos (Nat.le_refl _), if_neg h1', if_neg h2', if_pos h3, if_pos h4, hr]
              rw [hr] at con
              refine R_ (o_ r_ (bl_ r_ r_ (fun bl => E_ r_ (T_ (B_ (R_ (M_ r_ (N_ r_ (F_ r_ (L_ 1 r_ (o_ r_ (bx_ r_ r_ (E_ r_ (T_ (ap_ r_ r_ (am_ (ao_ r_ r_ k_ k_ ?_)))))))))))))))))
              refine yM_ r_ (yN_ r_ (yF_ r_ (yL_ 1 r_ (yM_ r_ (yN_ r_ (yF_ r_ (yL_ 1 r_ (aa_ (fun c => br_ r_ (fun hlen => p_)) (aa_ (fun c => bw_ r_ r_ p_) (yM_ r_ (ab_ r_ t_ (fun c => bd_ r_ p_) (ab_ r_ t_ (fun c => bh_ r_ p_) (ab_ r_ t_ (fun c => bf_ r_ r_ r_ b_ p_) (ab_ r_ t_ (fun c => bg_ 1 r_ r_ r_ r_ p_) (ab_ r_ t_ (fun c => bd_ r_ p_) ?_)))))))))))))))
              refine ab_ r_ t_ (fun c => bh_ r_ p_) (ab_ r_ t_ (fun c => bf_ r_ r_ r_ b_ p_) (ab_ r_ t_ (fun c => bg_ 1 r_ r_ r_ r_ p_) (ab_ r_ t_ (fun c => cc_ r_ r_ g_ r_ r_ b_ p_) (ab_ r_ t_ (fun c => cf_ r_ r_ r_ b_ r_ b_ p_) (ab_ r_ t_ (fun c => cb_ r_ r_ p_) (ab_ r_ t_ (fun c => bn_ r_ r_ p_) (aa_ (fun c => bp_ r_ t_ r_ p_) (yE_ r_ (ae_ (al_ (ap_ r_ w_ (R_ (M_ r_ (o_ r_ (bi_ [1] r_ r_ (rskip_n ha h2) (E_ r_ ?_))))))))))))))))
              refine T_ (ap_ r_ r_ (R_ (M_ r_ (o_ r_ (bi_ [0] r_ r_ (risNm_y ha h3) (E_ r_ (T_ (aq_ r_ r_ (R_ (M_ r_ (o_ r_ (bi_ [0] r_ r_ (rname_y hl ha h3) (E_ r_ (T_ (am_ (R_ (M_ r_ ?_)))))))))))))))))
              refine o_ r_ (bi_ [0] r_ r_ (rskip_y hl g_ h4) (o_ r_ (cd_ r_ (T_ (ap_ r_ r_ (as_ (al_ (R_ (M_ r_ (o_ r_ (bt_ [0] rfl rfl (con) (fun pp hpp => M_ r_ (X_ r_ (X_ r_ (o_ r_ (bl_ r_ r_ (fun bl => S_ 0 r_ (E_ r_ (T_ ?_)))))))))))))))))))
              refine R_ (M_ r_ (o_ r_ (bi_ [1] r_ r_ (rneed_e hpp.2 _) (T_ (R_ (M_ r_ (M_ r_ (o_ r_ (ow_add r_ r_ (o_ r_ (bi_ [0] r_ r_ (rdeep_e hpp.2 g_ _) (T_ (R_ (M_ r_ (A_ 1 r_ (o_ r_ (bq_ r_ r_ b_ r_ r_ b_ (o_ r_ (bu_ r_ r_ r_ r_ r_ (M_ r_ ?_))))))))))))))))))))
              refine o_ r_ (ow_add r_ r_ (S_ 2 r_ (E_ r_ (T_ (ar_ (az_ (aw_ (jq_row 0 A5 rfl ?_ ?_))))))))
              · (repeat (first | exact RowLe.nil | refine RowLe.cons (CLe.any _) ?_))
              · exact jq_retRowT rfl rfl rfl rfl rfl 0 rfl (fun K h => by rw [e] at h; exact h (pp.1, _) ⟨by omega, hpp.2⟩) (bc_ 1 r_ sub_end)
            | ok x c =>
              have hbd := sx_bd _ _ _ _ _ hr
              have hdep := sx_dep _ _ _ _ _ hr
              have hd2 : (T.ix (txtAt l a) x).dep = x.dep + 1 := rfl
              rw [hr] at con
              cases h5 : isA l c W93 with
              | true =>
                have hlt5 := isA_lt h5
                by_cases hd : fr = false ∧ 8 < (T.ix (txtAt l a) x).dep
                · have e : sx fr l (F + 1) 3 a = .er 4 c := by rw [sx, if_pos (Nat.le_refl _), if_neg h1', if_neg h2', if_pos h3, if_pos h4, hr]; dsimp only; rw [if_pos h5]; exact dpR_er hd _
                  obtain ⟨rfl, hd⟩ := hd
                  rw [hd2] at hd
                  have hD := rdeep_n (b := b) (ln := 0) hl ((x.dep : Int) + 1) (by omega) (show 1 ≤ c + 1 by omega) (by omega)
                  rw [show c + 1 - 1 = c by omega] at hD
                  refine R_ (o_ r_ (bl_ r_ r_ (fun bl => E_ r_ (T_ (B_ (R_ (M_ r_ (N_ r_ (F_ r_ (L_ 1 r_ (o_ r_ (bx_ r_ r_ (E_ r_ (T_ (ap_ r_ r_ (am_ (ao_ r_ r_ k_ k_ ?_)))))))))))))))))
                  refine yM_ r_ (yN_ r_ (yF_ r_ (yL_ 1 r_ (yM_ r_ (yN_ r_ (yF_ r_ (yL_ 1 r_ (aa_ (fun c => br_ r_ (fun hlen => p_)) (aa_ (fun c => bw_ r_ r_ p_) (yM_ r_ (ab_ r_ t_ (fun c => bd_ r_ p_) (ab_ r_ t_ (fun c => bh_ r_ p_) (ab_ r_ t_ (fun c => bf_ r_ r_ r_ b_ p_) (ab_ r_ t_ (fun c => bg_ 1 r_ r_ r_ r_ p_) (ab_ r_ t_ (fun c => bd_ r_ p_) ?_)))))))))))))))
                  refine ab_ r_ t_ (fun c => bh_ r_ p_) (ab_ r_ t_ (fun c => bf_ r_ r_ r_ b_ p_) (ab_ r_ t_ (fun c => bg_ 1 r_ r_ r_ r_ p_) (ab_ r_ t_ (fun c => cc_ r_ r_ g_ r_ r_ b_ p_) (ab_ r_ t_ (fun c => cf_ r_ r_ r_ b_ r_ b_ p_) (ab_ r_ t_ (fun c => cb_ r_ r_ p_) (ab_ r_ t_ (fun c => bn_ r_ r_ p_) (aa_ (fun c => bp_ r_ t_ r_ p_) (yE_ r_ (ae_ (al_ (ap_ r_ w_ (R_ (M_ r_ (o_ r_ (bi_ [1] r_ r_ (rskip_n ha h2) (E_ r_ ?_))))))))))))))))
                  refine T_ (ap_ r_ r_ (R_ (M_ r_ (o_ r_ (bi_ [0] r_ r_ (risNm_y ha h3) (E_ r_ (T_ (aq_ r_ r_ (R_ (M_ r_ (o_ r_ (bi_ [0] r_ r_ (rname_y hl ha h3) (E_ r_ (T_ (am_ (R_ (M_ r_ ?_)))))))))))))))))
                  refine o_ r_ (bi_ [0] r_ r_ (rskip_y hl g_ h4) (o_ r_ (cd_ r_ (T_ (ap_ r_ r_ (as_ (al_ (R_ (M_ r_ (o_ r_ (bi_ [0] r_ r_ (con) (M_ r_ (X_ r_ (X_ r_ (o_ r_ (bl_ r_ r_ (fun bl => S_ 0 r_ (E_ r_ (T_ ?_)))))))))))))))))))
                  refine R_ (M_ r_ (o_ r_ (bi_ [1] r_ r_ (rneed_y hl g_ h5) (T_ (R_ (M_ r_ (M_ r_ (o_ r_ (bj_ r_ r_ g_ (o_ r_ (bi_ [0] r_ r_ (hD) (T_ (R_ (M_ r_ (A_ 1 r_ (o_ r_ (bq_ r_ r_ b_ r_ r_ b_ (o_ r_ (bu_ r_ r_ r_ r_ r_ (M_ r_ ?_))))))))))))))))))))
                  refine o_ r_ (bj_ r_ r_ g_ (S_ 2 r_ (E_ r_ (T_ (ar_ (az_ (aw_ (jq_row 0 A5 rfl ?_ ?_))))))))
                  · (repeat (first | exact RowLe.nil | refine RowLe.cons (CLe.any _) ?_))
                  · exact jq_retRowT rfl rfl rfl rfl rfl 0 rfl (fun K h => by rw [e] at h; exact h (c + 1, _) ⟨by omega, by decide⟩) (bc_ 1 r_ sub_end)
                · have e : sx fr l (F + 1) 3 a = .ok (.ix (txtAt l a) x) (c + 1) := by rw [sx, if_pos (Nat.le_refl _), if_neg h1', if_neg h2', if_pos h3, if_pos h4, hr]; dsimp only; rw [if_pos h5]; exact dpR_ok hd _
                  rw [hd2] at hd
                  refine R_ (o_ r_ (bl_ r_ r_ (fun bl => E_ r_ (T_ (B_ (R_ (M_ r_ (N_ r_ (F_ r_ (L_ 1 r_ (o_ r_ (bx_ r_ r_ (E_ r_ (T_ (ap_ r_ r_ (am_ (ao_ r_ r_ k_ k_ ?_)))))))))))))))))
                  refine yM_ r_ (yN_ r_ (yF_ r_ (yL_ 1 r_ (yM_ r_ (yN_ r_ (yF_ r_ (yL_ 1 r_ (aa_ (fun c => br_ r_ (fun hlen => p_)) (aa_ (fun c => bw_ r_ r_ p_) (yM_ r_ (ab_ r_ t_ (fun c => bd_ r_ p_) (ab_ r_ t_ (fun c => bh_ r_ p_) (ab_ r_ t_ (fun c => bf_ r_ r_ r_ b_ p_) (ab_ r_ t_ (fun c => bg_ 1 r_ r_ r_ r_ p_) (ab_ r_ t_ (fun c => bd_ r_ p_) ?_)))))))))))))))
                  refine ab_ r_ t_ (fun c => bh_ r_ p_) (ab_ r_ t_ (fun c => bf_ r_ r_ r_ b_ p_) (ab_ r_ t_ (fun c => bg_ 1 r_ r_ r_ r_ p_) (ab_ r_ t_ (fun c => cc_ r_ r_ g_ r_ r_ b_ p_) (ab_ r_ t_ (fun c => cf_ r_ r_ r_ b_ r_ b_ p_) (ab_ r_ t_ (fun c => cb_ r_ r_ p_) (ab_ r_ t_ (fun c => bn_ r_ r_ p_) (aa_ (fun c => bp_ r_ t_ r_ p_) (yE_ r_ (ae_ (al_ (ap_ r_ w_ (R_ (M_ r_ (o_ r_ (bi_ [1] r_ r_ (rskip_n ha h2) (E_ r_ ?_))))))))))))))))
                  refine T_ (ap_ r_ r_ (R_ (M_ r_ (o_ r_ (bi_ [0] r_ r_ (risNm_y ha h3) (E_ r_ (T_ (aq_ r_ r_ (R_ (M_ r_ (o_ r_ (bi_ [0] r_ r_ (rname_y hl ha h3) (E_ r_ (T_ (am_ (R_ (M_ r_ ?_)))))))))))))))))
                  refine o_ r_ (bi_ [0] r_ r_ (rskip_y hl g_ h4) (o_ r_ (cd_ r_ (T_ (ap_ r_ r_ (as_ (al_ (R_ (M_ r_ (o_ r_ (bi_ [0] r_ r_ (con) (M_ r_ (X_ r_ (X_ r_ (o_ r_ (bl_ r_ r_ (fun bl => S_ 0 r_ (E_ r_ (T_ ?_)))))))))))))))))))
                  refine R_ (M_ r_ (o_ r_ (bi_ [1] r_ r_ (rneed_y hl g_ h5) (T_ (R_ (M_ r_ (M_ r_ (o_ r_ (bj_ r_ r_ g_ (o_ r_ (bi_ [0] rfl rfl (rdeep_y _ (fun hh => hd ⟨hh.1, by omega⟩)) (T_ (R_ (M_ r_ (A_ 1 r_ (o_ r_ (bq_ r_ r_ b_ r_ r_ b_ (o_ r_ (bu_ r_ r_ r_ r_ r_ (M_ r_ ?_))))))))))))))))))))
                  refine o_ r_ (bj_ r_ r_ g_ (S_ 2 r_ (E_ r_ (T_ (ar_ (az_ (aw_ (jq_row 0 (T.ix (txtAt l a) x).row' rfl ?_ ?_))))))))
                  · (repeat (first | exact RowLe.nil | refine RowLe.cons (CLe.refl _) ?_ | refine RowLe.cons CLe.nil ?_))
                    exact RowLe.cons (CLe.eq (show C.list [x.row'] = C.list [x.row] by rw [T.row_eq])) .nil
                  · exact jq_retRowT rfl rfl rfl rfl rfl 0 rfl (fun K h => by rw [e, LvPost, hd2] at h; exact h) (bc_ 1 r_ sub_end)
              | false =>
                have h5' : ¬ isA l c W93 = true := by rw [h5]; decide
                have e : sx fr l (F + 1) 3 a = .er 1 c := by rw [sx, if_pos (Nat.le_refl _), if_neg h1', if_neg h2', if_pos h3, if_pos h4, hr]; exact if_neg h5'
                refine R_ (o_ r_ (bl_ r_ r_ (fun bl => E_ r_ (T_ (B_ (R_ (M_ r_ (N_ r_ (F_ r_ (L_ 1 r_ (o_ r_ (bx_ r_ r_ (E_ r_ (T_ (ap_ r_ r_ (am_ (ao_ r_ r_ k_ k_ ?_)))))))))))))))))
                refine yM_ r_ (yN_ r_ (yF_ r_ (yL_ 1 r_ (yM_ r_ (yN_ r_ (yF_ r_ (yL_ 1 r_ (aa_ (fun c => br_ r_ (fun hlen => p_)) (aa_ (fun c => bw_ r_ r_ p_) (yM_ r_ (ab_ r_ t_ (fun c => bd_ r_ p_) (ab_ r_ t_ (fun c => bh_ r_ p_) (ab_ r_ t_ (fun c => bf_ r_ r_ r_ b_ p_) (ab_ r_ t_ (fun c => bg_ 1 r_ r_ r_ r_ p_) (ab_ r_ t_ (fun c => bd_ r_ p_) ?_)))))))))))))))
                refine ab_ r_ t_ (fun c => bh_ r_ p_) (ab_ r_ t_ (fun c => bf_ r_ r_ r_ b_ p_) (ab_ r_ t_ (fun c => bg_ 1 r_ r_ r_ r_ p_) (ab_ r_ t_ (fun c => cc_ r_ r_ g_ r_ r_ b_ p_) (ab_ r_ t_ (fun c => cf_ r_ r_ r_ b_ r_ b_ p_) (ab_ r_ t_ (fun c => cb_ r_ r_ p_) (ab_ r_ t_ (fun c => bn_ r_ r_ p_) (aa_ (fun c => bp_ r_ t_ r_ p_) (yE_ r_ (ae_ (al_ (ap_ r_ w_ (R_ (M_ r_ (o_ r_ (bi_ [1] r_ r_ (rskip_n ha h2) (E_ r_ ?_))))))))))))))))
                refine T_ (ap_ r_ r_ (R_ (M_ r_ (o_ r_ (bi_ [0] r_ r_ (risNm_y ha h3) (E_ r_ (T_ (aq_ r_ r_ (R_ (M_ r_ (o_ r_ (bi_ [0] r_ r_ (rname_y hl ha h3) (E_ r_ (T_ (am_ (R_ (M_ r_ ?_)))))))))))))))))
                refine o_ r_ (bi_ [0] r_ r_ (rskip_y hl g_ h4) (o_ r_ (cd_ r_ (T_ (ap_ r_ r_ (as_ (al_ (R_ (M_ r_ (o_ r_ (bi_ [0] r_ r_ (con) (M_ r_ (X_ r_ (X_ r_ (o_ r_ (bl_ r_ r_ (fun bl => S_ 0 r_ (E_ r_ (T_ ?_)))))))))))))))))))
                refine R_ (M_ r_ (o_ r_ (bi_ [1] r_ r_ (rneed_n hl g_ h5) (T_ (R_ (M_ r_ (M_ r_ (o_ r_ (bj_ r_ r_ g_ (o_ r_ (bi_ [0] rfl rfl (rdeep_e (by decide) g_ _) (T_ (R_ (M_ r_ (A_ 1 r_ (o_ r_ (bq_ r_ r_ b_ r_ r_ b_ (o_ r_ (bu_ r_ r_ r_ r_ r_ (M_ r_ ?_))))))))))))))))))))
                refine o_ r_ (bj_ r_ r_ g_ (S_ 2 r_ (E_ r_ (T_ (ar_ (az_ (aw_ (jq_row 0 A5 rfl ?_ ?_))))))))
                · (repeat (first | exact RowLe.nil | refine RowLe.cons (CLe.any _) ?_))
                · exact jq_retRowT rfl rfl rfl rfl rfl 0 rfl (fun K h => by rw [e] at h; exact h (c, _) ⟨by omega, by decide⟩) (bc_ 1 r_ sub_end)
          | false =>
            have h4' : ¬ isA l (a + 1) W91 = true := by rw [h4]; decide
            have e : sx fr l (F + 1) 3 a = .ok (.nm (txtAt l a)) (a + 1) := by rw [sx, if_pos (Nat.le_refl _), if_neg h1', if_neg h2', if_pos h3, if_neg h4']
            refine R_ (o_ r_ (bl_ r_ r_ (fun bl => E_ r_ (T_ (B_ (R_ (M_ r_ (N_ r_ (F_ r_ (L_ 1 r_ (o_ r_ (bx_ r_ r_ (E_ r_ (T_ (ap_ r_ r_ (am_ (ao_ r_ r_ k_ k_ ?_)))))))))))))))))
            refine yM_ r_ (yN_ r_ (yF_ r_ (yL_ 1 r_ (yM_ r_ (yN_ r_ (yF_ r_ (yL_ 1 r_ (aa_ (fun c => br_ r_ (fun hlen => p_)) (aa_ (fun c => bw_ r_ r_ p_) (yM_ r_ (ab_ r_ t_ (fun c => bd_ r_ p_) (ab_ r_ t_ (fun c => bh_ r_ p_) (ab_ r_ t_ (fun c => bf_ r_ r_ r_ b_ p_) (ab_ r_ t_ (fun c => bg_ 1 r_ r_ r_ r_ p_) (ab_ r_ t_ (fun c => bd_ r_ p_) ?_)))))))))))))))
            refine ab_ r_ t_ (fun c => bh_ r_ p_) (ab_ r_ t_ (fun c => bf_ r_ r_ r_ b_ p_) (ab_ r_ t_ (fun c => bg_ 1 r_ r_ r_ r_ p_) (ab_ r_ t_ (fun c => cc_ r_ r_ g_ r_ r_ b_ p_) (ab_ r_ t_ (fun c => cf_ r_ r_ r_ b_ r_ b_ p_) (ab_ r_ t_ (fun c => cb_ r_ r_ p_) (ab_ r_ t_ (fun c => bn_ r_ r_ p_) (aa_ (fun c => bp_ r_ t_ r_ p_) (yE_ r_ (ae_ (al_ (ap_ r_ w_ (R_ (M_ r_ (o_ r_ (bi_ [1] r_ r_ (rskip_n ha h2) (E_ r_ ?_))))))))))))))))
            refine T_ (ap_ r_ r_ (R_ (M_ r_ (o_ r_ (bi_ [0] r_ r_ (risNm_y ha h3) (E_ r_ (T_ (aq_ r_ r_ (R_ (M_ r_ (o_ r_ (bi_ [0] r_ r_ (rname_y hl ha h3) (E_ r_ (T_ (am_ (R_ (M_ r_ ?_)))))))))))))))))
            refine o_ r_ (bi_ [0] r_ r_ (rskip_n g_ h4) (o_ r_ (cd_ r_ (T_ (aq_ r_ r_ (R_ (M_ r_ (o_ r_ (bu_ r_ r_ r_ r_ r_ (S_ 1 r_ (E_ r_ (T_ (ar_ (aw_ (az_ (aw_ (jq_row 0 (T.nm (txtAt l a)).row' rfl ?_ ?_)))))))))))))))))
            · (repeat (first | exact RowLe.nil | refine RowLe.cons (CLe.refl _) ?_ | refine RowLe.cons CLe.nil ?_))
            · exact jq_retRowT rfl rfl rfl rfl rfl 0 rfl (fun K h => by rw [e] at h; exact h) (bc_ 1 r_ sub_end)
        | false =>
          have h3' : ¬ isNm l a = true := by rw [h3]; decide
          cases h4 : isA l a W40 with
          | true =>
            have con := hX b (a + 1) (by omega) (by unfold need; omega)
            cases hr : sx fr l F 0 (a + 1) with
            | er code p =>
              have e : sx fr l (F + 1) 3 a = .er code p := by rw [sx, if_pos (Nat.le_refl _), if_neg h1', if_neg h2', if_neg h3', if_pos h4, hr]
              rw [hr] at con
              refine R_ (o_ r_ (bl_ r_ r_ (fun bl => E_ r_ (T_ (B_ (R_ (M_ r_ (N_ r_ (F_ r_ (L_ 1 r_ (o_ r_ (bx_ r_ r_ (E_ r_ (T_ (ap_ r_ r_ (am_ (ao_ r_ r_ k_ k_ ?_)))))))))))))))))
              refine yM_ r_ (yN_ r_ (yF_ r_ (yL_ 1 r_ (yM_ r_ (yN_ r_ (yF_ r_ (yL_ 1 r_ (aa_ (fun c => br_ r_ (fun hlen => p_)) (aa_ (fun c => bw_ r_ r_ p_) (yM_ r_ (ab_ r_ t_ (fun c => bd_ r_ p_) (ab_ r_ t_ (fun c => bh_ r_ p_) (ab_ r_ t_ (fun c => bf_ r_ r_ r_ b_ p_) (ab_ r_ t_ (fun c => bg_ 1 r_ r_ r_ r_ p_) (ab_ r_ t_ (fun c => bd_ r_ p_) ?_)))))))))))))))
              refine ab_ r_ t_ (fun c => bh_ r_ p_) (ab_ r_ t_ (fun c => bf_ r_ r_ r_ b_ p_) (ab_ r_ t_ (fun c => bg_ 1 r_ r_ r_ r_ p_) (ab_ r_ t_ (fun c => cc_ r_ r_ g_ r_ r_ b_ p_) (ab_ r_ t_ (fun c => cf_ r_ r_ r_ b_ r_ b_ p_) (ab_ r_ t_ (fun c => cb_ r_ r_ p_) (ab_ r_ t_ (fun c => bn_ r_ r_ p_) (aa_ (fun c => bp_ r_ t_ r_ p_) (yE_ r_ (ae_ (al_ (ap_ r_ w_ (R_ (M_ r_ (o_ r_ (bi_ [1] r_ r_ (rskip_n ha h2) (E_ r_ ?_))))))))))))))))
              refine T_ (ap_ r_ r_ (R_ (M_ r_ (o_ r_ (bi_ [0] r_ r_ (risNm_n ha h3) (E_ r_ (T_ (ap_ r_ r_ (as_ (ay_ (al_ (R_ (M_ r_ (o_ r_ (bi_ [0] r_ r_ (rneed_y hl ha h4) (T_ (R_ ?_)))))))))))))))))
              refine M_ r_ (o_ r_ (bt_ [0] rfl rfl (con) (fun pp hpp => M_ r_ (X_ r_ (X_ r_ (o_ r_ (bl_ r_ r_ (fun bl => S_ 0 r_ (E_ r_ (T_ (R_ (M_ r_ (o_ r_ (bi_ [1] r_ r_ (rneed_e hpp.2 _) (T_ (R_ (A_ 1 r_ (M_ r_ ?_))))))))))))))))))
              refine S_ 2 r_ (E_ r_ (T_ (ar_ (jq_row 0 A5 rfl ?_ ?_))))
              · (repeat (first | exact RowLe.nil | refine RowLe.cons (CLe.any _) ?_))
              · exact jq_retRowT rfl rfl rfl rfl rfl 0 rfl (fun K h => by rw [e] at h; exact h (pp.1, _) ⟨by omega, hpp.2⟩) (bc_ 1 r_ sub_end)
            | ok x c =>
              have hbd := sx_bd _ _ _ _ _ hr
              rw [hr] at con
              cases h5 : isA l c W41 with
              | true =>
                have e : sx fr l (F + 1) 3 a = .ok x (c + 1) := by rw [sx, if_pos (Nat.le_refl _), if_neg h1', if_neg h2', if_neg h3', if_pos h4, hr]; exact if_pos h5
                refine R_ (o_ r_ (bl_ r_ r_ (fun bl => E_ r_ (T_ (B_ (R_ (M_ r_ (N_ r_ (F_ r_ (L_ 1 r_ (o_ r_ (bx_ r_ r_ (E_ r_ (T_ (ap_ r_ r_ (am_ (ao_ r_ r_ k_ k_ ?_)))))))))))))))))
                refine yM_ r_ (yN_ r_ (yF_ r_ (yL_ 1 r_ (yM_ r_ (yN_ r_ (yF_ r_ (yL_ 1 r_ (aa_ (fun c => br_ r_ (fun hlen => p_)) (aa_ (fun c => bw_ r_ r_ p_) (yM_ r_ (ab_ r_ t_ (fun c => bd_ r_ p_) (ab_ r_ t_ (fun c => bh_ r_ p_) (ab_ r_ t_ (fun c => bf_ r_ r_ r_ b_ p_) (ab_ r_ t_ (fun c => bg_ 1 r_ r_ r_ r_ p_) (ab_ r_ t_ (fun c => bd_ r_ p_) ?_)))))))))))))))
                refine ab_ r_ t_ (fun c => bh_ r_ p_) (ab_ r_ t_ (fun c => bf_ r_ r_ r_ b_ p_) (ab_ r_ t_ (fun c => bg_ 1 r_ r_ r_ r_ p_) (ab_ r_ t_ (fun c => cc_ r_ r_ g_ r_ r_ b_ p_) (ab_ r_ t_ (fun c => cf_ r_ r_ r_ b_ r_ b_ p_) (ab_ r_ t_ (fun c => cb_ r_ r_ p_) (ab_ r_ t_ (fun c => bn_ r_ r_ p_) (aa_ (fun c => bp_ r_ t_ r_ p_) (yE_ r_ (ae_ (al_ (ap_ r_ w_ (R_ (M_ r_ (o_ r_ (bi_ [1] r_ r_ (rskip_n ha h2) (E_ r_ ?_))))))))))))))))
                refine T_ (ap_ r_ r_ (R_ (M_ r_ (o_ r_ (bi_ [0] r_ r_ (risNm_n ha h3) (E_ r_ (T_ (ap_ r_ r_ (as_ (ay_ (al_ (R_ (M_ r_ (o_ r_ (bi_ [0] r_ r_ (rneed_y hl ha h4) (T_ (R_ ?_)))))))))))))))))
                refine M_ r_ (o_ r_ (bi_ [0] r_ r_ (con) (M_ r_ (X_ r_ (X_ r_ (o_ r_ (bl_ r_ r_ (fun bl => S_ 0 r_ (E_ r_ (T_ (R_ (M_ r_ (o_ r_ (bi_ [1] r_ r_ (rneed_y hl g_ h5) (T_ (R_ (A_ 1 r_ (M_ r_ ?_))))))))))))))))))
                exact S_ 2 r_ (E_ r_ (T_ (ar_ (jq_retRowT rfl rfl rfl rfl rfl 0 rfl (fun K h => by rw [e] at h; exact h) (bc_ 1 r_ sub_end)))))
              | false =>
                have h5' : ¬ isA l c W41 = true := by rw [h5]; decide
                have e : sx fr l (F + 1) 3 a = .er 1 c := by rw [sx, if_pos (Nat.le_refl _), if_neg h1', if_neg h2', if_neg h3', if_pos h4, hr]; exact if_neg h5'
                refine R_ (o_ r_ (bl_ r_ r_ (fun bl => E_ r_ (T_ (B_ (R_ (M_ r_ (N_ r_ (F_ r_ (L_ 1 r_ (o_ r_ (bx_ r_ r_ (E_ r_ (T_ (ap_ r_ r_ (am_ (ao_ r_ r_ k_ k_ ?_)))))))))))))))))
                refine yM_ r_ (yN_ r_ (yF_ r_ (yL_ 1 r_ (yM_ r_ (yN_ r_ (yF_ r_ (yL_ 1 r_ (aa_ (fun c => br_ r_ (fun hlen => p_)) (aa_ (fun c => bw_ r_ r_ p_) (yM_ r_ (ab_ r_ t_ (fun c => bd_ r_ p_) (ab_ r_ t_ (fun c => bh_ r_ p_) (ab_ r_ t_ (fun c => bf_ r_ r_ r_ b_ p_) (ab_ r_ t_ (fun c => bg_ 1 r_ r_ r_ r_ p_) (ab_ r_ t_ (fun c => bd_ r_ p_) ?_)))))))))))))))
                refine ab_ r_ t_ (fun c => bh_ r_ p_) (ab_ r_ t_ (fun c => bf_ r_ r_ r_ b_ p_) (ab_ r_ t_ (fun c => bg_ 1 r_ r_ r_ r_ p_) (ab_ r_ t_ (fun c => cc_ r_ r_ g_ r_ r_ b_ p_) (ab_ r_ t_ (fun c => cf_ r_ r_ r_ b_ r_ b_ p_) (ab_ r_ t_ (fun c => cb_ r_ r_ p_) (ab_ r_ t_ (fun c => bn_ r_ r_ p_) (aa_ (fun c => bp_ r_ t_ r_ p_) (yE_ r_ (ae_ (al_ (ap_ r_ w_ (R_ (M_ r_ (o_ r_ (bi_ [1] r_ r_ (rskip_n ha h2) (E_ r_ ?_))))))))))))))))
                refine T_ (ap_ r_ r_ (R_ (M_ r_ (o_ r_ (bi_ [0] r_ r_ (risNm_n ha h3) (E_ r_ (T_ (ap_ r_ r_ (as_ (ay_ (al_ (R_ (M_ r_ (o_ r_ (bi_ [0] r_ r_ (rneed_y hl ha h4) (T_ (R_ ?_)))))))))))))))))
                refine M_ r_ (o_ r_ (bi_ [0] r_ r_ (con) (M_ r_ (X_ r_ (X_ r_ (o_ r_ (bl_ r_ r_ (fun bl => S_ 0 r_ (E_ r_ (T_ (R_ (M_ r_ (o_ r_ (bi_ [1] r_ r_ (rneed_n hl g_ h5) (T_ (R_ (A_ 1 r_ (M_ r_ ?_))))))))))))))))))
                refine S_ 2 r_ (E_ r_ (T_ (ar_ (jq_row 0 A5 rfl ?_ ?_))))
                · (repeat (first | exact RowLe.nil | refine RowLe.cons (CLe.any _) ?_))
                · exact jq_retRowT rfl rfl rfl rfl rfl 0 rfl (fun K h => by rw [e] at h; exact h (c, _) ⟨by omega, by decide⟩) (bc_ 1 r_ sub_end)
          | false =>
            have h4' : ¬ isA l a W40 = true := by rw [h4]; decide
            have e : sx fr l (F + 1) 3 a = .er 1 a := by rw [sx, if_pos (Nat.le_refl _), if_neg h1', if_neg h2', if_neg h3', if_neg h4']
            refine R_ (o_ r_ (bl_ r_ r_ (fun bl => E_ r_ (T_ (B_ (R_ (M_ r_ (N_ r_ (F_ r_ (L_ 1 r_ (o_ r_ (bx_ r_ r_ (E_ r_ (T_ (ap_ r_ r_ (am_ (ao_ r_ r_ k_ k_ ?_)))))))))))))))))
            refine yM_ r_ (yN_ r_ (yF_ r_ (yL_ 1 r_ (yM_ r_ (yN_ r_ (yF_ r_ (yL_ 1 r_ (aa_ (fun c => br_ r_ (fun hlen => p_)) (aa_ (fun c => bw_ r_ r_ p_) (yM_ r_ (ab_ r_ t_ (fun c => bd_ r_ p_) (ab_ r_ t_ (fun c => bh_ r_ p_) (ab_ r_ t_ (fun c => bf_ r_ r_ r_ b_ p_) (ab_ r_ t_ (fun c => bg_ 1 r_ r_ r_ r_ p_) (ab_ r_ t_ (fun c => bd_ r_ p_) ?_)))))))))))))))
            refine ab_ r_ t_ (fun c => bh_ r_ p_) (ab_ r_ t_ (fun c => bf_ r_ r_ r_ b_ p_) (ab_ r_ t_ (fun c => bg_ 1 r_ r_ r_ r_ p_) (ab_ r_ t_ (fun c => cc_ r_ r_ g_ r_ r_ b_ p_) (ab_ r_ t_ (fun c => cf_ r_ r_ r_ b_ r_ b_ p_) (ab_ r_ t_ (fun c => cb_ r_ r_ p_) (ab_ r_ t_ (fun c => bn_ r_ r_ p_) (aa_ (fun c => bp_ r_ t_ r_ p_) (yE_ r_ (ae_ (al_ (ap_ r_ w_ (R_ (M_ r_ (o_ r_ (bi_ [1] r_ r_ (rskip_n ha h2) (E_ r_ ?_))))))))))))))))
            refine T_ (ap_ r_ r_ (R_ (M_ r_ (o_ r_ (bi_ [0] r_ r_ (risNm_n ha h3) (E_ r_ (T_ (ap_ r_ r_ (as_ (ay_ (al_ (R_ (M_ r_ (o_ r_ (bi_ [0] r_ r_ (rneed_n hl ha h4) (T_ (R_ ?_)))))))))))))))))
            refine M_ r_ (o_ r_ (bi_ [0] rfl rfl (rexpr_e (by decide)) (M_ r_ (X_ r_ (X_ r_ (o_ r_ (bl_ r_ r_ (fun bl => S_ 0 r_ (E_ r_ (T_ (R_ (M_ r_ (o_ r_ (bi_ [1] rfl rfl (rneed_e (by decide) _) (T_ (R_ (A_ 1 r_ (M_ r_ ?_))))))))))))))))))
            refine S_ 2 r_ (E_ r_ (T_ (ar_ (jq_row 0 A5 rfl ?_ ?_))))
            · (repeat (first | exact RowLe.nil | refine RowLe.cons (CLe.any _) ?_))
            · exact jq_retRowT rfl rfl rfl rfl rfl 0 rfl (fun K h => by rw [e] at h; exact h (a, _) ⟨by omega, by decide⟩) (bc_ 1 r_ sub_end)
    · have h2 := isA_end W45 hlt
      have h3 := isNm_end hlt
      have h4 := isA_end W40 hlt
      have e : sx fr l (F + 1) 3 a = .er 1 a := by rw [sx, if_pos (Nat.le_refl _), if_neg h1', if_neg (by rw [h2]; decide), if_neg (by rw [h3]; decide), if_neg (by rw [h4]; decide)]
      refine R_ (o_ r_ (bl_ r_ r_ (fun bl => E_ r_ (T_ (B_ (R_ (M_ r_ (N_ r_ (F_ r_ (L_ 1 r_ (o_ r_ (bx_ r_ r_ (E_ r_ (T_ (ap_ r_ r_ (am_ (ao_ r_ r_ k_ k_ ?_)))))))))))))))))
      refine yM_ r_ (yN_ r_ (yF_ r_ (yL_ 1 r_ (yM_ r_ (yN_ r_ (yF_ r_ (yL_ 1 r_ (aa_ (fun c => br_ r_ (fun hlen => p_)) (aa_ (fun c => bw_ r_ r_ p_) (yM_ r_ (ac_ r_ v_ (ac_ r_ v_ (ac_ r_ v_ (ac_ r_ v_ (ac_ r_ v_ ?_)))))))))))))))
      refine ac_ r_ v_ (ac_ r_ v_ (ac_ r_ v_ (ac_ r_ v_ (ac_ r_ v_ (ac_ r_ v_ (ac_ r_ v_ (aa_ (fun c => bv_ r_ v_ r_ p_) (yE_ r_ (ae_ (al_ (ap_ r_ r_ (R_ (M_ r_ (o_ r_ (bi_ [1] r_ r_ (rskip_n ha h2) (E_ r_ ?_))))))))))))))))
      refine T_ (ap_ r_ r_ (R_ (M_ r_ (o_ r_ (bi_ [0] r_ r_ (risNm_n ha h3) (E_ r_ (T_ (ap_ r_ r_ (as_ (ay_ (al_ (R_ (M_ r_ (o_ r_ (bi_ [0] r_ r_ (rneed_n hl ha h4) (T_ (R_ ?_)))))))))))))))))
      refine M_ r_ (o_ r_ (bi_ [0] rfl rfl (rexpr_e (by decide)) (M_ r_ (X_ r_ (X_ r_ (o_ r_ (bl_ r_ r_ (fun bl => S_ 0 r_ (E_ r_ (T_ (R_ (M_ r_ (o_ r_ (bi_ [1] rfl rfl (rneed_e (by decide) _) (T_ (R_ (A_ 1 r_ (M_ r_ ?_))))))))))))))))))
      refine S_ 2 r_ (E_ r_ (T_ (ar_ (jq_row 0 A5 rfl ?_ ?_))))
      · (repeat (first | exact RowLe.nil | refine RowLe.cons (CLe.any _) ?_))
      · exact jq_retRowT rfl rfl rfl rfl rfl 0 rfl (fun K h => by rw [e] at h; exact h (a, _) ⟨by omega, by decide⟩) (bc_ 1 r_ sub_end)
omit hl in
theorem expr_of (F : Nat) (hL : LvP l fr F) : XpP l fr F := by
  intro b a ha hN
  have con := hL b 0 a (by omega) ha hN
  refine con_intro Tryz.func157 rfl rfl (Nat.le_of_ble_eq_true rfl) (fun c hc => ?_)
  cases e : sx fr l F 0 a with
  | er code p =>
    rw [e] at con
    exact R_ (o_ r_ (bl_ r_ r_ (fun bl => E_ r_ (T_ (R_ (M_ r_ (o_ r_ (bt_ [1] rfl rfl (con) (fun pp hpp => X_ r_ (X_ r_ (S_ 1 r_ (E_ r_ (T_ (ar_ (jq_retRowT rfl rfl rfl rfl rfl 0 rfl (fun K h => h (_, _) hpp) (bc_ 1 r_ sub_end))))))))))))))))
  | ok x c =>
    rw [e] at con
    exact R_ (o_ r_ (bl_ r_ r_ (fun bl => E_ r_ (T_ (R_ (M_ r_ (o_ r_ (bi_ [1] r_ r_ (con) (X_ r_ (X_ r_ (S_ 1 r_ (E_ r_ (T_ (ar_ (jq_retRowT rfl rfl rfl rfl rfl 0 rfl (fun K h => h) (bc_ 1 r_ sub_end))))))))))))))))
end
end Go.Proofs.YtamajcgdfjeehaaGreatDoor
end

section
namespace Go.Proofs.YtamajcgdfjeehaaGreatDoor
open Go.Vc
attribute [local irreducible] JL JC JQ OpWp Con ConN Pan ConE OpPan hasW idxW isA isNum isNm numAt txtAt lineAt opAt lx lpx sx sxp
set_option maxHeartbeats 8000000

theorem sxp_none {fr : Bool} {l : List Tok} {L : List ByteArray} {sub : Nat → R T} {a : Nat} (h : opAt l L a = none) (m : Nat) (x : T) : sxp fr l L sub m x a = .ok x a := by cases m <;> simp [sxp, h]
abbrev Lix := (T × Nat × Nat × Nat) ⊕ (Nat × Int × Nat × Int × Nat)
def LI (l : List Tok) (fr : Bool) (F k a : Nat) (r : R T) : Lix → Prop
  | .inl (t, c, m, n) => (a < c ∧ c ≤ l.length) ∧ t.dep ≤ c - a ∧ n ≤ c ∧ (k = 0 → m + n = 1) ∧ (¬ k = 0 → l.length - c ≤ m) ∧ r = sxp fr l (opsL k) (sx fr l F (k + 1)) m t c
  | .inr (c, _, n, code, p) => c ≤ l.length ∧ n ≤ l.length + 1 ∧ ¬ code = 0 ∧ r = .er code p
def Lenv (k b bR bX : Nat) : Lix → Env
  | .inl (t, _, _, n) => [(0, Ptr b), (1, In .i64 (k : Int)), (4, Ptr bR), (6, .cell (.list ((opsL k).map Wrow))), (7, .cell (.list ((opnL k).map Irow))), (8, Ptr bX), (9, In .i64 (t.dep : Int)), (10, In .i64 (n : Int))]
  | .inr (_, d, n, _, _) => [(0, Ptr b), (1, In .i64 (k : Int)), (4, Ptr bR), (6, .cell (.list ((opsL k).map Wrow))), (7, .cell (.list ((opnL k).map Irow))), (8, Ptr bX), (9, In .i64 d), (10, In .i64 (n : Int))]
def Lch (l : List Tok) (fr : Bool) (b bR bX : Nat) : Lix → List Ch
  | .inl (t, c, _, _) => [.blk bR 59 Z5, .blk bX 59 t.row', Rz b l c 0 0 fr]
  | .inr (c, _, _, code, p) => [.blk bR 59 Z5, .blk bX 59 A5, Rz b l c (lineAt l p) code fr]
def Lmu (l : List Tok) : Lix → Nat
  | .inl (_, c, _, _) => l.length - c + 1
  | .inr _ => 0

section
variable {l : List Tok} {fr : Bool} (hl : l.length ≤ 1000000)
theorem level_top (F : Nat) (hF : FcP l fr F) (b a : Nat) (ha : a ≤ l.length) (hN : need l 3 a ≤ F) : Con Tryz.prog 170 [Ptr b, In .i64 3] [Rz b l a 0 0 fr] (LvPost b l fr (sx fr l F 3 a)) := by
  have con := hF b a ha hN
  refine con_intro Tryz.func170 rfl rfl (Nat.le_of_ble_eq_true rfl) (fun c hc => ?_)
  cases e : sx fr l F 3 a with
  | er code p =>
    rw [e] at con
    refine R_ (o_ r_ (bl_ r_ r_ (fun bl => E_ r_ (T_ (R_ (o_ r_ (bq_ r_ r_ b_ r_ r_ b_ (o_ r_ (bq_ r_ r_ b_ r_ r_ b_ (E_ r_ (E_ r_ (T_ (am_ (R_ (M_ r_ (T_ (au_ (R_ ?_))))))))))))))))))
    refine o_ r_ (bn_ r_ r_ (E_ r_ (T_ (ap_ r_ r_ (R_ (o_ r_ (bn_ r_ r_ (E_ r_ (T_ (ap_ r_ r_ (R_ (o_ r_ (bn_ r_ r_ (E_ r_ (T_ (aq_ r_ x_ (R_ (M_ r_ ?_))))))))))))))))))
    exact o_ r_ (bt_ [1] rfl rfl (con) (fun pp hpp => X_ r_ (X_ r_ (S_ 1 r_ (E_ r_ (T_ (ar_ (az_ (aw_ (jq_retRowT rfl rfl rfl rfl rfl 0 rfl (fun K h => h (_, _) hpp) (bc_ 1 r_ sub_end)))))))))))
  | ok x c =>
    rw [e] at con
    refine R_ (o_ r_ (bl_ r_ r_ (fun bl => E_ r_ (T_ (R_ (o_ r_ (bq_ r_ r_ b_ r_ r_ b_ (o_ r_ (bq_ r_ r_ b_ r_ r_ b_ (E_ r_ (E_ r_ (T_ (am_ (R_ (M_ r_ (T_ (au_ (R_ ?_))))))))))))))))))
    refine o_ r_ (bn_ r_ r_ (E_ r_ (T_ (ap_ r_ r_ (R_ (o_ r_ (bn_ r_ r_ (E_ r_ (T_ (ap_ r_ r_ (R_ (o_ r_ (bn_ r_ r_ (E_ r_ (T_ (aq_ r_ x_ (R_ (M_ r_ ?_))))))))))))))))))
    exact o_ r_ (bi_ [1] r_ r_ (con) (X_ r_ (X_ r_ (S_ 1 r_ (E_ r_ (T_ (ar_ (az_ (aw_ (jq_retRowT rfl rfl rfl rfl rfl 0 rfl (fun K h => h) (bc_ 1 r_ sub_end)))))))))))
include hl
theorem level_step (F k b a : Nat) (hk : k = 0 ∨ k = 1 ∨ k = 2) (hG : ∀ a, a ≤ l.length → need l (k + 1) a ≤ F → Con Tryz.prog 170 [Ptr b, In .i64 ((k : Int) + 1)] [Rz b l a 0 0 fr] (LvPost b l fr (sx fr l F (k + 1) a)))
    (ha : a ≤ l.length) (hN : need l k a ≤ F + 1) : Con Tryz.prog 170 [Ptr b, In .i64 (k : Int)] [Rz b l a 0 0 fr] (LvPost b l fr (sx fr l (F + 1) k a)) := by
  unfold need at hN
  have con := hG a ha (by unfold need; omega)
  refine con_intro Tryz.func170 rfl rfl (Nat.le_of_ble_eq_true rfl) (fun c hc => ?_)
  generalize hr : sx fr l (F + 1) k a = r
  rcases hk with hk | hk | hk
  · cases hs : sx fr l F (k + 1) a with
    | er code p =>
      have e : r = .er code p := by rw [← hr, sx, if_neg (by omega), hs]
      rw [hs] at con
      refine R_ (o_ r_ (bl_ r_ r_ (fun bl => E_ r_ (T_ (R_ (o_ r_ (bq_ r_ r_ b_ r_ r_ b_ (o_ r_ (bq_ r_ r_ b_ r_ r_ b_ (E_ r_ (E_ r_ (T_ (am_ (R_ (M_ r_ (T_ (au_ (R_ ?_))))))))))))))))))
      refine o_ r_ (bn_ r_ r_ (E_ r_ (T_ (ap_ r_ v_ (R_ (o_ r_ (bn_ r_ r_ (E_ r_ (T_ (ap_ r_ v_ (R_ (o_ r_ (bn_ r_ r_ (E_ r_ (T_ (ap_ r_ v_ (as_ (ay_ ?_))))))))))))))))))
      refine al_ (R_ (M_ r_ (M_ r_ (o_ r_ (bj_ r_ r_ g_ (o_ r_ (bt_ [1] rfl rfl (con) (fun pp hpp => M_ r_ (X_ r_ (X_ r_ (o_ r_ (bl_ r_ r_ (fun bl => S_ 0 r_ (E_ r_ (T_ (am_ (R_ (E_ r_ ?_))))))))))))))))))
      refine T_ (au_ ?_)
      rename_i bR
      refine jc_loopS [] (LI l fr F k a r) (Lenv k b bR bl) (Lch l fr b bR bl) (Lmu l) (.inr (pp.1, pp.2, 0, code, p)) ⟨hpp.1, Nat.zero_le _, hpp.2, e⟩ ?_ ?_ ?_
      · exact bc_ 2 r_ (bc_ 0 r_ (bc_ 0 r_ sub_end))
      · subst hk
        (repeat (first | exact True.intro | refine ⟨rfl, ?_⟩))
      · rintro (⟨t, c, m, n⟩ | ⟨c, d, n, code, p⟩) hI
        · obtain ⟨⟨hac, hcl⟩, hdep, hn, hm0, hm1, hI⟩ := hI
          refine jc_reset (Lenv k b bR bl (.inl (t, c, m, n))) [.blk bR 59 Z5, .blk bl 59 t.row', Rz b l c 0 0 fr] ?_ ⟨[0, 0, 0], [], rfl⟩ ?_
          · (repeat (first | exact True.intro | refine ⟨rfl, ?_⟩))
          cases ho : opAt l (opsL k) c with
          | none =>
            rw [sxp_none ho] at hI
            refine am_ (R_ (M_ r_ (M_ r_ (M_ r_ (o_ r_ (bi_ [2] r_ r_ (rnext_none hcl ho) (o_ r_ (bx_ r_ r_ (M_ r_ (ai_ r_ r_ b_ (ai_ r_ r_ b_ (ai_ r_ r_ b_ (aj_ r_ b_ (aj_ r_ b_ (ai_ r_ r_ b_ (o_ r_ (bv_ r_ r_ r_ (T_ ?_))))))))))))))))))
            exact ap_ r_ r_ (av_ (ax_ (ax_ (ba_ (al_ (R_ (A_ 2 r_ (M_ r_ (S_ 1 r_ (E_ r_ (T_ (ar_ (jq_retRowT rfl rfl rfl rfl rfl 0 rfl (fun K h => by rw [hI] at h; exact h) (bc_ 1 r_ sub_end))))))))))))))
          | some o =>
            have ho0 : ¬ o = 0 := opAt_pos ho
            have hlt := opAt_lt ho
            by_cases hstop : k = 0 ∧ n = 1
            · obtain rfl : m = 0 := by have := hm0 hstop.1; omega
              rw [sxp] at hI
              have hs1 := hstop.1
              have hs2 := hstop.2
              refine am_ (R_ (M_ r_ (M_ r_ (M_ r_ (o_ r_ (bi_ [2] r_ r_ (rnext_some hcl ho) (o_ r_ (bx_ r_ r_ (M_ r_ (ah_ r_ u_ b_ (bd_ r_ (ah_ r_ u_ b_ (bz_ r_ r_ (ah_ r_ u_ b_ (bd_ r_ (ah_ r_ v_ b_ (bd_ r_ (ah_ r_ v_ b_ (bn_ r_ r_ (ah_ r_ u_ b_ (bv_ r_ v_ r_ (o_ r_ (bp_ r_ u_ r_ (T_ ?_))))))))))))))))))))))))
              exact ap_ r_ v_ (av_ (ax_ (ax_ (ba_ (al_ (R_ (A_ 2 r_ (M_ r_ (S_ 1 r_ (E_ r_ (T_ (ar_ (jq_retRowT rfl rfl rfl rfl rfl 0 rfl (fun K h => by rw [hI] at h; exact h) (bc_ 1 r_ sub_end))))))))))))))
            · have hm : 0 < m := by
                by_cases h0 : k = 0
                · have := hm0 h0; omega
                · have := hm1 h0; omega
              obtain ⟨m, rfl⟩ : ∃ m', m = m' + 1 := ⟨m - 1, by omega⟩
              have con2 := hG (c + 1) (by omega) (by unfold need; omega)
              rw [sxp, ho] at hI
              dsimp only at hI
              have hgo : k = 0 → n = 0 := fun h => by have := hm0 h; omega
              cases hr2 : sx fr l F (k + 1) (c + 1) with
              | er code2 p2 =>
                rw [hr2] at hI con2
                dsimp only at hI
                refine am_ (R_ (M_ r_ (M_ r_ (M_ r_ (o_ r_ (bi_ [2] r_ r_ (rnext_some hcl ho) (o_ r_ (bx_ r_ r_ (M_ r_ (ah_ r_ u_ b_ (bd_ r_ (ah_ r_ u_ b_ (bz_ r_ r_ (ah_ r_ u_ b_ (bd_ r_ (ah_ r_ v_ b_ (bd_ r_ (ah_ r_ v_ b_ (bn_ r_ r_ (ah_ r_ u_ b_ (bv_ r_ v_ r_ (o_ r_ (bp_ r_ u_ r_ (T_ ?_))))))))))))))))))))))))
                refine aq_ r_ t_ (as_ (al_ (B_ (R_ (M_ r_ (M_ r_ (M_ r_ (o_ r_ (bi_ [0] r_ r_ (rnext_some hcl ho) (E_ r_ (T_ (R_ (M_ r_ (N_ r_ (F_ r_ (L_ 0 r_ ?_))))))))))))))))
                refine o_ r_ (bj_ r_ r_ g_ (N_ r_ (F_ r_ (W_ 0 r_ (T_ (R_ (M_ r_ (M_ r_ (o_ r_ (bj_ r_ r_ g_ (o_ r_ (bt_ [0] rfl rfl (con2) (fun pp hpp => M_ r_ (X_ r_ (X_ r_ (o_ r_ (bl_ r_ r_ (fun bl => S_ 0 r_ (E_ r_ ?_)))))))))))))))))))
                refine T_ (R_ (M_ r_ (M_ r_ (o_ r_ (ck_ r_ r_ (o_ r_ (ow_add r_ r_ (E_ r_ (T_ (R_ (M_ r_ (M_ r_ (o_ r_ (bi_ [1] r_ r_ (rdeep_e hpp.2 g_ _) (T_ (an_ (M_ r_ (A_ 3 r_ ?_))))))))))))))))))
                refine A_ 1 r_ (o_ r_ (bq_ r_ r_ b_ r_ r_ b_ (o_ r_ (bu_ r_ r_ r_ r_ r_ (S_ 3 r_ (ak_ (ay_ (al_ (an_ (M_ r_ (o_ r_ (bj_ r_ r_ g_ (E_ r_ (ak_ (jq_row 0 A5 rfl ?_ ?_)))))))))))))))
                · (repeat (first | exact RowLe.nil | refine RowLe.cons (CLe.any _) ?_))
                refine jq_againS (i := (.inl (t, c, m + 1, n) : Lix)) ((.inr (pp.1, IntKind.i64.wrap (max (t.dep : Int) pp.2 + 1), n + 1, code2, p2) : Lix)) ⟨hpp.1, by omega, hpp.2, hI⟩ (Nat.succ_pos _) ?_ ?_
                · exact bc_ 3 r_ (bc_ 0 r_ (bc_ 0 r_ sub_end))
                · (repeat (first | exact True.intro | refine ⟨rfl, ?_⟩))
              | ok y d2 =>
                have hbd2 := sx_bd _ _ _ _ _ hr2
                have hdep2 := sx_dep _ _ _ _ _ hr2
                have hd2 : ((T.bn o t y).dep : Int) = max (t.dep : Int) (y.dep : Int) + 1 := by simp only [T.dep]; omega
                rw [hr2] at hI con2
                dsimp only at hI
                by_cases hd : fr = false ∧ 8 < (T.bn o t y).dep
                · rw [dpR_er hd] at hI
                  dsimp only at hI
                  obtain ⟨hfr, hd⟩ := hd
                  have hd' : max (t.dep : Int) (y.dep : Int) + 1 > 8 := by omega
                  have hD := rdeep_n (b := b) (ln := 0) (a := d2) hl _ hd' (by omega) (by omega)
                  rw [← hfr] at hD
                  refine am_ (R_ (M_ r_ (M_ r_ (M_ r_ (o_ r_ (bi_ [2] r_ r_ (rnext_some hcl ho) (o_ r_ (bx_ r_ r_ (M_ r_ (ah_ r_ u_ b_ (bd_ r_ (ah_ r_ u_ b_ (bz_ r_ r_ (ah_ r_ u_ b_ (bd_ r_ (ah_ r_ v_ b_ (bd_ r_ (ah_ r_ v_ b_ (bn_ r_ r_ (ah_ r_ u_ b_ (bv_ r_ v_ r_ (o_ r_ (bp_ r_ u_ r_ (T_ ?_))))))))))))))))))))))))
                  refine aq_ r_ t_ (as_ (al_ (B_ (R_ (M_ r_ (M_ r_ (M_ r_ (o_ r_ (bi_ [0] r_ r_ (rnext_some hcl ho) (E_ r_ (T_ (R_ (M_ r_ (N_ r_ (F_ r_ (L_ 0 r_ ?_))))))))))))))))
                  refine o_ r_ (bj_ r_ r_ g_ (N_ r_ (F_ r_ (W_ 0 r_ (T_ (R_ (M_ r_ (M_ r_ (o_ r_ (bj_ r_ r_ g_ (o_ r_ (bi_ [0] r_ r_ (con2) (M_ r_ (X_ r_ (X_ r_ (o_ r_ (bl_ r_ r_ (fun bl => S_ 0 r_ (E_ r_ ?_)))))))))))))))))))
                  refine T_ (R_ (M_ r_ (M_ r_ (o_ r_ (ck_ r_ r_ (o_ r_ (bj_ r_ r_ g_ (E_ r_ (T_ (R_ (M_ r_ (M_ r_ (o_ r_ (bi_ [1] r_ r_ (hD) (T_ (an_ (M_ r_ (A_ 3 r_ ?_))))))))))))))))))
                  refine A_ 1 r_ (o_ r_ (bq_ r_ r_ b_ r_ r_ b_ (o_ r_ (bu_ r_ r_ r_ r_ r_ (S_ 3 r_ (ak_ (ay_ (al_ (an_ (M_ r_ (o_ r_ (bj_ r_ r_ g_ (E_ r_ (ak_ (jq_row 0 A5 rfl ?_ ?_)))))))))))))))
                  · (repeat (first | exact RowLe.nil | refine RowLe.cons (CLe.any _) ?_))
                  refine jq_againS (i := (.inl (t, c, m + 1, n) : Lix)) ((.inr (d2, max (t.dep : Int) (y.dep : Int) + 1, n + 1, 4, d2 - 1) : Lix)) ⟨by omega, by omega, by decide, hI⟩ (Nat.succ_pos _) ?_ ?_
                  · exact bc_ 3 r_ (bc_ 0 r_ (bc_ 0 r_ sub_end))
                  · (repeat (first | exact True.intro | refine ⟨rfl, ?_⟩))
                · rw [dpR_ok hd] at hI
                  dsimp only at hI
                  have hd' : ¬ (fr = false ∧ max (t.dep : Int) (y.dep : Int) + 1 > 8) := fun hh => hd ⟨hh.1, by omega⟩
                  refine am_ (R_ (M_ r_ (M_ r_ (M_ r_ (o_ r_ (bi_ [2] r_ r_ (rnext_some hcl ho) (o_ r_ (bx_ r_ r_ (M_ r_ (ah_ r_ u_ b_ (bd_ r_ (ah_ r_ u_ b_ (bz_ r_ r_ (ah_ r_ u_ b_ (bd_ r_ (ah_ r_ v_ b_ (bd_ r_ (ah_ r_ v_ b_ (bn_ r_ r_ (ah_ r_ u_ b_ (bv_ r_ v_ r_ (o_ r_ (bp_ r_ u_ r_ (T_ ?_))))))))))))))))))))))))
                  refine aq_ r_ t_ (as_ (al_ (B_ (R_ (M_ r_ (M_ r_ (M_ r_ (o_ r_ (bi_ [0] r_ r_ (rnext_some hcl ho) (E_ r_ (T_ (R_ (M_ r_ (N_ r_ (F_ r_ (L_ 0 r_ ?_))))))))))))))))
                  refine o_ r_ (bj_ r_ r_ g_ (N_ r_ (F_ r_ (W_ 0 r_ (T_ (R_ (M_ r_ (M_ r_ (o_ r_ (bj_ r_ r_ g_ (o_ r_ (bi_ [0] r_ r_ (con2) (M_ r_ (X_ r_ (X_ r_ (o_ r_ (bl_ r_ r_ (fun bl => S_ 0 r_ (E_ r_ ?_)))))))))))))))))))
                  refine T_ (R_ (M_ r_ (M_ r_ (o_ r_ (ck_ r_ r_ (o_ r_ (bj_ r_ r_ g_ (E_ r_ (T_ (R_ (M_ r_ (M_ r_ (o_ r_ (bi_ [1] r_ r_ (rdeep_y _ hd') (T_ (an_ (M_ r_ (A_ 3 r_ ?_))))))))))))))))))
                  refine A_ 1 r_ (o_ r_ (bq_ r_ r_ b_ r_ r_ b_ (o_ r_ (bu_ r_ r_ r_ r_ r_ (S_ 3 r_ (ak_ (ay_ (al_ (an_ (M_ r_ (o_ r_ (bj_ r_ r_ g_ (E_ r_ (ak_ (jq_row 0 (T.bn o t y).row' rfl ?_ ?_)))))))))))))))
                  · (repeat (first | exact RowLe.nil | refine RowLe.cons (CLe.refl _) ?_ | refine RowLe.cons CLe.nil ?_))
                    exact RowLe.cons (CLe.eq (by simp [T.row_eq, T.args])) .nil
                  refine jq_againS (i := (.inl (t, c, m + 1, n) : Lix)) ((.inl (T.bn o t y, d2, m, n + 1) : Lix)) ⟨⟨by omega, hbd2.2⟩, by omega, by omega, fun h => by have := hm0 h; omega, fun h => by have := hm1 h; omega, hI⟩ (by simp only [Lmu]; omega) ?_ ?_
                  · exact bc_ 3 r_ (bc_ 0 r_ (bc_ 0 r_ sub_end))
                  · dsimp only [Lenv]
                    rw [hd2]
                    (repeat (first | exact True.intro | refine ⟨rfl, ?_⟩))
        · obtain ⟨hcl, hn, hc0, hI⟩ := hI
          refine jc_reset (Lenv k b bR bl (.inr (c, d, n, code, p))) [.blk bR 59 Z5, .blk bl 59 A5, Rz b l c (lineAt l p) code fr] ?_ ⟨[0, 0, 0], [], rfl⟩ ?_
          · (repeat (first | exact True.intro | refine ⟨rfl, ?_⟩))
          refine am_ (R_ (M_ r_ (M_ r_ (M_ r_ (o_ r_ (bi_ [2] r_ r_ (rnext_e hc0 _ _) (o_ r_ (bx_ r_ r_ (M_ r_ (ai_ r_ r_ b_ (ai_ r_ r_ b_ (ai_ r_ r_ b_ (aj_ r_ b_ (aj_ r_ b_ (ai_ r_ r_ b_ (o_ r_ (bv_ r_ r_ r_ (T_ ?_))))))))))))))))))
          exact ap_ r_ r_ (av_ (ax_ (ax_ (ba_ (al_ (R_ (A_ 2 r_ (M_ r_ (S_ 1 r_ (E_ r_ (T_ (ar_ (jq_retRowT rfl rfl rfl rfl rfl 0 rfl (fun K h => by rw [hI] at h; exact h (c, d) ⟨hcl, hc0⟩) (bc_ 1 r_ sub_end))))))))))))))
    | ok x c =>
      have hbd := sx_bd _ _ _ _ _ hs
      have hdep0 := sx_dep _ _ _ _ _ hs
      have e : r = sxp fr l (opsL k) (sx fr l F (k + 1)) (if k = 0 then 1 else F) x c := by rw [← hr, sx, if_neg (by omega), hs]
      rw [hs] at con
      refine R_ (o_ r_ (bl_ r_ r_ (fun bl => E_ r_ (T_ (R_ (o_ r_ (bq_ r_ r_ b_ r_ r_ b_ (o_ r_ (bq_ r_ r_ b_ r_ r_ b_ (E_ r_ (E_ r_ (T_ (am_ (R_ (M_ r_ (T_ (au_ (R_ ?_))))))))))))))))))
      refine o_ r_ (bn_ r_ r_ (E_ r_ (T_ (ap_ r_ v_ (R_ (o_ r_ (bn_ r_ r_ (E_ r_ (T_ (ap_ r_ v_ (R_ (o_ r_ (bn_ r_ r_ (E_ r_ (T_ (ap_ r_ v_ (as_ (ay_ ?_))))))))))))))))))
      refine al_ (R_ (M_ r_ (M_ r_ (o_ r_ (bj_ r_ r_ g_ (o_ r_ (bi_ [1] r_ r_ (con) (M_ r_ (X_ r_ (X_ r_ (o_ r_ (bl_ r_ r_ (fun bl => S_ 0 r_ (E_ r_ (T_ (am_ (R_ (E_ r_ ?_))))))))))))))))))
      refine T_ (au_ ?_)
      rename_i bR
      refine jc_loopS [] (LI l fr F k a r) (Lenv k b bR bl) (Lch l fr b bR bl) (Lmu l) (.inl (x, c, if k = 0 then 1 else F, 0)) ⟨⟨hbd.1, hbd.2⟩, hdep0, Nat.zero_le _, fun h => by rw [if_pos h], fun h => by rw [if_neg h]; omega, e⟩ ?_ ?_ ?_
      · exact bc_ 2 r_ (bc_ 0 r_ (bc_ 0 r_ sub_end))
      · subst hk
        (repeat (first | exact True.intro | refine ⟨rfl, ?_⟩))
      · rintro (⟨t, c, m, n⟩ | ⟨c, d, n, code, p⟩) hI
        · obtain ⟨⟨hac, hcl⟩, hdep, hn, hm0, hm1, hI⟩ := hI
          refine jc_reset (Lenv k b bR bl (.inl (t, c, m, n))) [.blk bR 59 Z5, .blk bl 59 t.row', Rz b l c 0 0 fr] ?_ ⟨[0, 0, 0], [], rfl⟩ ?_
          · (repeat (first | exact True.intro | refine ⟨rfl, ?_⟩))
          cases ho : opAt l (opsL k) c with
          | none =>
            rw [sxp_none ho] at hI
            refine am_ (R_ (M_ r_ (M_ r_ (M_ r_ (o_ r_ (bi_ [2] r_ r_ (rnext_none hcl ho) (o_ r_ (bx_ r_ r_ (M_ r_ (ai_ r_ r_ b_ (ai_ r_ r_ b_ (ai_ r_ r_ b_ (aj_ r_ b_ (aj_ r_ b_ (ai_ r_ r_ b_ (o_ r_ (bv_ r_ r_ r_ (T_ ?_))))))))))))))))))
            exact ap_ r_ r_ (av_ (ax_ (ax_ (ba_ (al_ (R_ (A_ 2 r_ (M_ r_ (S_ 1 r_ (E_ r_ (T_ (ar_ (jq_retRowT rfl rfl rfl rfl rfl 0 rfl (fun K h => by rw [hI] at h; exact h) (bc_ 1 r_ sub_end))))))))))))))
          | some o =>
            have ho0 : ¬ o = 0 := opAt_pos ho
            have hlt := opAt_lt ho
            by_cases hstop : k = 0 ∧ n = 1
            · obtain rfl : m = 0 := by have := hm0 hstop.1; omega
              rw [sxp] at hI
              have hs1 := hstop.1
              have hs2 := hstop.2
              refine am_ (R_ (M_ r_ (M_ r_ (M_ r_ (o_ r_ (bi_ [2] r_ r_ (rnext_some hcl ho) (o_ r_ (bx_ r_ r_ (M_ r_ (ah_ r_ u_ b_ (bd_ r_ (ah_ r_ u_ b_ (bz_ r_ r_ (ah_ r_ u_ b_ (bd_ r_ (ah_ r_ v_ b_ (bd_ r_ (ah_ r_ v_ b_ (bn_ r_ r_ (ah_ r_ u_ b_ (bv_ r_ v_ r_ (o_ r_ (bp_ r_ u_ r_ (T_ ?_))))))))))))))))))))))))
              exact ap_ r_ v_ (av_ (ax_ (ax_ (ba_ (al_ (R_ (A_ 2 r_ (M_ r_ (S_ 1 r_ (E_ r_ (T_ (ar_ (jq_retRowT rfl rfl rfl rfl rfl 0 rfl (fun K h => by rw [hI] at h; exact h) (bc_ 1 r_ sub_end))))))))))))))
            · have hm : 0 < m := by
                by_cases h0 : k = 0
                · have := hm0 h0; omega
                · have := hm1 h0; omega
              obtain ⟨m, rfl⟩ : ∃ m', m = m' + 1 := ⟨m - 1, by omega⟩
              have con2 := hG (c + 1) (by omega) (by unfold need; omega)
              rw [sxp, ho] at hI
              dsimp only at hI
              have hgo : k = 0 → n = 0 := fun h => by have := hm0 h; omega
              cases hr2 : sx fr l F (k + 1) (c + 1) with
              | er code2 p2 =>
                rw [hr2] at hI con2
                dsimp only at hI
                refine am_ (R_ (M_ r_ (M_ r_ (M_ r_ (o_ r_ (bi_ [2] r_ r_ (rnext_some hcl ho) (o_ r_ (bx_ r_ r_ (M_ r_ (ah_ r_ u_ b_ (bd_ r_ (ah_ r_ u_ b_ (bz_ r_ r_ (ah_ r_ u_ b_ (bd_ r_ (ah_ r_ v_ b_ (bd_ r_ (ah_ r_ v_ b_ (bn_ r_ r_ (ah_ r_ u_ b_ (bv_ r_ v_ r_ (o_ r_ (bp_ r_ u_ r_ (T_ ?_))))))))))))))))))))))))
                refine aq_ r_ t_ (as_ (al_ (B_ (R_ (M_ r_ (M_ r_ (M_ r_ (o_ r_ (bi_ [0] r_ r_ (rnext_some hcl ho) (E_ r_ (T_ (R_ (M_ r_ (N_ r_ (F_ r_ (L_ 0 r_ ?_))))))))))))))))
                refine o_ r_ (bj_ r_ r_ g_ (N_ r_ (F_ r_ (W_ 0 r_ (T_ (R_ (M_ r_ (M_ r_ (o_ r_ (bj_ r_ r_ g_ (o_ r_ (bt_ [0] rfl rfl (con2) (fun pp hpp => M_ r_ (X_ r_ (X_ r_ (o_ r_ (bl_ r_ r_ (fun bl => S_ 0 r_ (E_ r_ ?_)))))))))))))))))))
                refine T_ (R_ (M_ r_ (M_ r_ (o_ r_ (ck_ r_ r_ (o_ r_ (ow_add r_ r_ (E_ r_ (T_ (R_ (M_ r_ (M_ r_ (o_ r_ (bi_ [1] r_ r_ (rdeep_e hpp.2 g_ _) (T_ (an_ (M_ r_ (A_ 3 r_ ?_))))))))))))))))))
                refine A_ 1 r_ (o_ r_ (bq_ r_ r_ b_ r_ r_ b_ (o_ r_ (bu_ r_ r_ r_ r_ r_ (S_ 3 r_ (ak_ (ay_ (al_ (an_ (M_ r_ (o_ r_ (bj_ r_ r_ g_ (E_ r_ (ak_ (jq_row 0 A5 rfl ?_ ?_)))))))))))))))
                · (repeat (first | exact RowLe.nil | refine RowLe.cons (CLe.any _) ?_))
                refine jq_againS (i := (.inl (t, c, m + 1, n) : Lix)) ((.inr (pp.1, IntKind.i64.wrap (max (t.dep : Int) pp.2 + 1), n + 1, code2, p2) : Lix)) ⟨hpp.1, by omega, hpp.2, hI⟩ (Nat.succ_pos _) ?_ ?_
                · exact bc_ 3 r_ (bc_ 0 r_ (bc_ 0 r_ sub_end))
                · (repeat (first | exact True.intro | refine ⟨rfl, ?_⟩))
              | ok y d2 =>
                have hbd2 := sx_bd _ _ _ _ _ hr2
                have hdep2 := sx_dep _ _ _ _ _ hr2
                have hd2 : ((T.bn o t y).dep : Int) = max (t.dep : Int) (y.dep : Int) + 1 := by simp only [T.dep]; omega
                rw [hr2] at hI con2
                dsimp only at hI
                by_cases hd : fr = false ∧ 8 < (T.bn o t y).dep
                · rw [dpR_er hd] at hI
                  dsimp only at hI
                  obtain ⟨hfr, hd⟩ := hd
                  have hd' : max (t.dep : Int) (y.dep : Int) + 1 > 8 := by omega
                  have hD := rdeep_n (b := b) (ln := 0) (a := d2) hl _ hd' (by omega) (by omega)
                  rw [← hfr] at hD
                  refine am_ (R_ (M_ r_ (M_ r_ (M_ r_ (o_ r_ (bi_ [2] r_ r_ (rnext_some hcl ho) (o_ r_ (bx_ r_ r_ (M_ r_ (ah_ r_ u_ b_ (bd_ r_ (ah_ r_ u_ b_ (bz_ r_ r_ (ah_ r_ u_ b_ (bd_ r_ (ah_ r_ v_ b_ (bd_ r_ (ah_ r_ v_ b_ (bn_ r_ r_ (ah_ r_ u_ b_ (bv_ r_ v_ r_ (o_ r_ (bp_ r_ u_ r_ (T_ ?_))))))))))))))))))))))))
                  refine aq_ r_ t_ (as_ (al_ (B_ (R_ (M_ r_ (M_ r_ (M_ r_ (o_ r_ (bi_ [0] r_ r_ (rnext_some hcl ho) (E_ r_ (T_ (R_ (M_ r_ (N_ r_ (F_ r_ (L_ 0 r_ ?_))))))))))))))))
                  refine o_ r_ (bj_ r_ r_ g_ (N_ r_ (F_ r_ (W_ 0 r_ (T_ (R_ (M_ r_ (M_ r_ (o_ r_ (bj_ r_ r_ g_ (o_ r_ (bi_ [0] r_ r_ (con2) (M_ r_ (X_ r_ (X_ r_ (o_ r_ (bl_ r_ r_ (fun bl => S_ 0 r_ (E_ r_ ?_)))))))))))))))))))
                  refine T_ (R_ (M_ r_ (M_ r_ (o_ r_ (ck_ r_ r_ (o_ r_ (bj_ r_ r_ g_ (E_ r_ (T_ (R_ (M_ r_ (M_ r_ (o_ r_ (bi_ [1] r_ r_ (hD) (T_ (an_ (M_ r_ (A_ 3 r_ ?_))))))))))))))))))
                  refine A_ 1 r_ (o_ r_ (bq_ r_ r_ b_ r_ r_ b_ (o_ r_ (bu_ r_ r_ r_ r_ r_ (S_ 3 r_ (ak_ (ay_ (al_ (an_ (M_ r_ (o_ r_ (bj_ r_ r_ g_ (E_ r_ (ak_ (jq_row 0 A5 rfl ?_ ?_)))))))))))))))
                  · (repeat (first | exact RowLe.nil | refine RowLe.cons (CLe.any _) ?_))
                  refine jq_againS (i := (.inl (t, c, m + 1, n) : Lix)) ((.inr (d2, max (t.dep : Int) (y.dep : Int) + 1, n + 1, 4, d2 - 1) : Lix)) ⟨by omega, by omega, by decide, hI⟩ (Nat.succ_pos _) ?_ ?_
                  · exact bc_ 3 r_ (bc_ 0 r_ (bc_ 0 r_ sub_end))
                  · (repeat (first | exact True.intro | refine ⟨rfl, ?_⟩))
                · rw [dpR_ok hd] at hI
                  dsimp only at hI
                  have hd' : ¬ (fr = false ∧ max (t.dep : Int) (y.dep : Int) + 1 > 8) := fun hh => hd ⟨hh.1, by omega⟩
                  refine am_ (R_ (M_ r_ (M_ r_ (M_ r_ (o_ r_ (bi_ [2] r_ r_ (rnext_some hcl ho) (o_ r_ (bx_ r_ r_ (M_ r_ (ah_ r_ u_ b_ (bd_ r_ (ah_ r_ u_ b_ (bz_ r_ r_ (ah_ r_ u_ b_ (bd_ r_ (ah_ r_ v_ b_ (bd_ r_ (ah_ r_ v_ b_ (bn_ r_ r_ (ah_ r_ u_ b_ (bv_ r_ v_ r_ (o_ r_ (bp_ r_ u_ r_ (T_ ?_))))))))))))))))))))))))
                  refine aq_ r_ t_ (as_ (al_ (B_ (R_ (M_ r_ (M_ r_ (M_ r_ (o_ r_ (bi_ [0] r_ r_ (rnext_some hcl ho) (E_ r_ (T_ (R_ (M_ r_ (N_ r_ (F_ r_ (L_ 0 r_ ?_))))))))))))))))
                  refine o_ r_ (bj_ r_ r_ g_ (N_ r_ (F_ r_ (W_ 0 r_ (T_ (R_ (M_ r_ (M_ r_ (o_ r_ (bj_ r_ r_ g_ (o_ r_ (bi_ [0] r_ r_ (con2) (M_ r_ (X_ r_ (X_ r_ (o_ r_ (bl_ r_ r_ (fun bl => S_ 0 r_ (E_ r_ ?_)))))))))))))))))))
                  refine T_ (R_ (M_ r_ (M_ r_ (o_ r_ (ck_ r_ r_ (o_ r_ (bj_ r_ r_ g_ (E_ r_ (T_ (R_ (M_ r_ (M_ r_ (o_ r_ (bi_ [1] r_ r_ (rdeep_y _ hd') (T_ (an_ (M_ r_ (A_ 3 r_ ?_))))))))))))))))))
                  refine A_ 1 r_ (o_ r_ (bq_ r_ r_ b_ r_ r_ b_ (o_ r_ (bu_ r_ r_ r_ r_ r_ (S_ 3 r_ (ak_ (ay_ (al_ (an_ (M_ r_ (o_ r_ (bj_ r_ r_ g_ (E_ r_ (ak_ (jq_row 0 (T.bn o t y).row' rfl ?_ ?_)))))))))))))))
                  · (repeat (first | exact RowLe.nil | refine RowLe.cons (CLe.refl _) ?_ | refine RowLe.cons CLe.nil ?_))
                    exact RowLe.cons (CLe.eq (by simp [T.row_eq, T.args])) .nil
                  refine jq_againS (i := (.inl (t, c, m + 1, n) : Lix)) ((.inl (T.bn o t y, d2, m, n + 1) : Lix)) ⟨⟨by omega, hbd2.2⟩, by omega, by omega, fun h => by have := hm0 h; omega, fun h => by have := hm1 h; omega, hI⟩ (by simp only [Lmu]; omega) ?_ ?_
                  · exact bc_ 3 r_ (bc_ 0 r_ (bc_ 0 r_ sub_end))
                  · dsimp only [Lenv]
                    rw [hd2]
                    (repeat (first | exact True.intro | refine ⟨rfl, ?_⟩))
        · obtain ⟨hcl, hn, hc0, hI⟩ := hI
          refine jc_reset (Lenv k b bR bl (.inr (c, d, n, code, p))) [.blk bR 59 Z5, .blk bl 59 A5, Rz b l c (lineAt l p) code fr] ?_ ⟨[0, 0, 0], [], rfl⟩ ?_
          · (repeat (first | exact True.intro | refine ⟨rfl, ?_⟩))
          refine am_ (R_ (M_ r_ (M_ r_ (M_ r_ (o_ r_ (bi_ [2] r_ r_ (rnext_e hc0 _ _) (o_ r_ (bx_ r_ r_ (M_ r_ (ai_ r_ r_ b_ (ai_ r_ r_ b_ (ai_ r_ r_ b_ (aj_ r_ b_ (aj_ r_ b_ (ai_ r_ r_ b_ (o_ r_ (bv_ r_ r_ r_ (T_ ?_))))))))))))))))))
          exact ap_ r_ r_ (av_ (ax_ (ax_ (ba_ (al_ (R_ (A_ 2 r_ (M_ r_ (S_ 1 r_ (E_ r_ (T_ (ar_ (jq_retRowT rfl rfl rfl rfl rfl 0 rfl (fun K h => by rw [hI] at h; exact h (c, d) ⟨hcl, hc0⟩) (bc_ 1 r_ sub_end))))))))))))))
  · cases hs : sx fr l F (k + 1) a with
    | er code p =>
      have e : r = .er code p := by rw [← hr, sx, if_neg (by omega), hs]
      rw [hs] at con
      refine R_ (o_ r_ (bl_ r_ r_ (fun bl => E_ r_ (T_ (R_ (o_ r_ (bq_ r_ r_ b_ r_ r_ b_ (o_ r_ (bq_ r_ r_ b_ r_ r_ b_ (E_ r_ (E_ r_ (T_ (am_ (R_ (M_ r_ (T_ (au_ (R_ ?_))))))))))))))))))
      refine o_ r_ (bn_ r_ r_ (E_ r_ (T_ (aq_ r_ t_ (an_ (o_ r_ (bq_ r_ r_ b_ r_ r_ b_ (o_ r_ (bq_ r_ r_ b_ r_ r_ b_ (E_ r_ (E_ r_ (ak_ (ay_ (al_ (R_ (M_ r_ (M_ r_ (o_ r_ (bj_ r_ r_ g_ ?_)))))))))))))))))))
      refine o_ r_ (bt_ [1] rfl rfl (con) (fun pp hpp => M_ r_ (X_ r_ (X_ r_ (o_ r_ (bl_ r_ r_ (fun bl => S_ 0 r_ (E_ r_ (T_ (am_ (R_ (E_ r_ (T_ (au_ ?_))))))))))))))
      rename_i bR
      refine jc_loopS [] (LI l fr F k a r) (Lenv k b bR bl) (Lch l fr b bR bl) (Lmu l) (.inr (pp.1, pp.2, 0, code, p)) ⟨hpp.1, Nat.zero_le _, hpp.2, e⟩ ?_ ?_ ?_
      · exact bc_ 2 r_ (bc_ 0 r_ (bc_ 0 r_ sub_end))
      · subst hk
        (repeat (first | exact True.intro | refine ⟨rfl, ?_⟩))
      · rintro (⟨t, c, m, n⟩ | ⟨c, d, n, code, p⟩) hI
        · obtain ⟨⟨hac, hcl⟩, hdep, hn, hm0, hm1, hI⟩ := hI
          refine jc_reset (Lenv k b bR bl (.inl (t, c, m, n))) [.blk bR 59 Z5, .blk bl 59 t.row', Rz b l c 0 0 fr] ?_ ⟨[0, 0, 0], [], rfl⟩ ?_
          · (repeat (first | exact True.intro | refine ⟨rfl, ?_⟩))
          cases ho : opAt l (opsL k) c with
          | none =>
            rw [sxp_none ho] at hI
            refine am_ (R_ (M_ r_ (M_ r_ (M_ r_ (o_ r_ (bi_ [2] r_ r_ (rnext_none hcl ho) (o_ r_ (bx_ r_ r_ (M_ r_ (ai_ r_ r_ b_ (ai_ r_ r_ b_ (ai_ r_ r_ b_ (aj_ r_ b_ (aj_ r_ b_ (ai_ r_ r_ b_ (o_ r_ (bv_ r_ r_ r_ (T_ ?_))))))))))))))))))
            exact ap_ r_ r_ (av_ (ax_ (ax_ (ba_ (al_ (R_ (A_ 2 r_ (M_ r_ (S_ 1 r_ (E_ r_ (T_ (ar_ (jq_retRowT rfl rfl rfl rfl rfl 0 rfl (fun K h => by rw [hI] at h; exact h) (bc_ 1 r_ sub_end))))))))))))))
          | some o =>
            have ho0 : ¬ o = 0 := opAt_pos ho
            have hlt := opAt_lt ho
            by_cases hstop : k = 0 ∧ n = 1
            · exact absurd hstop.1 g_
            · have hm : 0 < m := by
                by_cases h0 : k = 0
                · have := hm0 h0; omega
                · have := hm1 h0; omega
              obtain ⟨m, rfl⟩ : ∃ m', m = m' + 1 := ⟨m - 1, by omega⟩
              have con2 := hG (c + 1) (by omega) (by unfold need; omega)
              rw [sxp, ho] at hI
              dsimp only at hI
              have hgo : k = 0 → n = 0 := fun h => by have := hm0 h; omega
              cases hr2 : sx fr l F (k + 1) (c + 1) with
              | er code2 p2 =>
                rw [hr2] at hI con2
                dsimp only at hI
                refine am_ (R_ (M_ r_ (M_ r_ (M_ r_ (o_ r_ (bi_ [2] r_ r_ (rnext_some hcl ho) (o_ r_ (bx_ r_ r_ (M_ r_ (ah_ r_ u_ b_ (bd_ r_ (ah_ r_ u_ b_ (bz_ r_ r_ (ah_ r_ u_ b_ (bd_ r_ (ai_ r_ t_ b_ (ai_ r_ t_ b_ (ah_ r_ t_ b_ (bp_ r_ t_ r_ (o_ r_ (bp_ r_ u_ r_ (T_ ?_))))))))))))))))))))))
                refine aq_ r_ r_ (as_ (al_ (B_ (R_ (M_ r_ (M_ r_ (M_ r_ (o_ r_ (bi_ [0] r_ r_ (rnext_some hcl ho) (E_ r_ (T_ (R_ (M_ r_ (N_ r_ (F_ r_ (L_ 0 r_ ?_))))))))))))))))
                refine o_ r_ (bj_ r_ r_ g_ (N_ r_ (F_ r_ (W_ 0 r_ (T_ (R_ (M_ r_ (M_ r_ (o_ r_ (bj_ r_ r_ g_ (o_ r_ (bt_ [0] rfl rfl (con2) (fun pp hpp => M_ r_ (X_ r_ (X_ r_ (o_ r_ (bl_ r_ r_ (fun bl => S_ 0 r_ (E_ r_ ?_)))))))))))))))))))
                refine T_ (R_ (M_ r_ (M_ r_ (o_ r_ (ck_ r_ r_ (o_ r_ (ow_add r_ r_ (E_ r_ (T_ (R_ (M_ r_ (M_ r_ (o_ r_ (bi_ [1] r_ r_ (rdeep_e hpp.2 g_ _) (T_ (an_ (M_ r_ (A_ 3 r_ ?_))))))))))))))))))
                refine A_ 1 r_ (o_ r_ (bq_ r_ r_ b_ r_ r_ b_ (o_ r_ (bu_ r_ r_ r_ r_ r_ (S_ 3 r_ (ak_ (ay_ (al_ (an_ (M_ r_ (o_ r_ (bj_ r_ r_ g_ (E_ r_ (ak_ (jq_row 0 A5 rfl ?_ ?_)))))))))))))))
                · (repeat (first | exact RowLe.nil | refine RowLe.cons (CLe.any _) ?_))
                refine jq_againS (i := (.inl (t, c, m + 1, n) : Lix)) ((.inr (pp.1, IntKind.i64.wrap (max (t.dep : Int) pp.2 + 1), n + 1, code2, p2) : Lix)) ⟨hpp.1, by omega, hpp.2, hI⟩ (Nat.succ_pos _) ?_ ?_
                · exact bc_ 3 r_ (bc_ 0 r_ (bc_ 0 r_ sub_end))
                · (repeat (first | exact True.intro | refine ⟨rfl, ?_⟩))
              | ok y d2 =>
                have hbd2 := sx_bd _ _ _ _ _ hr2
                have hdep2 := sx_dep _ _ _ _ _ hr2
                have hd2 : ((T.bn o t y).dep : Int) = max (t.dep : Int) (y.dep : Int) + 1 := by simp only [T.dep]; omega
                rw [hr2] at hI con2
                dsimp only at hI
                by_cases hd : fr = false ∧ 8 < (T.bn o t y).dep
                · rw [dpR_er hd] at hI
                  dsimp only at hI
                  obtain ⟨hfr, hd⟩ := hd
                  have hd' : max (t.dep : Int) (y.dep : Int) + 1 > 8 := by omega
                  have hD := rdeep_n (b := b) (ln := 0) (a := d2) hl _ hd' (by omega) (by omega)
                  rw [← hfr] at hD
                  refine am_ (R_ (M_ r_ (M_ r_ (M_ r_ (o_ r_ (bi_ [2] r_ r_ (rnext_some hcl ho) (o_ r_ (bx_ r_ r_ (M_ r_ (ah_ r_ t_ b_ (bd_ r_ (ah_ r_ t_ b_ (bz_ r_ r_ (ah_ r_ t_ b_ (bd_ r_ (ai_ r_ t_ b_ (ai_ r_ t_ b_ (ah_ r_ t_ b_ (bp_ r_ t_ r_ (o_ r_ (bp_ r_ u_ r_ (T_ ?_))))))))))))))))))))))
                  refine aq_ r_ r_ (as_ (al_ (B_ (R_ (M_ r_ (M_ r_ (M_ r_ (o_ r_ (bi_ [0] r_ r_ (rnext_some hcl ho) (E_ r_ (T_ (R_ (M_ r_ (N_ r_ (F_ r_ (L_ 0 r_ ?_))))))))))))))))
                  refine o_ r_ (bj_ r_ r_ g_ (N_ r_ (F_ r_ (W_ 0 r_ (T_ (R_ (M_ r_ (M_ r_ (o_ r_ (bj_ r_ r_ g_ (o_ r_ (bi_ [0] r_ r_ (con2) (M_ r_ (X_ r_ (X_ r_ (o_ r_ (bl_ r_ r_ (fun bl => S_ 0 r_ (E_ r_ ?_)))))))))))))))))))
                  refine T_ (R_ (M_ r_ (M_ r_ (o_ r_ (ck_ r_ r_ (o_ r_ (bj_ r_ r_ g_ (E_ r_ (T_ (R_ (M_ r_ (M_ r_ (o_ r_ (bi_ [1] r_ r_ (hD) (T_ (an_ (M_ r_ (A_ 3 r_ ?_))))))))))))))))))
                  refine A_ 1 r_ (o_ r_ (bq_ r_ r_ b_ r_ r_ b_ (o_ r_ (bu_ r_ r_ r_ r_ r_ (S_ 3 r_ (ak_ (ay_ (al_ (an_ (M_ r_ (o_ r_ (bj_ r_ r_ g_ (E_ r_ (ak_ (jq_row 0 A5 rfl ?_ ?_)))))))))))))))
                  · (repeat (first | exact RowLe.nil | refine RowLe.cons (CLe.any _) ?_))
                  refine jq_againS (i := (.inl (t, c, m + 1, n) : Lix)) ((.inr (d2, max (t.dep : Int) (y.dep : Int) + 1, n + 1, 4, d2 - 1) : Lix)) ⟨by omega, by omega, by decide, hI⟩ (Nat.succ_pos _) ?_ ?_
                  · exact bc_ 3 r_ (bc_ 0 r_ (bc_ 0 r_ sub_end))
                  · (repeat (first | exact True.intro | refine ⟨rfl, ?_⟩))
                · rw [dpR_ok hd] at hI
                  dsimp only at hI
                  have hd' : ¬ (fr = false ∧ max (t.dep : Int) (y.dep : Int) + 1 > 8) := fun hh => hd ⟨hh.1, by omega⟩
                  refine am_ (R_ (M_ r_ (M_ r_ (M_ r_ (o_ r_ (bi_ [2] r_ r_ (rnext_some hcl ho) (o_ r_ (bx_ r_ r_ (M_ r_ (ah_ r_ t_ b_ (bd_ r_ (ah_ r_ t_ b_ (bz_ r_ r_ (ah_ r_ t_ b_ (bd_ r_ (ai_ r_ t_ b_ (ai_ r_ t_ b_ (ah_ r_ t_ b_ (bp_ r_ t_ r_ (o_ r_ (bp_ r_ u_ r_ (T_ ?_))))))))))))))))))))))
                  refine aq_ r_ r_ (as_ (al_ (B_ (R_ (M_ r_ (M_ r_ (M_ r_ (o_ r_ (bi_ [0] r_ r_ (rnext_some hcl ho) (E_ r_ (T_ (R_ (M_ r_ (N_ r_ (F_ r_ (L_ 0 r_ ?_))))))))))))))))
                  refine o_ r_ (bj_ r_ r_ g_ (N_ r_ (F_ r_ (W_ 0 r_ (T_ (R_ (M_ r_ (M_ r_ (o_ r_ (bj_ r_ r_ g_ (o_ r_ (bi_ [0] r_ r_ (con2) (M_ r_ (X_ r_ (X_ r_ (o_ r_ (bl_ r_ r_ (fun bl => S_ 0 r_ (E_ r_ ?_)))))))))))))))))))
                  refine T_ (R_ (M_ r_ (M_ r_ (o_ r_ (ck_ r_ r_ (o_ r_ (bj_ r_ r_ g_ (E_ r_ (T_ (R_ (M_ r_ (M_ r_ (o_ r_ (bi_ [1] r_ r_ (rdeep_y _ hd') (T_ (an_ (M_ r_ (A_ 3 r_ ?_))))))))))))))))))
                  refine A_ 1 r_ (o_ r_ (bq_ r_ r_ b_ r_ r_ b_ (o_ r_ (bu_ r_ r_ r_ r_ r_ (S_ 3 r_ (ak_ (ay_ (al_ (an_ (M_ r_ (o_ r_ (bj_ r_ r_ g_ (E_ r_ (ak_ (jq_row 0 (T.bn o t y).row' rfl ?_ ?_)))))))))))))))
                  · (repeat (first | exact RowLe.nil | refine RowLe.cons (CLe.refl _) ?_ | refine RowLe.cons CLe.nil ?_))
                    exact RowLe.cons (CLe.eq (by simp [T.row_eq, T.args])) .nil
                  refine jq_againS (i := (.inl (t, c, m + 1, n) : Lix)) ((.inl (T.bn o t y, d2, m, n + 1) : Lix)) ⟨⟨by omega, hbd2.2⟩, by omega, by omega, fun h => by have := hm0 h; omega, fun h => by have := hm1 h; omega, hI⟩ (by simp only [Lmu]; omega) ?_ ?_
                  · exact bc_ 3 r_ (bc_ 0 r_ (bc_ 0 r_ sub_end))
                  · dsimp only [Lenv]
                    rw [hd2]
                    (repeat (first | exact True.intro | refine ⟨rfl, ?_⟩))
        · obtain ⟨hcl, hn, hc0, hI⟩ := hI
          refine jc_reset (Lenv k b bR bl (.inr (c, d, n, code, p))) [.blk bR 59 Z5, .blk bl 59 A5, Rz b l c (lineAt l p) code fr] ?_ ⟨[0, 0, 0], [], rfl⟩ ?_
          · (repeat (first | exact True.intro | refine ⟨rfl, ?_⟩))
          refine am_ (R_ (M_ r_ (M_ r_ (M_ r_ (o_ r_ (bi_ [2] r_ r_ (rnext_e hc0 _ _) (o_ r_ (bx_ r_ r_ (M_ r_ (ai_ r_ r_ b_ (ai_ r_ r_ b_ (ai_ r_ r_ b_ (aj_ r_ b_ (aj_ r_ b_ (ai_ r_ r_ b_ (o_ r_ (bv_ r_ r_ r_ (T_ ?_))))))))))))))))))
          exact ap_ r_ r_ (av_ (ax_ (ax_ (ba_ (al_ (R_ (A_ 2 r_ (M_ r_ (S_ 1 r_ (E_ r_ (T_ (ar_ (jq_retRowT rfl rfl rfl rfl rfl 0 rfl (fun K h => by rw [hI] at h; exact h (c, d) ⟨hcl, hc0⟩) (bc_ 1 r_ sub_end))))))))))))))
    | ok x c =>
      have hbd := sx_bd _ _ _ _ _ hs
      have hdep0 := sx_dep _ _ _ _ _ hs
      have e : r = sxp fr l (opsL k) (sx fr l F (k + 1)) (if k = 0 then 1 else F) x c := by rw [← hr, sx, if_neg (by omega), hs]
      rw [hs] at con
      refine R_ (o_ r_ (bl_ r_ r_ (fun bl => E_ r_ (T_ (R_ (o_ r_ (bq_ r_ r_ b_ r_ r_ b_ (o_ r_ (bq_ r_ r_ b_ r_ r_ b_ (E_ r_ (E_ r_ (T_ (am_ (R_ (M_ r_ (T_ (au_ (R_ ?_))))))))))))))))))
      refine o_ r_ (bn_ r_ r_ (E_ r_ (T_ (aq_ r_ t_ (an_ (o_ r_ (bq_ r_ r_ b_ r_ r_ b_ (o_ r_ (bq_ r_ r_ b_ r_ r_ b_ (E_ r_ (E_ r_ (ak_ (ay_ (al_ (R_ (M_ r_ (M_ r_ (o_ r_ (bj_ r_ r_ g_ ?_)))))))))))))))))))
      refine o_ r_ (bi_ [1] r_ r_ (con) (M_ r_ (X_ r_ (X_ r_ (o_ r_ (bl_ r_ r_ (fun bl => S_ 0 r_ (E_ r_ (T_ (am_ (R_ (E_ r_ (T_ (au_ ?_))))))))))))))
      rename_i bR
      refine jc_loopS [] (LI l fr F k a r) (Lenv k b bR bl) (Lch l fr b bR bl) (Lmu l) (.inl (x, c, if k = 0 then 1 else F, 0)) ⟨⟨hbd.1, hbd.2⟩, hdep0, Nat.zero_le _, fun h => by rw [if_pos h], fun h => by rw [if_neg h]; omega, e⟩ ?_ ?_ ?_
      · exact bc_ 2 r_ (bc_ 0 r_ (bc_ 0 r_ sub_end))
      · subst hk
        (repeat (first | exact True.intro | refine ⟨rfl, ?_⟩))
      · rintro (⟨t, c, m, n⟩ | ⟨c, d, n, code, p⟩) hI
        · obtain ⟨⟨hac, hcl⟩, hdep, hn, hm0, hm1, hI⟩ := hI
          refine jc_reset (Lenv k b bR bl (.inl (t, c, m, n))) [.blk bR 59 Z5, .blk bl 59 t.row', Rz b l c 0 0 fr] ?_ ⟨[0, 0, 0], [], rfl⟩ ?_
          · (repeat (first | exact True.intro | refine ⟨rfl, ?_⟩))
          cases ho : opAt l (opsL k) c with
          | none =>
            rw [sxp_none ho] at hI
            refine am_ (R_ (M_ r_ (M_ r_ (M_ r_ (o_ r_ (bi_ [2] r_ r_ (rnext_none hcl ho) (o_ r_ (bx_ r_ r_ (M_ r_ (ai_ r_ r_ b_ (ai_ r_ r_ b_ (ai_ r_ r_ b_ (aj_ r_ b_ (aj_ r_ b_ (ai_ r_ r_ b_ (o_ r_ (bv_ r_ r_ r_ (T_ ?_))))))))))))))))))
            exact ap_ r_ r_ (av_ (ax_ (ax_ (ba_ (al_ (R_ (A_ 2 r_ (M_ r_ (S_ 1 r_ (E_ r_ (T_ (ar_ (jq_retRowT rfl rfl rfl rfl rfl 0 rfl (fun K h => by rw [hI] at h; exact h) (bc_ 1 r_ sub_end))))))))))))))
          | some o =>
            have ho0 : ¬ o = 0 := opAt_pos ho
            have hlt := opAt_lt ho
            by_cases hstop : k = 0 ∧ n = 1
            · exact absurd hstop.1 g_
            · have hm : 0 < m := by
                by_cases h0 : k = 0
                · have := hm0 h0; omega
                · have := hm1 h0; omega
              obtain ⟨m, rfl⟩ : ∃ m', m = m' + 1 := ⟨m - 1, by omega⟩
              have con2 := hG (c + 1) (by omega) (by unfold need; omega)
              rw [sxp, ho] at hI
              dsimp only at hI
              have hgo : k = 0 → n = 0 := fun h => by have := hm0 h; omega
              cases hr2 : sx fr l F (k + 1) (c + 1) with
              | er code2 p2 =>
                rw [hr2] at hI con2
                dsimp only at hI
                refine am_ (R_ (M_ r_ (M_ r_ (M_ r_ (o_ r_ (bi_ [2] r_ r_ (rnext_some hcl ho) (o_ r_ (bx_ r_ r_ (M_ r_ (ah_ r_ u_ b_ (bd_ r_ (ah_ r_ u_ b_ (bz_ r_ r_ (ah_ r_ u_ b_ (bd_ r_ (ai_ r_ t_ b_ (ai_ r_ t_ b_ (ah_ r_ t_ b_ (bp_ r_ t_ r_ (o_ r_ (bp_ r_ u_ r_ (T_ ?_))))))))))))))))))))))
                refine aq_ r_ r_ (as_ (al_ (B_ (R_ (M_ r_ (M_ r_ (M_ r_ (o_ r_ (bi_ [0] r_ r_ (rnext_some hcl ho) (E_ r_ (T_ (R_ (M_ r_ (N_ r_ (F_ r_ (L_ 0 r_ ?_))))))))))))))))
                refine o_ r_ (bj_ r_ r_ g_ (N_ r_ (F_ r_ (W_ 0 r_ (T_ (R_ (M_ r_ (M_ r_ (o_ r_ (bj_ r_ r_ g_ (o_ r_ (bt_ [0] rfl rfl (con2) (fun pp hpp => M_ r_ (X_ r_ (X_ r_ (o_ r_ (bl_ r_ r_ (fun bl => S_ 0 r_ (E_ r_ ?_)))))))))))))))))))
                refine T_ (R_ (M_ r_ (M_ r_ (o_ r_ (ck_ r_ r_ (o_ r_ (ow_add r_ r_ (E_ r_ (T_ (R_ (M_ r_ (M_ r_ (o_ r_ (bi_ [1] r_ r_ (rdeep_e hpp.2 g_ _) (T_ (an_ (M_ r_ (A_ 3 r_ ?_))))))))))))))))))
                refine A_ 1 r_ (o_ r_ (bq_ r_ r_ b_ r_ r_ b_ (o_ r_ (bu_ r_ r_ r_ r_ r_ (S_ 3 r_ (ak_ (ay_ (al_ (an_ (M_ r_ (o_ r_ (bj_ r_ r_ g_ (E_ r_ (ak_ (jq_row 0 A5 rfl ?_ ?_)))))))))))))))
                · (repeat (first | exact RowLe.nil | refine RowLe.cons (CLe.any _) ?_))
                refine jq_againS (i := (.inl (t, c, m + 1, n) : Lix)) ((.inr (pp.1, IntKind.i64.wrap (max (t.dep : Int) pp.2 + 1), n + 1, code2, p2) : Lix)) ⟨hpp.1, by omega, hpp.2, hI⟩ (Nat.succ_pos _) ?_ ?_
                · exact bc_ 3 r_ (bc_ 0 r_ (bc_ 0 r_ sub_end))
                · (repeat (first | exact True.intro | refine ⟨rfl, ?_⟩))
              | ok y d2 =>
                have hbd2 := sx_bd _ _ _ _ _ hr2
                have hdep2 := sx_dep _ _ _ _ _ hr2
                have hd2 : ((T.bn o t y).dep : Int) = max (t.dep : Int) (y.dep : Int) + 1 := by simp only [T.dep]; omega
                rw [hr2] at hI con2
                dsimp only at hI
                by_cases hd : fr = false ∧ 8 < (T.bn o t y).dep
                · rw [dpR_er hd] at hI
                  dsimp only at hI
                  obtain ⟨hfr, hd⟩ := hd
                  have hd' : max (t.dep : Int) (y.dep : Int) + 1 > 8 := by omega
                  have hD := rdeep_n (b := b) (ln := 0) (a := d2) hl _ hd' (by omega) (by omega)
                  rw [← hfr] at hD
                  refine am_ (R_ (M_ r_ (M_ r_ (M_ r_ (o_ r_ (bi_ [2] r_ r_ (rnext_some hcl ho) (o_ r_ (bx_ r_ r_ (M_ r_ (ah_ r_ t_ b_ (bd_ r_ (ah_ r_ t_ b_ (bz_ r_ r_ (ah_ r_ t_ b_ (bd_ r_ (ai_ r_ t_ b_ (ai_ r_ t_ b_ (ah_ r_ t_ b_ (bp_ r_ t_ r_ (o_ r_ (bp_ r_ u_ r_ (T_ ?_))))))))))))))))))))))
                  refine aq_ r_ r_ (as_ (al_ (B_ (R_ (M_ r_ (M_ r_ (M_ r_ (o_ r_ (bi_ [0] r_ r_ (rnext_some hcl ho) (E_ r_ (T_ (R_ (M_ r_ (N_ r_ (F_ r_ (L_ 0 r_ ?_))))))))))))))))
                  refine o_ r_ (bj_ r_ r_ g_ (N_ r_ (F_ r_ (W_ 0 r_ (T_ (R_ (M_ r_ (M_ r_ (o_ r_ (bj_ r_ r_ g_ (o_ r_ (bi_ [0] r_ r_ (con2) (M_ r_ (X_ r_ (X_ r_ (o_ r_ (bl_ r_ r_ (fun bl => S_ 0 r_ (E_ r_ ?_)))))))))))))))))))
                  refine T_ (R_ (M_ r_ (M_ r_ (o_ r_ (ck_ r_ r_ (o_ r_ (bj_ r_ r_ g_ (E_ r_ (T_ (R_ (M_ r_ (M_ r_ (o_ r_ (bi_ [1] r_ r_ (hD) (T_ (an_ (M_ r_ (A_ 3 r_ ?_))))))))))))))))))
                  refine A_ 1 r_ (o_ r_ (bq_ r_ r_ b_ r_ r_ b_ (o_ r_ (bu_ r_ r_ r_ r_ r_ (S_ 3 r_ (ak_ (ay_ (al_ (an_ (M_ r_ (o_ r_ (bj_ r_ r_ g_ (E_ r_ (ak_ (jq_row 0 A5 rfl ?_ ?_)))))))))))))))
                  · (repeat (first | exact RowLe.nil | refine RowLe.cons (CLe.any _) ?_))
                  refine jq_againS (i := (.inl (t, c, m + 1, n) : Lix)) ((.inr (d2, max (t.dep : Int) (y.dep : Int) + 1, n + 1, 4, d2 - 1) : Lix)) ⟨by omega, by omega, by decide, hI⟩ (Nat.succ_pos _) ?_ ?_
                  · exact bc_ 3 r_ (bc_ 0 r_ (bc_ 0 r_ sub_end))
                  · (repeat (first | exact True.intro | refine ⟨rfl, ?_⟩))
                · rw [dpR_ok hd] at hI
                  dsimp only at hI
                  have hd' : ¬ (fr = false ∧ max (t.dep : Int) (y.dep : Int) + 1 > 8) := fun hh => hd ⟨hh.1, by omega⟩
                  refine am_ (R_ (M_ r_ (M_ r_ (M_ r_ (o_ r_ (bi_ [2] r_ r_ (rnext_some hcl ho) (o_ r_ (bx_ r_ r_ (M_ r_ (ah_ r_ t_ b_ (bd_ r_ (ah_ r_ t_ b_ (bz_ r_ r_ (ah_ r_ t_ b_ (bd_ r_ (ai_ r_ t_ b_ (ai_ r_ t_ b_ (ah_ r_ t_ b_ (bp_ r_ t_ r_ (o_ r_ (bp_ r_ u_ r_ (T_ ?_))))))))))))))))))))))
                  refine aq_ r_ r_ (as_ (al_ (B_ (R_ (M_ r_ (M_ r_ (M_ r_ (o_ r_ (bi_ [0] r_ r_ (rnext_some hcl ho) (E_ r_ (T_ (R_ (M_ r_ (N_ r_ (F_ r_ (L_ 0 r_ ?_))))))))))))))))
                  refine o_ r_ (bj_ r_ r_ g_ (N_ r_ (F_ r_ (W_ 0 r_ (T_ (R_ (M_ r_ (M_ r_ (o_ r_ (bj_ r_ r_ g_ (o_ r_ (bi_ [0] r_ r_ (con2) (M_ r_ (X_ r_ (X_ r_ (o_ r_ (bl_ r_ r_ (fun bl => S_ 0 r_ (E_ r_ ?_)))))))))))))))))))
                  refine T_ (R_ (M_ r_ (M_ r_ (o_ r_ (ck_ r_ r_ (o_ r_ (bj_ r_ r_ g_ (E_ r_ (T_ (R_ (M_ r_ (M_ r_ (o_ r_ (bi_ [1] r_ r_ (rdeep_y _ hd') (T_ (an_ (M_ r_ (A_ 3 r_ ?_))))))))))))))))))
                  refine A_ 1 r_ (o_ r_ (bq_ r_ r_ b_ r_ r_ b_ (o_ r_ (bu_ r_ r_ r_ r_ r_ (S_ 3 r_ (ak_ (ay_ (al_ (an_ (M_ r_ (o_ r_ (bj_ r_ r_ g_ (E_ r_ (ak_ (jq_row 0 (T.bn o t y).row' rfl ?_ ?_)))))))))))))))
                  · (repeat (first | exact RowLe.nil | refine RowLe.cons (CLe.refl _) ?_ | refine RowLe.cons CLe.nil ?_))
                    exact RowLe.cons (CLe.eq (by simp [T.row_eq, T.args])) .nil
                  refine jq_againS (i := (.inl (t, c, m + 1, n) : Lix)) ((.inl (T.bn o t y, d2, m, n + 1) : Lix)) ⟨⟨by omega, hbd2.2⟩, by omega, by omega, fun h => by have := hm0 h; omega, fun h => by have := hm1 h; omega, hI⟩ (by simp only [Lmu]; omega) ?_ ?_
                  · exact bc_ 3 r_ (bc_ 0 r_ (bc_ 0 r_ sub_end))
                  · dsimp only [Lenv]
                    rw [hd2]
                    (repeat (first | exact True.intro | refine ⟨rfl, ?_⟩))
        · obtain ⟨hcl, hn, hc0, hI⟩ := hI
          refine jc_reset (Lenv k b bR bl (.inr (c, d, n, code, p))) [.blk bR 59 Z5, .blk bl 59 A5, Rz b l c (lineAt l p) code fr] ?_ ⟨[0, 0, 0], [], rfl⟩ ?_
          · (repeat (first | exact True.intro | refine ⟨rfl, ?_⟩))
          refine am_ (R_ (M_ r_ (M_ r_ (M_ r_ (o_ r_ (bi_ [2] r_ r_ (rnext_e hc0 _ _) (o_ r_ (bx_ r_ r_ (M_ r_ (ai_ r_ r_ b_ (ai_ r_ r_ b_ (ai_ r_ r_ b_ (aj_ r_ b_ (aj_ r_ b_ (ai_ r_ r_ b_ (o_ r_ (bv_ r_ r_ r_ (T_ ?_))))))))))))))))))
          exact ap_ r_ r_ (av_ (ax_ (ax_ (ba_ (al_ (R_ (A_ 2 r_ (M_ r_ (S_ 1 r_ (E_ r_ (T_ (ar_ (jq_retRowT rfl rfl rfl rfl rfl 0 rfl (fun K h => by rw [hI] at h; exact h (c, d) ⟨hcl, hc0⟩) (bc_ 1 r_ sub_end))))))))))))))
  · cases hs : sx fr l F (k + 1) a with
    | er code p =>
      have e : r = .er code p := by rw [← hr, sx, if_neg (by omega), hs]
      rw [hs] at con
      refine R_ (o_ r_ (bl_ r_ r_ (fun bl => E_ r_ (T_ (R_ (o_ r_ (bq_ r_ r_ b_ r_ r_ b_ (o_ r_ (bq_ r_ r_ b_ r_ r_ b_ (E_ r_ (E_ r_ (T_ (am_ (R_ (M_ r_ (T_ (au_ (R_ ?_))))))))))))))))))
      refine o_ r_ (bn_ r_ r_ (E_ r_ (T_ (ap_ r_ v_ (R_ (o_ r_ (bn_ r_ r_ (E_ r_ (T_ (aq_ r_ t_ (an_ (o_ r_ (bq_ r_ r_ b_ r_ r_ b_ (o_ r_ (bq_ r_ r_ b_ r_ r_ b_ (E_ r_ (E_ r_ (ak_ (ay_ ?_)))))))))))))))))))
      refine al_ (R_ (M_ r_ (M_ r_ (o_ r_ (bj_ r_ r_ g_ (o_ r_ (bt_ [1] rfl rfl (con) (fun pp hpp => M_ r_ (X_ r_ (X_ r_ (o_ r_ (bl_ r_ r_ (fun bl => S_ 0 r_ (E_ r_ (T_ (am_ (R_ (E_ r_ ?_))))))))))))))))))
      refine T_ (au_ ?_)
      rename_i bR
      refine jc_loopS [] (LI l fr F k a r) (Lenv k b bR bl) (Lch l fr b bR bl) (Lmu l) (.inr (pp.1, pp.2, 0, code, p)) ⟨hpp.1, Nat.zero_le _, hpp.2, e⟩ ?_ ?_ ?_
      · exact bc_ 2 r_ (bc_ 0 r_ (bc_ 0 r_ sub_end))
      · subst hk
        (repeat (first | exact True.intro | refine ⟨rfl, ?_⟩))
      · rintro (⟨t, c, m, n⟩ | ⟨c, d, n, code, p⟩) hI
        · obtain ⟨⟨hac, hcl⟩, hdep, hn, hm0, hm1, hI⟩ := hI
          refine jc_reset (Lenv k b bR bl (.inl (t, c, m, n))) [.blk bR 59 Z5, .blk bl 59 t.row', Rz b l c 0 0 fr] ?_ ⟨[0, 0, 0], [], rfl⟩ ?_
          · (repeat (first | exact True.intro | refine ⟨rfl, ?_⟩))
          cases ho : opAt l (opsL k) c with
          | none =>
            rw [sxp_none ho] at hI
            refine am_ (R_ (M_ r_ (M_ r_ (M_ r_ (o_ r_ (bi_ [2] r_ r_ (rnext_none hcl ho) (o_ r_ (bx_ r_ r_ (M_ r_ (ai_ r_ r_ b_ (ai_ r_ r_ b_ (ai_ r_ r_ b_ (aj_ r_ b_ (aj_ r_ b_ (ai_ r_ r_ b_ (o_ r_ (bv_ r_ r_ r_ (T_ ?_))))))))))))))))))
            exact ap_ r_ r_ (av_ (ax_ (ax_ (ba_ (al_ (R_ (A_ 2 r_ (M_ r_ (S_ 1 r_ (E_ r_ (T_ (ar_ (jq_retRowT rfl rfl rfl rfl rfl 0 rfl (fun K h => by rw [hI] at h; exact h) (bc_ 1 r_ sub_end))))))))))))))
          | some o =>
            have ho0 : ¬ o = 0 := opAt_pos ho
            have hlt := opAt_lt ho
            by_cases hstop : k = 0 ∧ n = 1
            · exact absurd hstop.1 g_
            · have hm : 0 < m := by
                by_cases h0 : k = 0
                · have := hm0 h0; omega
                · have := hm1 h0; omega
              obtain ⟨m, rfl⟩ : ∃ m', m = m' + 1 := ⟨m - 1, by omega⟩
              have con2 := hG (c + 1) (by omega) (by unfold need; omega)
              rw [sxp, ho] at hI
              dsimp only at hI
              have hgo : k = 0 → n = 0 := fun h => by have := hm0 h; omega
              cases hr2 : sx fr l F (k + 1) (c + 1) with
              | er code2 p2 =>
                rw [hr2] at hI con2
                dsimp only at hI
                refine am_ (R_ (M_ r_ (M_ r_ (M_ r_ (o_ r_ (bi_ [2] r_ r_ (rnext_some hcl ho) (o_ r_ (bx_ r_ r_ (M_ r_ (ah_ r_ u_ b_ (bd_ r_ (ah_ r_ u_ b_ (bz_ r_ r_ (ah_ r_ u_ b_ (bd_ r_ (ai_ r_ t_ b_ (ai_ r_ t_ b_ (ah_ r_ t_ b_ (bp_ r_ t_ r_ (o_ r_ (bp_ r_ u_ r_ (T_ ?_))))))))))))))))))))))
                refine aq_ r_ r_ (as_ (al_ (B_ (R_ (M_ r_ (M_ r_ (M_ r_ (o_ r_ (bi_ [0] r_ r_ (rnext_some hcl ho) (E_ r_ (T_ (R_ (M_ r_ (N_ r_ (F_ r_ (L_ 0 r_ ?_))))))))))))))))
                refine o_ r_ (bj_ r_ r_ g_ (N_ r_ (F_ r_ (W_ 0 r_ (T_ (R_ (M_ r_ (M_ r_ (o_ r_ (bj_ r_ r_ g_ (o_ r_ (bt_ [0] rfl rfl (con2) (fun pp hpp => M_ r_ (X_ r_ (X_ r_ (o_ r_ (bl_ r_ r_ (fun bl => S_ 0 r_ (E_ r_ ?_)))))))))))))))))))
                refine T_ (R_ (M_ r_ (M_ r_ (o_ r_ (ck_ r_ r_ (o_ r_ (ow_add r_ r_ (E_ r_ (T_ (R_ (M_ r_ (M_ r_ (o_ r_ (bi_ [1] r_ r_ (rdeep_e hpp.2 g_ _) (T_ (an_ (M_ r_ (A_ 3 r_ ?_))))))))))))))))))
                refine A_ 1 r_ (o_ r_ (bq_ r_ r_ b_ r_ r_ b_ (o_ r_ (bu_ r_ r_ r_ r_ r_ (S_ 3 r_ (ak_ (ay_ (al_ (an_ (M_ r_ (o_ r_ (bj_ r_ r_ g_ (E_ r_ (ak_ (jq_row 0 A5 rfl ?_ ?_)))))))))))))))
                · (repeat (first | exact RowLe.nil | refine RowLe.cons (CLe.any _) ?_))
                refine jq_againS (i := (.inl (t, c, m + 1, n) : Lix)) ((.inr (pp.1, IntKind.i64.wrap (max (t.dep : Int) pp.2 + 1), n + 1, code2, p2) : Lix)) ⟨hpp.1, by omega, hpp.2, hI⟩ (Nat.succ_pos _) ?_ ?_
                · exact bc_ 3 r_ (bc_ 0 r_ (bc_ 0 r_ sub_end))
                · (repeat (first | exact True.intro | refine ⟨rfl, ?_⟩))
              | ok y d2 =>
                have hbd2 := sx_bd _ _ _ _ _ hr2
                have hdep2 := sx_dep _ _ _ _ _ hr2
                have hd2 : ((T.bn o t y).dep : Int) = max (t.dep : Int) (y.dep : Int) + 1 := by simp only [T.dep]; omega
                rw [hr2] at hI con2
                dsimp only at hI
                by_cases hd : fr = false ∧ 8 < (T.bn o t y).dep
                · rw [dpR_er hd] at hI
                  dsimp only at hI
                  obtain ⟨hfr, hd⟩ := hd
                  have hd' : max (t.dep : Int) (y.dep : Int) + 1 > 8 := by omega
                  have hD := rdeep_n (b := b) (ln := 0) (a := d2) hl _ hd' (by omega) (by omega)
                  rw [← hfr] at hD
                  refine am_ (R_ (M_ r_ (M_ r_ (M_ r_ (o_ r_ (bi_ [2] r_ r_ (rnext_some hcl ho) (o_ r_ (bx_ r_ r_ (M_ r_ (ah_ r_ t_ b_ (bd_ r_ (ah_ r_ t_ b_ (bz_ r_ r_ (ah_ r_ t_ b_ (bd_ r_ (ai_ r_ t_ b_ (ai_ r_ t_ b_ (ah_ r_ t_ b_ (bp_ r_ t_ r_ (o_ r_ (bp_ r_ u_ r_ (T_ ?_))))))))))))))))))))))
                  refine aq_ r_ r_ (as_ (al_ (B_ (R_ (M_ r_ (M_ r_ (M_ r_ (o_ r_ (bi_ [0] r_ r_ (rnext_some hcl ho) (E_ r_ (T_ (R_ (M_ r_ (N_ r_ (F_ r_ (L_ 0 r_ ?_))))))))))))))))
                  refine o_ r_ (bj_ r_ r_ g_ (N_ r_ (F_ r_ (W_ 0 r_ (T_ (R_ (M_ r_ (M_ r_ (o_ r_ (bj_ r_ r_ g_ (o_ r_ (bi_ [0] r_ r_ (con2) (M_ r_ (X_ r_ (X_ r_ (o_ r_ (bl_ r_ r_ (fun bl => S_ 0 r_ (E_ r_ ?_)))))))))))))))))))
                  refine T_ (R_ (M_ r_ (M_ r_ (o_ r_ (ck_ r_ r_ (o_ r_ (bj_ r_ r_ g_ (E_ r_ (T_ (R_ (M_ r_ (M_ r_ (o_ r_ (bi_ [1] r_ r_ (hD) (T_ (an_ (M_ r_ (A_ 3 r_ ?_))))))))))))))))))
                  refine A_ 1 r_ (o_ r_ (bq_ r_ r_ b_ r_ r_ b_ (o_ r_ (bu_ r_ r_ r_ r_ r_ (S_ 3 r_ (ak_ (ay_ (al_ (an_ (M_ r_ (o_ r_ (bj_ r_ r_ g_ (E_ r_ (ak_ (jq_row 0 A5 rfl ?_ ?_)))))))))))))))
                  · (repeat (first | exact RowLe.nil | refine RowLe.cons (CLe.any _) ?_))
                  refine jq_againS (i := (.inl (t, c, m + 1, n) : Lix)) ((.inr (d2, max (t.dep : Int) (y.dep : Int) + 1, n + 1, 4, d2 - 1) : Lix)) ⟨by omega, by omega, by decide, hI⟩ (Nat.succ_pos _) ?_ ?_
                  · exact bc_ 3 r_ (bc_ 0 r_ (bc_ 0 r_ sub_end))
                  · (repeat (first | exact True.intro | refine ⟨rfl, ?_⟩))
                · rw [dpR_ok hd] at hI
                  dsimp only at hI
                  have hd' : ¬ (fr = false ∧ max (t.dep : Int) (y.dep : Int) + 1 > 8) := fun hh => hd ⟨hh.1, by omega⟩
                  refine am_ (R_ (M_ r_ (M_ r_ (M_ r_ (o_ r_ (bi_ [2] r_ r_ (rnext_some hcl ho) (o_ r_ (bx_ r_ r_ (M_ r_ (ah_ r_ t_ b_ (bd_ r_ (ah_ r_ t_ b_ (bz_ r_ r_ (ah_ r_ t_ b_ (bd_ r_ (ai_ r_ t_ b_ (ai_ r_ t_ b_ (ah_ r_ t_ b_ (bp_ r_ t_ r_ (o_ r_ (bp_ r_ u_ r_ (T_ ?_))))))))))))))))))))))
                  refine aq_ r_ r_ (as_ (al_ (B_ (R_ (M_ r_ (M_ r_ (M_ r_ (o_ r_ (bi_ [0] r_ r_ (rnext_some hcl ho) (E_ r_ (T_ (R_ (M_ r_ (N_ r_ (F_ r_ (L_ 0 r_ ?_))))))))))))))))
                  refine o_ r_ (bj_ r_ r_ g_ (N_ r_ (F_ r_ (W_ 0 r_ (T_ (R_ (M_ r_ (M_ r_ (o_ r_ (bj_ r_ r_ g_ (o_ r_ (bi_ [0] r_ r_ (con2) (M_ r_ (X_ r_ (X_ r_ (o_ r_ (bl_ r_ r_ (fun bl => S_ 0 r_ (E_ r_ ?_)))))))))))))))))))
                  refine T_ (R_ (M_ r_ (M_ r_ (o_ r_ (ck_ r_ r_ (o_ r_ (bj_ r_ r_ g_ (E_ r_ (T_ (R_ (M_ r_ (M_ r_ (o_ r_ (bi_ [1] r_ r_ (rdeep_y _ hd') (T_ (an_ (M_ r_ (A_ 3 r_ ?_))))))))))))))))))
                  refine A_ 1 r_ (o_ r_ (bq_ r_ r_ b_ r_ r_ b_ (o_ r_ (bu_ r_ r_ r_ r_ r_ (S_ 3 r_ (ak_ (ay_ (al_ (an_ (M_ r_ (o_ r_ (bj_ r_ r_ g_ (E_ r_ (ak_ (jq_row 0 (T.bn o t y).row' rfl ?_ ?_)))))))))))))))
                  · (repeat (first | exact RowLe.nil | refine RowLe.cons (CLe.refl _) ?_ | refine RowLe.cons CLe.nil ?_))
                    exact RowLe.cons (CLe.eq (by simp [T.row_eq, T.args])) .nil
                  refine jq_againS (i := (.inl (t, c, m + 1, n) : Lix)) ((.inl (T.bn o t y, d2, m, n + 1) : Lix)) ⟨⟨by omega, hbd2.2⟩, by omega, by omega, fun h => by have := hm0 h; omega, fun h => by have := hm1 h; omega, hI⟩ (by simp only [Lmu]; omega) ?_ ?_
                  · exact bc_ 3 r_ (bc_ 0 r_ (bc_ 0 r_ sub_end))
                  · dsimp only [Lenv]
                    rw [hd2]
                    (repeat (first | exact True.intro | refine ⟨rfl, ?_⟩))
        · obtain ⟨hcl, hn, hc0, hI⟩ := hI
          refine jc_reset (Lenv k b bR bl (.inr (c, d, n, code, p))) [.blk bR 59 Z5, .blk bl 59 A5, Rz b l c (lineAt l p) code fr] ?_ ⟨[0, 0, 0], [], rfl⟩ ?_
          · (repeat (first | exact True.intro | refine ⟨rfl, ?_⟩))
          refine am_ (R_ (M_ r_ (M_ r_ (M_ r_ (o_ r_ (bi_ [2] r_ r_ (rnext_e hc0 _ _) (o_ r_ (bx_ r_ r_ (M_ r_ (ai_ r_ r_ b_ (ai_ r_ r_ b_ (ai_ r_ r_ b_ (aj_ r_ b_ (aj_ r_ b_ (ai_ r_ r_ b_ (o_ r_ (bv_ r_ r_ r_ (T_ ?_))))))))))))))))))
          exact ap_ r_ r_ (av_ (ax_ (ax_ (ba_ (al_ (R_ (A_ 2 r_ (M_ r_ (S_ 1 r_ (E_ r_ (T_ (ar_ (jq_retRowT rfl rfl rfl rfl rfl 0 rfl (fun K h => by rw [hI] at h; exact h (c, d) ⟨hcl, hc0⟩) (bc_ 1 r_ sub_end))))))))))))))
    | ok x c =>
      have hbd := sx_bd _ _ _ _ _ hs
      have hdep0 := sx_dep _ _ _ _ _ hs
      have e : r = sxp fr l (opsL k) (sx fr l F (k + 1)) (if k = 0 then 1 else F) x c := by rw [← hr, sx, if_neg (by omega), hs]
      rw [hs] at con
      refine R_ (o_ r_ (bl_ r_ r_ (fun bl => E_ r_ (T_ (R_ (o_ r_ (bq_ r_ r_ b_ r_ r_ b_ (o_ r_ (bq_ r_ r_ b_ r_ r_ b_ (E_ r_ (E_ r_ (T_ (am_ (R_ (M_ r_ (T_ (au_ (R_ ?_))))))))))))))))))
      refine o_ r_ (bn_ r_ r_ (E_ r_ (T_ (ap_ r_ v_ (R_ (o_ r_ (bn_ r_ r_ (E_ r_ (T_ (aq_ r_ t_ (an_ (o_ r_ (bq_ r_ r_ b_ r_ r_ b_ (o_ r_ (bq_ r_ r_ b_ r_ r_ b_ (E_ r_ (E_ r_ (ak_ (ay_ ?_)))))))))))))))))))
      refine al_ (R_ (M_ r_ (M_ r_ (o_ r_ (bj_ r_ r_ g_ (o_ r_ (bi_ [1] r_ r_ (con) (M_ r_ (X_ r_ (X_ r_ (o_ r_ (bl_ r_ r_ (fun bl => S_ 0 r_ (E_ r_ (T_ (am_ (R_ (E_ r_ ?_))))))))))))))))))
      refine T_ (au_ ?_)
      rename_i bR
      refine jc_loopS [] (LI l fr F k a r) (Lenv k b bR bl) (Lch l fr b bR bl) (Lmu l) (.inl (x, c, if k = 0 then 1 else F, 0)) ⟨⟨hbd.1, hbd.2⟩, hdep0, Nat.zero_le _, fun h => by rw [if_pos h], fun h => by rw [if_neg h]; omega, e⟩ ?_ ?_ ?_
      · exact bc_ 2 r_ (bc_ 0 r_ (bc_ 0 r_ sub_end))
      · subst hk
        (repeat (first | exact True.intro | refine ⟨rfl, ?_⟩))
      · rintro (⟨t, c, m, n⟩ | ⟨c, d, n, code, p⟩) hI
        · obtain ⟨⟨hac, hcl⟩, hdep, hn, hm0, hm1, hI⟩ := hI
          refine jc_reset (Lenv k b bR bl (.inl (t, c, m, n))) [.blk bR 59 Z5, .blk bl 59 t.row', Rz b l c 0 0 fr] ?_ ⟨[0, 0, 0], [], rfl⟩ ?_
          · (repeat (first | exact True.intro | refine ⟨rfl, ?_⟩))
          cases ho : opAt l (opsL k) c with
          | none =>
            rw [sxp_none ho] at hI
            refine am_ (R_ (M_ r_ (M_ r_ (M_ r_ (o_ r_ (bi_ [2] r_ r_ (rnext_none hcl ho) (o_ r_ (bx_ r_ r_ (M_ r_ (ai_ r_ r_ b_ (ai_ r_ r_ b_ (ai_ r_ r_ b_ (aj_ r_ b_ (aj_ r_ b_ (ai_ r_ r_ b_ (o_ r_ (bv_ r_ r_ r_ (T_ ?_))))))))))))))))))
            exact ap_ r_ r_ (av_ (ax_ (ax_ (ba_ (al_ (R_ (A_ 2 r_ (M_ r_ (S_ 1 r_ (E_ r_ (T_ (ar_ (jq_retRowT rfl rfl rfl rfl rfl 0 rfl (fun K h => by rw [hI] at h; exact h) (bc_ 1 r_ sub_end))))))))))))))
          | some o =>
            have ho0 : ¬ o = 0 := opAt_pos ho
            have hlt := opAt_lt ho
            by_cases hstop : k = 0 ∧ n = 1
            · exact absurd hstop.1 g_
            · have hm : 0 < m := by
                by_cases h0 : k = 0
                · have := hm0 h0; omega
                · have := hm1 h0; omega
              obtain ⟨m, rfl⟩ : ∃ m', m = m' + 1 := ⟨m - 1, by omega⟩
              have con2 := hG (c + 1) (by omega) (by unfold need; omega)
              rw [sxp, ho] at hI
              dsimp only at hI
              have hgo : k = 0 → n = 0 := fun h => by have := hm0 h; omega
              cases hr2 : sx fr l F (k + 1) (c + 1) with
              | er code2 p2 =>
                rw [hr2] at hI con2
                dsimp only at hI
                refine am_ (R_ (M_ r_ (M_ r_ (M_ r_ (o_ r_ (bi_ [2] r_ r_ (rnext_some hcl ho) (o_ r_ (bx_ r_ r_ (M_ r_ (ah_ r_ u_ b_ (bd_ r_ (ah_ r_ u_ b_ (bz_ r_ r_ (ah_ r_ u_ b_ (bd_ r_ (ai_ r_ t_ b_ (ai_ r_ t_ b_ (ah_ r_ t_ b_ (bp_ r_ t_ r_ (o_ r_ (bp_ r_ u_ r_ (T_ ?_))))))))))))))))))))))
                refine aq_ r_ r_ (as_ (al_ (B_ (R_ (M_ r_ (M_ r_ (M_ r_ (o_ r_ (bi_ [0] r_ r_ (rnext_some hcl ho) (E_ r_ (T_ (R_ (M_ r_ (N_ r_ (F_ r_ (L_ 0 r_ ?_))))))))))))))))
                refine o_ r_ (bj_ r_ r_ g_ (N_ r_ (F_ r_ (W_ 0 r_ (T_ (R_ (M_ r_ (M_ r_ (o_ r_ (bj_ r_ r_ g_ (o_ r_ (bt_ [0] rfl rfl (con2) (fun pp hpp => M_ r_ (X_ r_ (X_ r_ (o_ r_ (bl_ r_ r_ (fun bl => S_ 0 r_ (E_ r_ ?_)))))))))))))))))))
                refine T_ (R_ (M_ r_ (M_ r_ (o_ r_ (ck_ r_ r_ (o_ r_ (ow_add r_ r_ (E_ r_ (T_ (R_ (M_ r_ (M_ r_ (o_ r_ (bi_ [1] r_ r_ (rdeep_e hpp.2 g_ _) (T_ (an_ (M_ r_ (A_ 3 r_ ?_))))))))))))))))))
                refine A_ 1 r_ (o_ r_ (bq_ r_ r_ b_ r_ r_ b_ (o_ r_ (bu_ r_ r_ r_ r_ r_ (S_ 3 r_ (ak_ (ay_ (al_ (an_ (M_ r_ (o_ r_ (bj_ r_ r_ g_ (E_ r_ (ak_ (jq_row 0 A5 rfl ?_ ?_)))))))))))))))
                · (repeat (first | exact RowLe.nil | refine RowLe.cons (CLe.any _) ?_))
                refine jq_againS (i := (.inl (t, c, m + 1, n) : Lix)) ((.inr (pp.1, IntKind.i64.wrap (max (t.dep : Int) pp.2 + 1), n + 1, code2, p2) : Lix)) ⟨hpp.1, by omega, hpp.2, hI⟩ (Nat.succ_pos _) ?_ ?_
                · exact bc_ 3 r_ (bc_ 0 r_ (bc_ 0 r_ sub_end))
                · (repeat (first | exact True.intro | refine ⟨rfl, ?_⟩))
              | ok y d2 =>
                have hbd2 := sx_bd _ _ _ _ _ hr2
                have hdep2 := sx_dep _ _ _ _ _ hr2
                have hd2 : ((T.bn o t y).dep : Int) = max (t.dep : Int) (y.dep : Int) + 1 := by simp only [T.dep]; omega
                rw [hr2] at hI con2
                dsimp only at hI
                by_cases hd : fr = false ∧ 8 < (T.bn o t y).dep
                · rw [dpR_er hd] at hI
                  dsimp only at hI
                  obtain ⟨hfr, hd⟩ := hd
                  have hd' : max (t.dep : Int) (y.dep : Int) + 1 > 8 := by omega
                  have hD := rdeep_n (b := b) (ln := 0) (a := d2) hl _ hd' (by omega) (by omega)
                  rw [← hfr] at hD
                  refine am_ (R_ (M_ r_ (M_ r_ (M_ r_ (o_ r_ (bi_ [2] r_ r_ (rnext_some hcl ho) (o_ r_ (bx_ r_ r_ (M_ r_ (ah_ r_ t_ b_ (bd_ r_ (ah_ r_ t_ b_ (bz_ r_ r_ (ah_ r_ t_ b_ (bd_ r_ (ai_ r_ t_ b_ (ai_ r_ t_ b_ (ah_ r_ t_ b_ (bp_ r_ t_ r_ (o_ r_ (bp_ r_ u_ r_ (T_ ?_))))))))))))))))))))))
                  refine aq_ r_ r_ (as_ (al_ (B_ (R_ (M_ r_ (M_ r_ (M_ r_ (o_ r_ (bi_ [0] r_ r_ (rnext_some hcl ho) (E_ r_ (T_ (R_ (M_ r_ (N_ r_ (F_ r_ (L_ 0 r_ ?_))))))))))))))))
                  refine o_ r_ (bj_ r_ r_ g_ (N_ r_ (F_ r_ (W_ 0 r_ (T_ (R_ (M_ r_ (M_ r_ (o_ r_ (bj_ r_ r_ g_ (o_ r_ (bi_ [0] r_ r_ (con2) (M_ r_ (X_ r_ (X_ r_ (o_ r_ (bl_ r_ r_ (fun bl => S_ 0 r_ (E_ r_ ?_)))))))))))))))))))
                  refine T_ (R_ (M_ r_ (M_ r_ (o_ r_ (ck_ r_ r_ (o_ r_ (bj_ r_ r_ g_ (E_ r_ (T_ (R_ (M_ r_ (M_ r_ (o_ r_ (bi_ [1] r_ r_ (hD) (T_ (an_ (M_ r_ (A_ 3 r_ ?_))))))))))))))))))
                  refine A_ 1 r_ (o_ r_ (bq_ r_ r_ b_ r_ r_ b_ (o_ r_ (bu_ r_ r_ r_ r_ r_ (S_ 3 r_ (ak_ (ay_ (al_ (an_ (M_ r_ (o_ r_ (bj_ r_ r_ g_ (E_ r_ (ak_ (jq_row 0 A5 rfl ?_ ?_)))))))))))))))
                  · (repeat (first | exact RowLe.nil | refine RowLe.cons (CLe.any _) ?_))
                  refine jq_againS (i := (.inl (t, c, m + 1, n) : Lix)) ((.inr (d2, max (t.dep : Int) (y.dep : Int) + 1, n + 1, 4, d2 - 1) : Lix)) ⟨by omega, by omega, by decide, hI⟩ (Nat.succ_pos _) ?_ ?_
                  · exact bc_ 3 r_ (bc_ 0 r_ (bc_ 0 r_ sub_end))
                  · (repeat (first | exact True.intro | refine ⟨rfl, ?_⟩))
                · rw [dpR_ok hd] at hI
                  dsimp only at hI
                  have hd' : ¬ (fr = false ∧ max (t.dep : Int) (y.dep : Int) + 1 > 8) := fun hh => hd ⟨hh.1, by omega⟩
                  refine am_ (R_ (M_ r_ (M_ r_ (M_ r_ (o_ r_ (bi_ [2] r_ r_ (rnext_some hcl ho) (o_ r_ (bx_ r_ r_ (M_ r_ (ah_ r_ t_ b_ (bd_ r_ (ah_ r_ t_ b_ (bz_ r_ r_ (ah_ r_ t_ b_ (bd_ r_ (ai_ r_ t_ b_ (ai_ r_ t_ b_ (ah_ r_ t_ b_ (bp_ r_ t_ r_ (o_ r_ (bp_ r_ u_ r_ (T_ ?_))))))))))))))))))))))
                  refine aq_ r_ r_ (as_ (al_ (B_ (R_ (M_ r_ (M_ r_ (M_ r_ (o_ r_ (bi_ [0] r_ r_ (rnext_some hcl ho) (E_ r_ (T_ (R_ (M_ r_ (N_ r_ (F_ r_ (L_ 0 r_ ?_))))))))))))))))
                  refine o_ r_ (bj_ r_ r_ g_ (N_ r_ (F_ r_ (W_ 0 r_ (T_ (R_ (M_ r_ (M_ r_ (o_ r_ (bj_ r_ r_ g_ (o_ r_ (bi_ [0] r_ r_ (con2) (M_ r_ (X_ r_ (X_ r_ (o_ r_ (bl_ r_ r_ (fun bl => S_ 0 r_ (E_ r_ ?_)))))))))))))))))))
                  refine T_ (R_ (M_ r_ (M_ r_ (o_ r_ (ck_ r_ r_ (o_ r_ (bj_ r_ r_ g_ (E_ r_ (T_ (R_ (M_ r_ (M_ r_ (o_ r_ (bi_ [1] r_ r_ (rdeep_y _ hd') (T_ (an_ (M_ r_ (A_ 3 r_ ?_))))))))))))))))))
                  refine A_ 1 r_ (o_ r_ (bq_ r_ r_ b_ r_ r_ b_ (o_ r_ (bu_ r_ r_ r_ r_ r_ (S_ 3 r_ (ak_ (ay_ (al_ (an_ (M_ r_ (o_ r_ (bj_ r_ r_ g_ (E_ r_ (ak_ (jq_row 0 (T.bn o t y).row' rfl ?_ ?_)))))))))))))))
                  · (repeat (first | exact RowLe.nil | refine RowLe.cons (CLe.refl _) ?_ | refine RowLe.cons CLe.nil ?_))
                    exact RowLe.cons (CLe.eq (by simp [T.row_eq, T.args])) .nil
                  refine jq_againS (i := (.inl (t, c, m + 1, n) : Lix)) ((.inl (T.bn o t y, d2, m, n + 1) : Lix)) ⟨⟨by omega, hbd2.2⟩, by omega, by omega, fun h => by have := hm0 h; omega, fun h => by have := hm1 h; omega, hI⟩ (by simp only [Lmu]; omega) ?_ ?_
                  · exact bc_ 3 r_ (bc_ 0 r_ (bc_ 0 r_ sub_end))
                  · dsimp only [Lenv]
                    rw [hd2]
                    (repeat (first | exact True.intro | refine ⟨rfl, ?_⟩))
        · obtain ⟨hcl, hn, hc0, hI⟩ := hI
          refine jc_reset (Lenv k b bR bl (.inr (c, d, n, code, p))) [.blk bR 59 Z5, .blk bl 59 A5, Rz b l c (lineAt l p) code fr] ?_ ⟨[0, 0, 0], [], rfl⟩ ?_
          · (repeat (first | exact True.intro | refine ⟨rfl, ?_⟩))
          refine am_ (R_ (M_ r_ (M_ r_ (M_ r_ (o_ r_ (bi_ [2] r_ r_ (rnext_e hc0 _ _) (o_ r_ (bx_ r_ r_ (M_ r_ (ai_ r_ r_ b_ (ai_ r_ r_ b_ (ai_ r_ r_ b_ (aj_ r_ b_ (aj_ r_ b_ (ai_ r_ r_ b_ (o_ r_ (bv_ r_ r_ r_ (T_ ?_))))))))))))))))))
          exact ap_ r_ r_ (av_ (ax_ (ax_ (ba_ (al_ (R_ (A_ 2 r_ (M_ r_ (S_ 1 r_ (E_ r_ (T_ (ar_ (jq_retRowT rfl rfl rfl rfl rfl 0 rfl (fun K h => by rw [hI] at h; exact h (c, d) ⟨hcl, hc0⟩) (bc_ 1 r_ sub_end))))))))))))))
theorem strict_all : ∀ F : Nat, FcP l fr F ∧ LvP l fr F
  | 0 => ⟨fun b a ha h => absurd h (by unfold need; omega), fun b k a hk ha h => absurd h (by unfold need; omega)⟩
  | F + 1 => by
    obtain ⟨h1, h2⟩ := strict_all F
    have f1 := factor_step hl F h1 (expr_of F h2)
    refine ⟨f1, ?_⟩
    intro b k a hk ha hN
    by_cases h3 : k = 3
    · subst h3
      exact level_top (F + 1) f1 b a ha hN
    · exact level_step hl F k b a g_ (fun a ha hN => h2 b (k + 1) a g_ ha hN) ha hN
theorem rexpr_c (F b a : Nat) (ha : a ≤ l.length) (hN : need l 0 a ≤ F) : Con Tryz.prog 157 [Ptr b] [Rz b l a 0 0 fr] (LvPost b l fr (sx fr l F 0 a)) := expr_of F (strict_all hl F).2 b a ha hN
end
end Go.Proofs.YtamajcgdfjeehaaGreatDoor
end

section
namespace Go.Proofs.YtamajcgdfjeehaaGreatDoor
open Go.Vc
set_option maxHeartbeats 1000000

/-- The beginning of some length is an expression. -/
def whole (l : List Tok) (F n : Nat) : Option T := match sx true (l.take n) F 0 0 with
  | .ok t b => if b = n then some t else none
  | .er _ _ => none
end Go.Proofs.YtamajcgdfjeehaaGreatDoor
end

section
namespace Go.Proofs.YtamajcgdfjeehaaGreatDoor
open Go.Vc
attribute [local irreducible] JL JC JQ OpWp Con ConN Pan ConE OpPan HP HT HOk hasW idxW isA isNum isNm numAt txtAt lineAt opAt lx lpx sx sxp
set_option maxHeartbeats 4000000

/-- What Expr answers. -/
def exF : Option (T × Nat) → Option T × Int × Int
  | none => (none, 0, 1)
  | some (t, n) => if 8 < t.dep then (none, 0, 4) else (some t, n, 0)
def ERow : Option T → List C
  | none => Z5
  | some t => t.row'
def exprL (l : List Tok) : Option T × Int × Int := exF (lx l (5 * l.length + 4) 0 0)

theorem Expr_c (l : List Tok) (hl : l.length ≤ 1000000) : Con Tryz.prog 22 [.cell (.list (l.map Tok.row))] [] (fun K => K (.tup [.row (ERow (exprL l).1), In .i64 (exprL l).2.1, In .i64 (exprL l).2.2]) []) := by
  have hall := fun b => (long_all hl (5 * l.length + 4)).2.1 b 0 0 (Nat.zero_le _) (Nat.zero_le _) (by unfold need; omega)
  refine con_intro Tryz.func22 rfl rfl (Nat.le_of_ble_eq_true rfl) (fun c hc => ?_)
  cases hr : lx l (5 * l.length + 4) 0 0 with
  | none =>
    have e : exprL l = (none, 0, 1) := by unfold exprL; rw [hr]; rfl
    rw [hr] at hall
    refine R_ (o_ r_ (bl_ r_ r_ (fun bl => E_ r_ (E_ r_ (T_ (R_ (M_ r_ (o_ r_ (bu_ r_ r_ r_ r_ r_ (o_ r_ (ci_ r_ (fun bx => o_ r_ (bt_ [0] rfl rfl (hall _) (fun pp hpp => o_ r_ (bl_ r_ r_ (fun bl => S_ 0 r_ (T_ (B_ (R_ (F_ r_ ?_))))))))))))))))))))
    exact L_ 0 r_ (o_ r_ (cd_ r_ (E_ r_ (T_ (aq_ r_ r_ (R_ (o_ r_ (bu_ r_ r_ r_ r_ r_ (S_ 2 r_ (E_ r_ (E_ r_ (T_ (ar_ (az_ (aw_ (jq_retRow2 rfl rfl rfl rfl rfl rfl 0 rfl (fun K h => by rw [e] at h; exact h) sub_end))))))))))))))))
  | some tn =>
    obtain ⟨t, n⟩ := tn
    rw [hr] at hall
    have hD := Depth_c 8 t (by omega)
    rw [dl_eq] at hD
    by_cases hd : 8 < t.dep
    · have e : exprL l = (none, 0, 4) := by unfold exprL; rw [hr]; exact if_pos hd
      have hd' : ((min t.dep (8 + 1) : Nat) : Int) > 8 := by omega
      refine R_ (o_ r_ (bl_ r_ r_ (fun bl => E_ r_ (E_ r_ (T_ (R_ (M_ r_ (o_ r_ (bu_ r_ r_ r_ r_ r_ (o_ r_ (ci_ r_ (fun bx => o_ r_ (bt_ [0] rfl rfl (hall _) (fun pp hpp => o_ r_ (bl_ r_ r_ (fun bl => S_ 0 r_ (T_ (B_ (R_ (F_ r_ ?_))))))))))))))))))))
      refine L_ 0 r_ ?_; refine o_ r_ (cd_ r_ ?_); refine E_ r_ ?_; refine T_ ?_; refine ap_ r_ r_ ?_; refine R_ ?_; refine F_ r_ ?_; refine o_ r_ (cp_ 0 r_ r_ r_ r_ r_ ?_); refine o_ r_ (bm_ r_ (hD) ?_); refine o_ r_ (bz_ r_ r_ ?_); refine E_ r_ ?_; refine T_ ?_; refine aq_ r_ u_ ?_; refine R_ ?_; refine o_ r_ (bu_ r_ r_ r_ r_ r_ ?_); refine S_ 2 r_ ?_
      exact E_ r_ (E_ r_ (T_ (ar_ (az_ (aw_ (jq_retRow2 rfl rfl rfl rfl rfl rfl 0 rfl (fun K h => by rw [e] at h; exact h) sub_end))))))
    · have e : exprL l = (some t, (n : Int), 0) := by unfold exprL; rw [hr]; exact if_neg hd
      have hd' : ¬ ((min t.dep (8 + 1) : Nat) : Int) > 8 := by omega
      refine R_ (o_ r_ (bl_ r_ r_ (fun bl => E_ r_ (E_ r_ (T_ (R_ (M_ r_ (o_ r_ (bu_ r_ r_ r_ r_ r_ (o_ r_ (ci_ r_ (fun bx => o_ r_ (bt_ [0] rfl rfl (hall _) (fun pp hpp => o_ r_ (bl_ r_ r_ (fun bl => S_ 0 r_ (T_ (B_ (R_ (F_ r_ ?_))))))))))))))))))))
      refine L_ 0 r_ ?_; refine o_ r_ (cd_ r_ ?_); refine E_ r_ ?_; refine T_ ?_; refine ap_ r_ r_ ?_; refine R_ ?_; refine F_ r_ ?_; refine o_ r_ (cp_ 0 r_ r_ r_ r_ r_ ?_); refine o_ r_ (bm_ r_ (hD) ?_); refine o_ r_ (bz_ r_ r_ ?_); refine E_ r_ ?_; refine T_ ?_; refine ap_ r_ w_ ?_; refine as_ ?_; refine ay_ ?_; refine al_ ?_
      refine am_ (jc_hp1 5 (n := 7) rfl 0 k_ rfl (fun cs1 hcs1 => ?_))
      obtain ⟨u10, u11, u12, u13, u14, u15, u16, rfl⟩ := len7 hcs1
      refine df_ (i := 0) rfl k_ k_ k_ b_ (by (repeat (first | refine pani_then ?_ | refine pani_block ?_)); exact pani_body) (dl_ rfl rfl rfl b_) ?_
      refine df_ (i := 1) rfl k_ k_ k_ b_ (by (repeat (first | refine pani_then ?_ | refine pani_block ?_)); exact pani_body) (hok_loadN 0 rfl rfl rfl mem0 rfl rfl) ?_
      refine df_ (i := 2) rfl k_ k_ k_ b_ (by (repeat (first | refine pani_then ?_ | refine pani_block ?_)); exact pani_body) (dl_ rfl rfl rfl b_) ?_
      refine df_ (i := 3) rfl k_ k_ k_ b_ (by (repeat (first | refine pani_then ?_ | refine pani_block ?_)); exact pani_body) (dm_ 0 rfl rfl rfl mem0 rfl) ?_
      refine hp_exact 0 rfl mem0 (dh_ (i := 4) r_ k_ (bk_ 2 r_ r_ r_ r_ r_ r_ ⟨?_, ?_⟩))
      exact keep1 1 rfl
      exact hp_tail (di_ (i := 5) rfl k_ b_ (by decide) (be_ rfl (di_ (i := 6) rfl k_ b_ (by decide) (be_ rfl (ht_done k_ (al_ (ar_ (jq_retRow2 rfl rfl rfl rfl rfl rfl 0 rfl (fun K h => by rw [e] at h; exact h) sub_end))))))))
end Go.Proofs.YtamajcgdfjeehaaGreatDoor
end

section
namespace Go.Proofs.YtamajcgdfjeehaaGreatDoor
open Go.Vc
attribute [local irreducible] JL JC JQ OpWp Con ConN Pan ConE OpPan HP HT HOk hasW idxW isA isNum isNm numAt txtAt lineAt opAt lx lpx sx sxp
set_option maxHeartbeats 4000000

inductive Z where
  | n (a : Nat)
  | e (a q : Nat) (code : Int)
abbrev RZ (b : Nat) (l : List Tok) : Z → Ch
  | .n a => Rz b l a 0 0 false
  | .e a q code => Rz b l a (lineAt l q) code false
def mu (l : List Tok) : Z → Nat
  | .n a => l.length - a + 1
  | .e _ _ _ => 0
def Z.ok (l : List Tok) : Z → Prop
  | .n a => a ≤ l.length
  | .e a _ code => a ≤ l.length ∧ ¬ code = 0
def rz {α : Type} (g : Nat → R α) : Z → R α
  | .n a => g a
  | .e _ q code => .er code q
def isZ (l : List Tok) : Z → ByteArray → Bool
  | .n a, w => isA l a w
  | .e _ _ _, _ => false
structure Tr {α : Type} (l : List Tok) (g : Nat → R α) (σ : Z) (x : α) (σ' : Z) : Prop where
  eq : rz g σ = rz (R.ok x) σ'
  ok : σ'.ok l
  mu : mu l σ' ≤ mu l σ
def TrO {α : Type} (l : List Tok) (g : Nat → R α) (σ : Z) (o : Option α) (σ' : Z) : Prop := ∃ v, Tr l g σ v σ' ∧ (0 < mu l σ' → o = some v)
theorem rz_bind {α β : Type} {g : Nat → R α} {K : α → Nat → R β} {σ : Z} : rz (fun a => (g a).bind K) σ = (rz g σ).bind K := by cases σ <;> rfl
theorem Tr.bind {α β : Type} {l : List Tok} {g : Nat → R α} {K : α → Nat → R β} {σ σ' : Z} {x : α} {r : R β} (h : Tr l g σ x σ') (e : r = rz (fun a => (g a).bind K) σ) : r = rz (K x) σ' := by
  rw [e, rz_bind, h.eq]
  cases σ' <;> rfl
section
variable {α : Type} {l : List Tok} {g : Nat → R α} {a c q : Nat} {code : Int} {x : α}
theorem tr_ok (e : g a = .ok x c) (h : a ≤ c ∧ c ≤ l.length) : Tr l g (.n a) x (.n c) := ⟨e, h.2, by simp only [mu]; omega⟩
theorem tr_er {a' : Nat} (e : g a = .er code q) (hc : ¬ code = 0) (h : a' ≤ l.length) : Tr l g (.n a) x (.e a' q code) := ⟨e, ⟨h, hc⟩, by simp only [mu]; omega⟩
theorem tr_e (h : (Z.e a q code).ok l) : Tr l g (.e a q code) x (.e a q code) := ⟨rfl, h, Nat.le_refl _⟩
theorem Tr.o {σ σ' : Z} (h : Tr l g σ x σ') : TrO l g σ (some x) σ' := ⟨x, h, fun _ => rfl⟩
theorem TrO.none {σ : Z} (h : Tr l g σ x (.e a q code)) : TrO l g σ none (.e a q code) := ⟨x, h, fun h => absurd h (Nat.lt_irrefl _)⟩
/-- How a function ends. -/
theorem tr_end {σ σ' : Z} {r : R α} (hr : rz g σ = r) (e : r = rz (fun b => .ok x b) σ') (h : σ'.ok l ∧ mu l σ' ≤ mu l σ) : Tr l g σ x σ' := ⟨hr.trans e, h.1, h.2⟩
end
/-- A step of the reference's parser. -/
abbrev ZC {α : Type} (f : FuncId) (b : Nat) (l : List Tok) (args : List S) (res : α → S) (g : Nat → R α) (σ : Z) : Prop := Con Tryz.prog f (Ptr b :: args) [RZ b l σ] (fun K => ∀ p : α × Z, Tr l g σ p.1 p.2 → K (res p.1) [RZ b l p.2])
/-- .. whose result is known only where there is no error. -/
abbrev ZO {α : Type} (f : FuncId) (b : Nat) (l : List Tok) (args : List S) (res : Option α → Int → S) (g : Nat → R α) (σ : Z) : Prop := Con Tryz.prog f (Ptr b :: args) [RZ b l σ] (fun K => ∀ p : (Option α × Int) × Z, TrO l g σ p.1.1 p.2 → K (res p.1.1 p.1.2) [RZ b l p.2])
theorem con_mono {P : Program} [Gl P] {f : FuncId} {args : List S} {Hin : List Ch} {post post' : (S → List Ch → Prop) → Prop} (con : Con P f args Hin post) (h : ∀ K, post' K → post K) : Con P f args Hin post' := by
  unfold Con ConN at con ⊢
  exact fun vs w A h1 h2 h3 h4 h5 h6 => (con vs w A h1 h2 h3 h4 h5 h6).mono fun e w' ⟨v, s, Hout, he, hK, r⟩ => ⟨v, s, Hout, he, fun K hk => hK K (h K hk), r⟩
section
variable {nt : Nat} {c : Cx Tryz.prog nt} {env : Env} {H Hr : List Ch} {ops : Array Oper} {ls : List Oper} {Q : Exit → Act → World → Prop} {Sw : World → Prop} {m fuel : Nat} {listed : Array Bool} {i : Nat} {α β : Type} {l : List Tok} {b : Nat} {r : R β} {g : Nat → R α} {K : α → Nat → R β} {σ : Z} {fid : FuncId} [FI Tryz.prog fid] {args : List S} {xs : Array Operand} {at_ : Array TypeId} {d : Tmp} {ty : TypeId} {pos : String} {af : Array Edge}
theorem jl_bindZ {res : α → S} (is : List Nat) (hx : env.evs xs.toList = some (Ptr b :: args)) (hp : pick is H = some ([RZ b l σ], Hr)) (con : ZC fid b l args res g σ) (he : r = rz (fun a => (g a).bind K) σ) (hd : d < nt)
    (h : ∀ x σ', σ'.ok l ∧ mu l σ' ≤ mu l σ → r = rz (K x) σ' → JL c ops Q ls ((d, res x) :: env) ([RZ b l σ'] ++ Hr)) : JL c ops Q (⟨some d, .call { callee := .value (.func fid), args := xs, argTypes := at_ }, ty, pos, af, none⟩ :: ls) env H :=
  jl_op (ow_callP is hx hp con (fun p hp => h p.1 p.2 ⟨hp.ok, hp.mu⟩ (hp.bind he))) hd
theorem jl_bindZO {res : Option α → Int → S} (is : List Nat) (hx : env.evs xs.toList = some (Ptr b :: args)) (hp : pick is H = some ([RZ b l σ], Hr)) (con : ZO fid b l args res g σ) (he : r = rz (fun a => (g a).bind K) σ) (hd : d < nt)
    (h : ∀ o k v σ', σ'.ok l ∧ mu l σ' ≤ mu l σ → (0 < mu l σ' → o = some v) → r = rz (K v) σ' → JL c ops Q ls ((d, res o k) :: env) ([RZ b l σ'] ++ Hr)) : JL c ops Q (⟨some d, .call { callee := .value (.func fid), args := xs, argTypes := at_ }, ty, pos, af, none⟩ :: ls) env H :=
  jl_op (ow_callP is hx hp con (fun p ⟨v, hp, hv⟩ => h p.1.1 p.1.2 v p.2 ⟨hp.ok, hp.mu⟩ hv (hp.bind he))) hd
theorem hp_bindZ {res : α → S} (hi : ops[i]? = some ⟨some d, .call { callee := .value (.func fid), args := xs, argTypes := at_ }, ty, pos, af, none⟩) (hr : Region.ready .any ops listed = [i]) (hd : d < nt) (is : List Nat)
    (hx : env.evs xs.toList = some (Ptr b :: args)) (hp : pick is H = some ([RZ b l σ], Hr)) (con : ZC fid b l args res g σ) (he : r = rz (fun a => (g a).bind K) σ)
    (h : ∀ x σ', σ'.ok l ∧ mu l σ' ≤ mu l σ → r = rz (K x) σ' → (∀ w, StW c ([RZ b l σ'] ++ Hr) w → Sw w) ∧ HP c ops Q Sw m fuel (listed.setIfInBounds i true) ((d, res x) :: env) ([RZ b l σ'] ++ Hr)) : HP c ops Q Sw m (fuel + 1) listed env H :=
  hp_op hi hr hd (ow_callP is hx hp con (fun p hp => h p.1 p.2 ⟨hp.ok, hp.mu⟩ (hp.bind he)))
theorem hp_bindZO {res : Option α → Int → S} (hi : ops[i]? = some ⟨some d, .call { callee := .value (.func fid), args := xs, argTypes := at_ }, ty, pos, af, none⟩) (hr : Region.ready .any ops listed = [i]) (hd : d < nt) (is : List Nat)
    (hx : env.evs xs.toList = some (Ptr b :: args)) (hp : pick is H = some ([RZ b l σ], Hr)) (con : ZO fid b l args res g σ) (he : r = rz (fun a => (g a).bind K) σ)
    (h : ∀ o k v σ', σ'.ok l ∧ mu l σ' ≤ mu l σ → (0 < mu l σ' → o = some v) → r = rz (K v) σ' → (∀ w, StW c ([RZ b l σ'] ++ Hr) w → Sw w) ∧ HP c ops Q Sw m fuel (listed.setIfInBounds i true) ((d, res o k) :: env) ([RZ b l σ'] ++ Hr)) : HP c ops Q Sw m (fuel + 1) listed env H :=
  hp_op hi hr hd (ow_callP is hx hp con (fun p ⟨v, hp, hv⟩ => h p.1.1 p.1.2 v p.2 ⟨hp.ok, hp.mu⟩ hv (hp.bind he)))
end

def oC {α : Type} (f : α → C) : Option α → C
  | none => .any
  | some x => f x
abbrev oT (o : Option T) : List C := [oC (fun t => .val (.int .i64 t.kind)) o, oC (fun t => .val (.int .i64 t.num)) o, oC (fun t => .val (.string t.name)) o, oC (fun t => .val (.int .i64 t.op)) o, oC (fun t => .list (t.args.map T.row)) o]
section
variable {l : List Tok} {b : Nat} {σ : Z} (hl : l.length ≤ 1000000)
theorem rskip_zn (hσ : σ.ok l) {w : ByteArray} (h : isZ l σ w = false) : Con Tryz.prog 50 [Ptr b, Str w] [RZ b l σ] (fun K => K (Bl false) [RZ b l σ]) := by
  cases σ with
  | n a => exact rskip_n hσ h
  | e a q code => exact rskip_e hσ.2 w
include hl
theorem rneed_z (hσ : σ.ok l) (w : ByteArray) : ZC 94 b l [Str w] (fun _ : Unit => .tup []) (wdG l w) σ := by
  cases σ with
  | n a =>
    cases h : isA l a w with
    | true => exact con_mono (rneed_y hl hσ h) fun K h2 => h2 ((), .n (a + 1)) (tr_ok (by rw [wdG, if_pos h]) (by have := isA_lt h; omega))
    | false => exact con_mono (rneed_n hl hσ h) fun K h2 => h2 ((), .e a a 1) (tr_er (by rw [wdG, if_neg (by rw [h]; decide)]) (by decide) hσ)
  | e a q code => exact con_mono (rneed_e hσ.2 w) fun K h2 => h2 ((), .e a q code) (tr_e hσ)
theorem rname_z (hσ : σ.ok l) : ZC 51 b l [] (fun s : ByteArray => Str s) (nmG l) σ := by
  cases σ with
  | n a =>
    cases h : isNm l a with
    | true => exact con_mono (rname_y hl hσ h) fun K h2 => h2 (_, .n (a + 1)) (tr_ok (by rw [nmG, if_pos h]) (by have := isNm_lt h; omega))
    | false => exact con_mono (rname_n hl hσ h) fun K h2 => h2 (_, .e a a 1) (tr_er (by rw [nmG, if_neg (by rw [h]; decide)]) (by decide) hσ)
  | e a q code => exact con_mono (rname_e hσ.2) fun K h2 => h2 (_, .e a q code) (tr_e hσ)
theorem rnum_z (hσ : σ.ok l) : ZC 52 b l [] (fun n : Int => In .i64 n) (nuG l) σ := by
  cases σ with
  | n a =>
    cases h : isNum l a with
    | true => exact con_mono (rnum_y hl hσ h) fun K h2 => h2 (_, .n (a + 1)) (tr_ok (by rw [nuG, if_pos h]) (by have := isNum_lt h; omega))
    | false => exact con_mono (rnum_n hl hσ h) fun K h2 => h2 (_, .e a a 1) (tr_er (by rw [nuG, if_neg (by rw [h]; decide)]) (by decide) hσ)
  | e a q code => exact con_mono (rnum_e hσ.2) fun K h2 => h2 (_, .e a q code) (tr_e hσ)
omit hl in
theorem rexpr_zE {a q : Nat} {code : Int} (hσ : (Z.e a q code).ok l) : Con Tryz.prog 157 [Ptr b] [RZ b l (.e a q code)] (fun K => K (.tup [.row A5, In .i64 0]) [RZ b l (.e a q code)]) := by
  have h := level_e (b := b) (l := l) (a := a) (ln := lineAt l q) (fr := false) hσ.2 0 (by omega)
  refine con_intro Tryz.func157 rfl rfl (Nat.le_of_ble_eq_true rfl) (fun c hc => R_ (o_ r_ (bl_ r_ r_ (fun bl => E_ r_ (T_ (R_ (M_ r_ (o_ r_ (bi_ [1] r_ r_ (h) (X_ r_ (X_ r_ (S_ 1 r_ (E_ r_ (T_ (ar_ (jq_row 0 A5 rfl ?_ ?_))))))))))))))))
  · (repeat (first | exact RowLe.nil | refine RowLe.cons (CLe.any _) ?_))
  exact jq_retRowT rfl rfl rfl rfl rfl 0 rfl (fun K h => h) (bc_ 1 r_ sub_end)
theorem rexpr_z (hσ : σ.ok l) : ZO 157 b l [] (fun o k => .tup [.row (oT o), In .i64 k]) (exG l) σ := by
  cases σ with
  | n a =>
    have con := rexpr_c (l := l) (fr := false) hl (5 * l.length + 4) b a hσ (by unfold need; omega)
    cases h : sx false l (5 * l.length + 4) 0 a with
    | ok t c =>
      rw [h] at con
      have := sx_bd _ _ _ _ _ h
      exact con_mono con fun K h2 => h2 ((some t, _), .n c) (tr_ok h (by omega)).o
    | er code p =>
      rw [h] at con
      exact con_mono con fun K h2 g hg => h2 ((none, g.2), .e g.1 p code) (TrO.none (x := T.nu 0) (tr_er h hg.2 hg.1))
  | e a q code => exact con_mono (rexpr_zE hσ) fun K h2 => h2 ((none, 0), .e a q code) (TrO.none (x := T.nu 0) (tr_e hσ))
theorem rnumber_z (hσ : σ.ok l) : ZC 95 b l [] (fun n : Int => In .i64 n) (nbG l) σ := by
  generalize hr : rz (nbG l) σ = r
  refine con_intro Tryz.func95 rfl rfl (Nat.le_of_ble_eq_true rfl) (fun c hc => ?_)
  cases h : isZ l σ W45 with
  | true =>
    obtain ⟨a, rfl⟩ : ∃ a, σ = .n a := by cases σ with | n a => exact ⟨a, rfl⟩ | e a q code => cases h
    have hlt := isA_lt h
    have e : r = rz (fun b => (nuG l b).bind fun n b => .ok (ngI n) b) (.n (a + 1)) := by rw [← hr]; show nbG l a = _; rw [nbG, if_pos (show isA l a W45 = true from h)]; rfl
    have h0 : (Z.n (a + 1)).ok l ∧ mu l (.n (a + 1)) ≤ mu l (.n a) := ⟨by show a + 1 ≤ _; omega, by simp only [mu]; omega⟩
    refine R_ (E_ r_ (T_ (am_ (R_ (M_ r_ (o_ r_ (bi_ [0] r_ r_ (rskip_y hl hσ h) (T_ (aq_ r_ r_ (R_ (M_ r_ (jl_bindZ [0] rfl rfl (rnum_z hl h0.1) e (nb rfl) (fun n s g e => o_ r_ (ow_negW r_ (E_ r_ (T_ (ar_ ?_)))))))))))))))))
    exact aw_ (jq_ret1S rfl rfl (fun K h => h (ngI n, s) (tr_end hr e ⟨g.1, by dsimp only; omega⟩)) (bc_ 0 r_ sub_end))
  | false =>
    have e : r = rz (fun b => (nuG l b).bind fun n b => .ok n b) σ := by
      rw [← hr]
      cases σ with
      | n a => show nbG l a = (nuG l a).bind _; rw [nbG, if_neg (by rw [show isA l a W45 = false from h]; decide), R.bind_ok]
      | e a q code => rfl
    refine R_ (E_ r_ (T_ (am_ (R_ (M_ r_ (o_ r_ (bi_ [0] r_ r_ (rskip_zn hσ h) (T_ (ap_ r_ r_ (as_ (al_ (R_ (M_ r_ (jl_bindZ [0] rfl rfl (rnum_z hl hσ) e (nb rfl) (fun n s g e => E_ r_ (T_ ?_))))))))))))))))
    exact ar_ (jq_ret1S rfl rfl (fun K h => h (n, s) (tr_end hr e ⟨g.1, by dsimp only; omega⟩)) (bc_ 0 r_ sub_end))
end
end Go.Proofs.YtamajcgdfjeehaaGreatDoor
end

section
namespace Go.Proofs.YtamajcgdfjeehaaGreatDoor
open Go.Vc
attribute [local irreducible] JL JC JQ OpWp Con ConN Pan ConE OpPan HP HT HOk hasW idxW isA isNum isNm numAt txtAt lineAt opAt lx lpx sx sxp exG startA stmtG stmtsL blkG wdG nmG nuG nbG
set_option maxHeartbeats 4000000

def StP (l : List Tok) (F : Nat) : Prop := ∀ (b w a : Nat) (d : Int), d = (w : Int) + 1 → w ≤ 8 → a ≤ l.length → l.length - a + 1 ≤ F → PC 124 l b [In .i64 d] a SmS (stG l F w a)
def BkP (l : List Tok) (F : Nat) : Prop := ∀ (b w a : Nat) (d : Int), d = (w : Int) + 1 → w ≤ 8 → a ≤ l.length → l.length - a ≤ F → PC 146 l b [In .i64 d] a SlS (blkG l (stmtG l F w) w F a)
theorem cle_T1 (x : T) : CLe (.list [x.row']) (.list ([x].map T.row)) := CLe.eq (by simp [T.row_eq])
section
variable {l : List Tok} {a b : Nat} (hl : l.length ≤ 1000000)
include hl
theorem pstmt_step (F : Nat) (hB : BkP l F) : StP l (F + 1) := by
  intro b w a d hd hw ha hF
  refine ⟨?_, fun x c e => by
    unfold stG at e
    split at e
    · split at e
      · cases e
      · exact stmtG_bd _ _ _ _ _ e
    · cases e⟩
  refine con_introE Tryz.func124 rfl rfl (Nat.le_of_ble_eq_true rfl) (fun c hc => ?_)
  generalize hfin : finR l b SmS (stG l (F + 1) w a) = fin0
  have e := hfin.symm
  rw [stG] at e
  cases hst : startA l a with
  | false =>
    rw [if_neg (by rw [hst]; decide)] at e
    have e : fin0 = .pan (stopV l 1 a) := e
    obtain ⟨h1, h2, h3, h4⟩ := start_n hst
    refine R_ (o_ r_ (bl_ r_ r_ (fun bl => T_ (am_ (R_ (M_ r_ (o_ r_ (bi_ [1] r_ r_ (named_n ha h4) (o_ r_ (cd_ r_ (M_ r_ (ah_ r_ r_ b_ (bd_ r_ (ah_ r_ r_ b_ (bi_ [0] r_ r_ (is_n ha h1) (ah_ r_ r_ b_ (cd_ r_ (o_ r_ (bp_ r_ r_ r_ (M_ r_ (ah_ r_ r_ b_ (bd_ r_ (ah_ r_ r_ b_ (bi_ [0] r_ r_ (is_n ha h2) ?_))))))))))))))))))))))))
    refine ah_ r_ r_ b_ (cd_ r_ (o_ r_ (bp_ r_ r_ r_ (M_ r_ (ah_ r_ r_ b_ (bd_ r_ (ah_ r_ r_ b_ (bi_ [0] r_ r_ (is_n ha h3) (ah_ r_ r_ b_ (cd_ r_ (o_ r_ (bp_ r_ r_ r_ (T_ (aq_ r_ r_ (an_ (M_ r_ (M_ r_ (N_ r_ (F_ r_ (L_ 0 r_ ?_))))))))))))))))))))
    exact jl_pan (op_pan [0] rfl rfl (pfail_c hl 1 a g_)) (by (repeat (first | refine pq_then ?_ | refine pq_block ?_)); exact pq_fin (by first | rfl | assumption))
  | true =>
    have hlt := start_lt hst
    rw [if_pos hst] at e
    by_cases hw8 : 8 ≤ w
    · rw [if_pos hw8] at e
      have e : fin0 = .pan (stopV l 4 a) := e
      have hd8 : d > 8 := by omega
      cases h4 : isNm l a with
      | true =>
        refine R_ (o_ r_ (bl_ r_ r_ (fun bl => T_ (am_ (R_ (M_ r_ (o_ r_ (bi_ [1] r_ r_ (named_y ha h4) (o_ r_ (cd_ r_ (M_ r_ (ai_ r_ r_ b_ (ai_ r_ r_ b_ (ai_ r_ r_ b_ (o_ r_ (bv_ r_ r_ r_ (M_ r_ (ai_ r_ r_ b_ (ai_ r_ r_ b_ ?_)))))))))))))))))))
        refine ai_ r_ r_ b_ (o_ r_ (bv_ r_ r_ r_ (M_ r_ (ai_ r_ r_ b_ (ai_ r_ r_ b_ (ai_ r_ r_ b_ (o_ r_ (bv_ r_ r_ r_ (T_ (ap_ r_ r_ (as_ (al_ (am_ (R_ (M_ r_ (o_ r_ (bz_ r_ r_ (T_ ?_))))))))))))))))))
        refine aq_ r_ u_ (an_ (M_ r_ (M_ r_ (N_ r_ (F_ r_ (L_ 0 r_ ?_))))))
        exact jl_pan (op_pan [0] rfl rfl (pfail_c hl 4 a g_)) (by (repeat (first | refine pq_then ?_ | refine pq_block ?_)); exact pq_fin (by first | rfl | assumption))
      | false =>
        cases h1 : isA l a Kif with
        | true =>
          refine R_ (o_ r_ (bl_ r_ r_ (fun bl => T_ (am_ (R_ (M_ r_ (o_ r_ (bi_ [1] r_ r_ (named_n ha h4) (o_ r_ (cd_ r_ (M_ r_ (ah_ r_ r_ b_ (bd_ r_ (ah_ r_ r_ b_ (bi_ [0] r_ r_ (is_y ha h1) (ah_ r_ r_ b_ (cd_ r_ (o_ r_ (bp_ r_ r_ r_ (M_ r_ (ai_ r_ r_ b_ (ai_ r_ r_ b_ ?_))))))))))))))))))))))
          refine ai_ r_ r_ b_ (o_ r_ (bv_ r_ r_ r_ (M_ r_ (ai_ r_ r_ b_ (ai_ r_ r_ b_ (ai_ r_ r_ b_ (o_ r_ (bv_ r_ r_ r_ (T_ (ap_ r_ r_ (as_ (al_ (am_ (R_ (M_ r_ (o_ r_ (bz_ r_ r_ (T_ ?_))))))))))))))))))
          refine aq_ r_ u_ (an_ (M_ r_ (M_ r_ (N_ r_ (F_ r_ (L_ 0 r_ ?_))))))
          exact jl_pan (op_pan [0] rfl rfl (pfail_c hl 4 a g_)) (by (repeat (first | refine pq_then ?_ | refine pq_block ?_)); exact pq_fin (by first | rfl | assumption))
        | false =>
          cases h2 : isA l a Kwhile with
          | true =>
            refine R_ (o_ r_ (bl_ r_ r_ (fun bl => T_ (am_ (R_ (M_ r_ (o_ r_ (bi_ [1] r_ r_ (named_n ha h4) (o_ r_ (cd_ r_ (M_ r_ (ah_ r_ r_ b_ (bd_ r_ (ah_ r_ r_ b_ (bi_ [0] r_ r_ (is_n ha h1) (ah_ r_ r_ b_ (cd_ r_ (o_ r_ (bp_ r_ r_ r_ (M_ r_ (ah_ r_ r_ b_ (bd_ r_ (ah_ r_ r_ b_ (bi_ [0] r_ r_ (is_y ha h2) ?_))))))))))))))))))))))))
            refine ah_ r_ r_ b_ (cd_ r_ (o_ r_ (bp_ r_ r_ r_ (M_ r_ (ai_ r_ r_ b_ (ai_ r_ r_ b_ (ai_ r_ r_ b_ (o_ r_ (bv_ r_ r_ r_ (T_ (ap_ r_ r_ (as_ (al_ (am_ (R_ (M_ r_ (o_ r_ (bz_ r_ r_ (T_ ?_)))))))))))))))))))
            refine aq_ r_ u_ (an_ (M_ r_ (M_ r_ (N_ r_ (F_ r_ (L_ 0 r_ ?_))))))
            exact jl_pan (op_pan [0] rfl rfl (pfail_c hl 4 a g_)) (by (repeat (first | refine pq_then ?_ | refine pq_block ?_)); exact pq_fin (by first | rfl | assumption))
          | false =>
            have h3 : isA l a Klock = true := by rw [startA, h1, h2, h4] at hst; simpa using hst
            refine R_ (o_ r_ (bl_ r_ r_ (fun bl => T_ (am_ (R_ (M_ r_ (o_ r_ (bi_ [1] r_ r_ (named_n ha h4) (o_ r_ (cd_ r_ (M_ r_ (ah_ r_ r_ b_ (bd_ r_ (ah_ r_ r_ b_ (bi_ [0] r_ r_ (is_n ha h1) (ah_ r_ r_ b_ (cd_ r_ (o_ r_ (bp_ r_ r_ r_ (M_ r_ (ah_ r_ r_ b_ (bd_ r_ (ah_ r_ r_ b_ (bi_ [0] r_ r_ (is_n ha h2) ?_))))))))))))))))))))))))
            refine ah_ r_ r_ b_ (cd_ r_ (o_ r_ (bp_ r_ r_ r_ (M_ r_ (ah_ r_ r_ b_ (bd_ r_ (ah_ r_ r_ b_ (bi_ [0] r_ r_ (is_y ha h3) (ah_ r_ r_ b_ (cd_ r_ (o_ r_ (bp_ r_ r_ r_ (T_ (ap_ r_ r_ (as_ (al_ (am_ (R_ (M_ r_ (o_ r_ (bz_ r_ r_ (T_ ?_))))))))))))))))))))))
            refine aq_ r_ u_ (an_ (M_ r_ (M_ r_ (N_ r_ (F_ r_ (L_ 0 r_ ?_))))))
            exact jl_pan (op_pan [0] rfl rfl (pfail_c hl 4 a g_)) (by (repeat (first | refine pq_then ?_ | refine pq_block ?_)); exact pq_fin (by first | rfl | assumption))
    · rw [if_neg hw8, stmtG] at e
      have hd8 : ¬ d > 8 := by omega
      cases h1 : isA l a Kif with
      | true =>
        rw [if_pos h1] at e
        have h4 := kw_nm h1 (by decide +kernel)
        refine R_ (o_ r_ (bl_ r_ r_ (fun bl => T_ (am_ (R_ (M_ r_ (o_ r_ (bi_ [1] r_ r_ (named_n ha h4) (o_ r_ (cd_ r_ (M_ r_ (ah_ r_ r_ b_ (bd_ r_ (ah_ r_ r_ b_ (bi_ [0] r_ r_ (is_y ha h1) (ah_ r_ r_ b_ (cd_ r_ (o_ r_ (bp_ r_ r_ r_ (M_ r_ (ai_ r_ r_ b_ (ai_ r_ r_ b_ ?_))))))))))))))))))))))
        refine ai_ r_ r_ b_ (o_ r_ (bv_ r_ r_ r_ (M_ r_ (ai_ r_ r_ b_ (ai_ r_ r_ b_ (ai_ r_ r_ b_ (o_ r_ (bv_ r_ r_ r_ (T_ (ap_ r_ r_ (as_ (al_ (am_ (R_ (M_ r_ (o_ r_ (bz_ r_ r_ (T_ ?_))))))))))))))))))
        refine ap_ r_ w_ (as_ (al_ (B_ (R_ (M_ r_ (o_ r_ (bi_ [0] r_ r_ (has_y hl ha h1) (E_ r_ (T_ (aq_ r_ r_ (R_ (M_ r_ (jl_bindE [0] rfl rfl (pexpr_p hl g_) e (fun v hv => by (repeat (first | refine pq_then ?_ | refine pq_block ?_)); exact pq_fin hv) (nb rfl) (fun x b1 k1 g1 e => ?_))))))))))))))
        refine o_ r_ (bq_ r_ r_ b_ r_ r_ b_ (o_ r_ (bu_ r_ r_ r_ r_ r_ (o_ r_ (bl_ r_ r_ (fun bl => S_ 0 r_ (T_ (R_ (M_ r_ (jl_bindE [1] rfl rfl (pword_p hl g_ Klabel) e (fun v hv => by (repeat (first | refine pq_then ?_ | refine pq_block ?_)); exact pq_fin hv) (nb rfl) (fun u b2 k2 g2 e => ?_)))))))))))
        refine T_ (R_ (M_ r_ (jl_bindE [0] rfl rfl (pnum_p hl g_) e (fun v hv => by (repeat (first | refine pq_then ?_ | refine pq_block ?_)); exact pq_fin hv) (nb rfl) (fun n b3 k3 g3 e => ?_))))
        refine F_ r_ (W_ 1 r_ (T_ (R_ (M_ r_ (M_ r_ (o_ r_ (bj_ r_ r_ g_ (jl_bindE [1] rfl rfl (hB b (w + 1) b3 _ g_ g_ g_ g_) e (fun v hv => by (repeat (first | refine pq_then ?_ | refine pq_block ?_)); exact pq_fin hv) (nb rfl) (fun t b4 k4 g4 e => ?_)))))))))
        refine F_ r_ (W_ 1 r_ (T_ (am_ (am_ ?_))))
        cases h5 : isA l b4 Kelse with
        | true =>
          have hlt5 := isA_lt h5
          rw [if_pos h5] at e
          refine an_ (M_ r_ (o_ r_ (bi_ [1] r_ r_ (has_y hl g_ h5) (T_ (aq_ r_ r_ (an_ (M_ r_ (M_ r_ (o_ r_ (bj_ r_ r_ g_ (jl_bindE [0] rfl rfl (hB b (w + 1) (b4 + 1) _ g_ g_ g_ g_) e (fun v hv => by (repeat (first | refine pq_then ?_ | refine pq_block ?_)); exact pq_fin hv) (nb rfl) (fun t2 b5 k5 g5 e => ?_))))))))))))
          refine F_ r_ (W_ 1 r_ (T_ (R_ (A_ 0 r_ (S_ 2 r_ (T_ (ar_ (az_ (aw_ (jq_row 0 (Sm.mk 3 ⟨#[]⟩ [] [x] 0 n t t2).row' rfl ?_ ?_))))))))))
          · (repeat (first | exact RowLe.nil | refine RowLe.cons (CLe.refl _) ?_ | refine RowLe.cons CLe.nil ?_))
            refine RowLe.cons (cle_T1 _) ?_
            (repeat (first | exact RowLe.nil | refine RowLe.cons (CLe.refl _) ?_ | refine RowLe.cons CLe.nil ?_))
          exact jq_fin e (jq_retRowS rfl rfl rfl rfl 0 rfl (fun K h => h) (bc_ 2 r_ sub_end))
        | false =>
          rw [if_neg (by rw [h5]; decide)] at e
          refine an_ (M_ r_ (o_ r_ (bi_ [1] r_ r_ (has_n hl g_ h5) (T_ (ap_ r_ r_ (as_ (al_ (R_ (A_ 1 r_ (S_ 2 r_ (T_ (ar_ (az_ (aw_ (jq_row 0 (Sm.mk 3 ⟨#[]⟩ [] [x] 0 n t []).row' rfl ?_ ?_)))))))))))))))
          · (repeat (first | exact RowLe.nil | refine RowLe.cons (CLe.refl _) ?_ | refine RowLe.cons CLe.nil ?_))
            refine RowLe.cons (cle_T1 _) ?_
            (repeat (first | exact RowLe.nil | refine RowLe.cons (CLe.refl _) ?_ | refine RowLe.cons CLe.nil ?_))
          exact jq_fin e (jq_retRowS rfl rfl rfl rfl 0 rfl (fun K h => h) (bc_ 1 r_ sub_end))
      | false =>
        rw [if_neg (by rw [h1]; decide)] at e
        cases h2 : isA l a Kwhile with
        | true =>
          rw [if_pos h2] at e
          have h4 := kw_nm h2 (by decide +kernel)
          refine R_ (o_ r_ (bl_ r_ r_ (fun bl => T_ (am_ (R_ (M_ r_ (o_ r_ (bi_ [1] r_ r_ (named_n ha h4) (o_ r_ (cd_ r_ (M_ r_ (ah_ r_ r_ b_ (bd_ r_ (ah_ r_ r_ b_ (bi_ [0] r_ r_ (is_n ha h1) (ah_ r_ r_ b_ (cd_ r_ (o_ r_ (bp_ r_ r_ r_ (M_ r_ (ah_ r_ r_ b_ (bd_ r_ (ah_ r_ r_ b_ (bi_ [0] r_ r_ (is_y ha h2) ?_))))))))))))))))))))))))
          refine ah_ r_ r_ b_ (cd_ r_ (o_ r_ (bp_ r_ r_ r_ (M_ r_ (ai_ r_ r_ b_ (ai_ r_ r_ b_ (ai_ r_ r_ b_ (o_ r_ (bv_ r_ r_ r_ (T_ (ap_ r_ r_ (as_ (al_ (am_ (R_ (M_ r_ (o_ r_ (bz_ r_ r_ (T_ ?_)))))))))))))))))))
          refine ap_ r_ w_ (as_ (al_ (B_ (R_ (M_ r_ (o_ r_ (bi_ [0] r_ r_ (has_n hl ha h1) (E_ r_ (T_ (ap_ r_ r_ (R_ (M_ r_ (o_ r_ (bi_ [0] r_ r_ (has_y hl ha h2) (E_ r_ (T_ (aq_ r_ r_ ?_)))))))))))))))))
          refine R_ (M_ r_ (jl_bindE [0] rfl rfl (pexpr_p hl g_) e (fun v hv => by (repeat (first | refine pq_then ?_ | refine pq_block ?_)); exact pq_fin hv) (nb rfl) (fun x b1 k1 g1 e => ?_)))
          refine o_ r_ (bq_ r_ r_ b_ r_ r_ b_ (o_ r_ (bu_ r_ r_ r_ r_ r_ (o_ r_ (bl_ r_ r_ (fun bl => S_ 0 r_ (T_ (R_ (M_ r_ (jl_bindE [1] rfl rfl (pword_p hl g_ Kmax) e (fun v hv => by (repeat (first | refine pq_then ?_ | refine pq_block ?_)); exact pq_fin hv) (nb rfl) (fun u b2 k2 g2 e => ?_)))))))))))
          refine T_ (R_ (M_ r_ (jl_bindE [0] rfl rfl (pnum_p hl g_) e (fun v hv => by (repeat (first | refine pq_then ?_ | refine pq_block ?_)); exact pq_fin hv) (nb rfl) (fun m b3 k3 g3 e => ?_))))
          refine F_ r_ (W_ 1 r_ (T_ (R_ (M_ r_ (jl_bindE [1] rfl rfl (pword_p hl g_ Klabel) e (fun v hv => by (repeat (first | refine pq_then ?_ | refine pq_block ?_)); exact pq_fin hv) (nb rfl) (fun v b4 k4 g4 e => ?_))))))
          refine T_ (R_ (M_ r_ (jl_bindE [0] rfl rfl (pnum_p hl g_) e (fun v hv => by (repeat (first | refine pq_then ?_ | refine pq_block ?_)); exact pq_fin hv) (nb rfl) (fun n b5 k5 g5 e => ?_))))
          refine F_ r_ (W_ 1 r_ (T_ (R_ (M_ r_ (M_ r_ (o_ r_ (bj_ r_ r_ g_ (jl_bindE [1] rfl rfl (hB b (w + 1) b5 _ g_ g_ g_ g_) e (fun v hv => by (repeat (first | refine pq_then ?_ | refine pq_block ?_)); exact pq_fin hv) (nb rfl) (fun t b6 k6 g6 e => ?_)))))))))
          refine F_ r_ (W_ 1 r_ (T_ (R_ (A_ 0 r_ (S_ 2 r_ (T_ (ar_ (az_ (aw_ (jq_row 0 (Sm.mk 4 ⟨#[]⟩ [] [x] m n t []).row' rfl ?_ ?_))))))))))
          · (repeat (first | exact RowLe.nil | refine RowLe.cons (CLe.refl _) ?_ | refine RowLe.cons CLe.nil ?_))
            refine RowLe.cons (cle_T1 _) ?_
            (repeat (first | exact RowLe.nil | refine RowLe.cons (CLe.refl _) ?_ | refine RowLe.cons CLe.nil ?_))
          exact jq_fin e (jq_retRowS rfl rfl rfl rfl 0 rfl (fun K h => h) (bc_ 2 r_ sub_end))
        | false =>
          rw [if_neg (by rw [h2]; decide)] at e
          cases h3 : isA l a Klock with
          | true =>
            rw [if_pos h3] at e
            have h4 := kw_nm h3 (by decide +kernel)
            refine R_ (o_ r_ (bl_ r_ r_ (fun bl => T_ (am_ (R_ (M_ r_ (o_ r_ (bi_ [1] r_ r_ (named_n ha h4) (o_ r_ (cd_ r_ (M_ r_ (ah_ r_ r_ b_ (bd_ r_ (ah_ r_ r_ b_ (bi_ [0] r_ r_ (is_n ha h1) (ah_ r_ r_ b_ (cd_ r_ (o_ r_ (bp_ r_ r_ r_ (M_ r_ (ah_ r_ r_ b_ (bd_ r_ (ah_ r_ r_ b_ (bi_ [0] r_ r_ (is_n ha h2) ?_))))))))))))))))))))))))
            refine ah_ r_ r_ b_ (cd_ r_ (o_ r_ (bp_ r_ r_ r_ (M_ r_ (ah_ r_ r_ b_ (bd_ r_ (ah_ r_ r_ b_ (bi_ [0] r_ r_ (is_y ha h3) (ah_ r_ r_ b_ (cd_ r_ (o_ r_ (bp_ r_ r_ r_ (T_ (ap_ r_ r_ (as_ (al_ (am_ (R_ (M_ r_ (o_ r_ (bz_ r_ r_ (T_ ?_))))))))))))))))))))))
            refine ap_ r_ w_ (as_ (al_ (B_ (R_ (M_ r_ (o_ r_ (bi_ [0] r_ r_ (has_n hl ha h1) (E_ r_ (T_ (ap_ r_ r_ (R_ (M_ r_ (o_ r_ (bi_ [0] r_ r_ (has_n hl ha h2) (E_ r_ (T_ (ap_ r_ r_ ?_)))))))))))))))))
            refine R_ (M_ r_ (o_ r_ (bi_ [0] r_ r_ (has_y hl ha h3) (E_ r_ (T_ (aq_ r_ r_ (R_ (M_ r_ (jl_bindE [0] rfl rfl (pname_p hl g_) e (fun v hv => by (repeat (first | refine pq_then ?_ | refine pq_block ?_)); exact pq_fin hv) (nb rfl) (fun s b1 k1 g1 e => ?_))))))))))
            refine o_ r_ (bu_ r_ r_ r_ r_ r_ (o_ r_ (bl_ r_ r_ (fun bl => S_ 0 r_ (T_ (R_ (M_ r_ (M_ r_ (o_ r_ (bj_ r_ r_ g_ (jl_bindE [1] rfl rfl (hB b (w + 1) b1 _ g_ g_ g_ g_) e (fun v hv => by (repeat (first | refine pq_then ?_ | refine pq_block ?_)); exact pq_fin hv) (nb rfl) (fun t b6 k6 g6 e => ?_))))))))))))
            refine F_ r_ (W_ 1 r_ (T_ (R_ (A_ 0 r_ (S_ 2 r_ (T_ (ar_ (az_ (aw_ (jq_row 0 (Sm.mk 5 s [] [] 0 0 t []).row' rfl ?_ ?_))))))))))
            · (repeat (first | exact RowLe.nil | refine RowLe.cons (CLe.refl _) ?_ | refine RowLe.cons CLe.nil ?_))
            exact jq_fin e (jq_retRowS rfl rfl rfl rfl 0 rfl (fun K h => h) (bc_ 2 r_ sub_end))
          | false =>
            rw [if_neg (by rw [h3]; decide)] at e
            have h4 : isNm l a = true := by rw [startA, h1, h2, h3] at hst; simpa using hst
            refine R_ (o_ r_ (bl_ r_ r_ (fun bl => T_ (am_ (R_ (M_ r_ (o_ r_ (bi_ [1] r_ r_ (named_y ha h4) (o_ r_ (cd_ r_ (M_ r_ (ai_ r_ r_ b_ (ai_ r_ r_ b_ (ai_ r_ r_ b_ (o_ r_ (bv_ r_ r_ r_ (M_ r_ (ai_ r_ r_ b_ (ai_ r_ r_ b_ ?_)))))))))))))))))))
            refine ai_ r_ r_ b_ (o_ r_ (bv_ r_ r_ r_ (M_ r_ (ai_ r_ r_ b_ (ai_ r_ r_ b_ (ai_ r_ r_ b_ (o_ r_ (bv_ r_ r_ r_ (T_ (ap_ r_ r_ (as_ (al_ (am_ (R_ (M_ r_ (o_ r_ (bz_ r_ r_ (T_ ?_))))))))))))))))))
            refine ap_ r_ w_ (as_ (al_ (B_ (R_ (M_ r_ (o_ r_ (bi_ [0] r_ r_ (has_n hl ha h1) (E_ r_ (T_ (ap_ r_ r_ (R_ (M_ r_ (o_ r_ (bi_ [0] r_ r_ (has_n hl ha h2) (E_ r_ (T_ (ap_ r_ r_ ?_)))))))))))))))))
            refine R_ (M_ r_ (o_ r_ (bi_ [0] r_ r_ (has_n hl ha h3) (E_ r_ (T_ (ap_ r_ r_ (as_ (ay_ (al_ (R_ (M_ r_ (jl_bindE [0] rfl rfl (pname_p hl ha) e (fun v hv => by (repeat (first | refine pq_then ?_ | refine pq_block ?_)); exact pq_fin hv) (nb rfl) (fun s b1 k1 g1 e => ?_)))))))))))))
            refine o_ r_ (bu_ r_ r_ r_ r_ r_ (o_ r_ (bl_ r_ r_ (fun bl => S_ 0 r_ (T_ (am_ (am_ ?_)))))))
            cases h5 : isA l b1 W91 with
            | true =>
              have hlt5 := isA_lt h5
              rw [if_pos h5] at e
              refine an_ (M_ r_ (o_ r_ (bi_ [1] r_ r_ (has_y hl g_ h5) (T_ (aq_ r_ r_ (R_ (M_ r_ (jl_bindE [0] rfl rfl (pexpr_p hl g_) e (fun v hv => by (repeat (first | refine pq_then ?_ | refine pq_block ?_)); exact pq_fin hv) (nb rfl) (fun i b2 k2 g2 e => ?_)))))))))
              refine o_ r_ (bq_ r_ r_ b_ r_ r_ b_ (F_ r_ (W_ 1 r_ (F_ r_ (W_ 0 r_ (T_ (an_ (M_ r_ (jl_bindE [1] rfl rfl (pword_p hl g_ W93) e (fun v hv => by (repeat (first | refine pq_then ?_ | refine pq_block ?_)); exact pq_fin hv) (nb rfl) (fun u b3 k3 g3 e => ?_))))))))))
              refine T_ (R_ (M_ r_ (jl_bindE [0] rfl rfl (pword_p hl g_ Keq) e (fun v hv => by (repeat (first | refine pq_then ?_ | refine pq_block ?_)); exact pq_fin hv) (nb rfl) (fun u2 b4 k4 g4 e => ?_))))
              refine T_ (R_ (M_ r_ (jl_bindE [0] rfl rfl (pexpr_p hl g_) e (fun v hv => by (repeat (first | refine pq_then ?_ | refine pq_block ?_)); exact pq_fin hv) (nb rfl) (fun v b5 k5 g5 e => ?_))))
              refine o_ r_ (bq_ r_ r_ b_ r_ r_ b_ (F_ r_ (W_ 1 r_ (T_ (R_ (A_ 0 r_ (S_ 2 r_ (T_ (ar_ (jq_row 0 (Sm.mk 2 s [i] [v] 0 0 [] []).row' rfl ?_ ?_))))))))))
              · (repeat (first | exact RowLe.nil | refine RowLe.cons (CLe.refl _) ?_ | refine RowLe.cons CLe.nil ?_))
                refine RowLe.cons (cle_T1 _) (RowLe.cons (cle_T1 _) ?_)
                (repeat (first | exact RowLe.nil | refine RowLe.cons (CLe.refl _) ?_ | refine RowLe.cons CLe.nil ?_))
              exact jq_fin e (jq_retRowS rfl rfl rfl rfl 0 rfl (fun K h => h) (bc_ 2 r_ sub_end))
            | false =>
              rw [if_neg (by rw [h5]; decide)] at e
              refine an_ (M_ r_ (o_ r_ (bi_ [1] r_ r_ (has_n hl g_ h5) (T_ (ap_ r_ r_ (as_ (al_ (R_ (M_ r_ (jl_bindE [0] rfl rfl (pword_p hl g_ Keq) e (fun v hv => by (repeat (first | refine pq_then ?_ | refine pq_block ?_)); exact pq_fin hv) (nb rfl) (fun u2 b4 k4 g4 e => ?_)))))))))))
              refine T_ (R_ (M_ r_ (jl_bindE [0] rfl rfl (pexpr_p hl g_) e (fun v hv => by (repeat (first | refine pq_then ?_ | refine pq_block ?_)); exact pq_fin hv) (nb rfl) (fun v b5 k5 g5 e => ?_))))
              refine o_ r_ (bq_ r_ r_ b_ r_ r_ b_ (F_ r_ (W_ 1 r_ (T_ (R_ (A_ 0 r_ (S_ 2 r_ (T_ (ar_ (jq_row 0 (Sm.mk 1 s [] [v] 0 0 [] []).row' rfl ?_ ?_))))))))))
              · (repeat (first | exact RowLe.nil | refine RowLe.cons (CLe.refl _) ?_ | refine RowLe.cons CLe.nil ?_))
                refine RowLe.cons (cle_T1 _) ?_
                (repeat (first | exact RowLe.nil | refine RowLe.cons (CLe.refl _) ?_ | refine RowLe.cons CLe.nil ?_))
              exact jq_fin e (jq_retRowS rfl rfl rfl rfl 0 rfl (fun K h => h) (bc_ 2 r_ sub_end))
omit hl in
theorem smrows (ss : List Sm) : ss.map Sm.row' = ss.map Sm.row := by rw [show Sm.row' = Sm.row from funext fun s => (Sm.row_eq s).symm]
omit hl in
theorem stmtsL_stop {st : Nat → R Sm} {w a : Nat} (h : startA l a = false) (n : Nat) (acc : List Sm) : stmtsL l st w n a acc = .ok acc a := by
  cases n with
  | zero => rw [stmtsL]
  | succ n => rw [stmtsL, if_neg (by rw [h]; decide)]
omit hl in
theorem wdG_y {w : ByteArray} {a : Nat} (h : isA l a w = true) : wdG l w a = .ok () (a + 1) := by rw [wdG, if_pos h]
omit hl in
theorem wdG_n {w : ByteArray} {a : Nat} (h : isA l a w = false) : wdG l w a = .er 1 a := by rw [wdG, if_neg (by rw [h]; decide)]
omit hl in
/-- What the program does at a place where the block does not end. -/
theorem stmts_go {F w c n : Nat} {kw : ByteArray} {acc : List Sm} (h : isA l c kw = false) (hn : l.length - c ≤ n) : ((stmtsL l (stmtG l F w) w n c acc).bind fun ss c => (wdG l kw c).bind fun _ d => .ok ss d) = (stG l F w c).bind fun s d => (stmtsL l (stmtG l F w) w (n - 1) d (acc ++ [s])).bind fun ss c => (wdG l kw c).bind fun _ d => .ok ss d := by
  cases hs : startA l c with
  | false => rw [stmtsL_stop hs, bind_okE, wdG_n h, stG, if_neg (by rw [hs]; decide)]; rfl
  | true =>
    have := start_lt hs
    obtain ⟨n, rfl⟩ : ∃ m, n = m + 1 := ⟨n - 1, by omega⟩
    rw [stmtsL, if_pos hs, stG, if_pos hs]
    by_cases hw : 8 ≤ w
    · rw [if_pos hw, if_pos hw]; rfl
    · rw [if_neg hw, if_neg hw]
      cases stmtG l F w c <;> rfl
theorem pblock_of (hN : NmOk l) (F : Nat) (hS : StP l F) : BkP l F := by
  intro b w a d hd hw ha hF
  refine ⟨(con_introE Tryz.func146 rfl rfl (Nat.le_of_ble_eq_true rfl) (fun c hc => ?_)), fun x c e => blkG_bd (fun a x c => stmtG_bd _ _ _ _ _) x c e⟩
  generalize hfin : finR l b SlS (blkG l (stmtG l F w) w F a) = fin0
  have e := hfin.symm
  rw [blkG] at e
  refine R_ (E_ r_ (T_ (R_ (M_ r_ (jl_bindE [0] rfl rfl (pword_p hl ha Kob) e (fun v hv => by (repeat (first | refine pq_then ?_ | refine pq_block ?_)); exact pq_fin hv) (nb rfl) (fun u b1 k1 g1 e => ?_))))))
  refine T_ (R_ (E_ r_ (T_ (B_ (jc_ownNil 57 8 g_ ?_)))))
  refine jc_loopS (ι := List Sm × Nat × Nat × Value) [] (fun i => (b1 ≤ i.2.1 ∧ i.2.1 ≤ l.length) ∧ l.length - i.2.1 ≤ i.2.2.1 ∧ i.1.length ≤ i.2.1 ∧ fin0 = finR l b SlS ((stmtsL l (stmtG l F w) w i.2.2.1 i.2.1 i.1).bind fun ss c => (wdG l Kcb c).bind fun _ d => .ok ss d))
    (fun i => [(0, Ptr b), (1, In .i64 d), (5, .cell (.val i.2.2.2))]) (fun i => [Pz b l i.2.1, .own i.2.2.2 57 8 (i.1.map Sm.row')]) (fun i => l.length + 1 - i.2.1) ([], b1, F, .slice none 0 0) ⟨⟨Nat.le_refl _, g1.2⟩, by dsimp only; omega, Nat.zero_le _, e⟩ ?_ ?_ ?_
  · exact bc_ 1 r_ (bc_ 0 r_ sub_end)
  · (repeat (first | exact True.intro | refine ⟨rfl, ?_⟩))
  clear e
  rintro ⟨acc, c, n, v⟩ ⟨⟨h1, h2⟩, hn, hacc, e⟩
  dsimp only at h1 h2 hn hacc e ⊢
  refine jc_reset [(0, Ptr b), (1, In .i64 d), (5, .cell (.val v))] [Pz b l c, .own v 57 8 (acc.map Sm.row')] ?_ ⟨[0, 0], [], rfl⟩ ?_
  · (repeat (first | exact True.intro | refine ⟨rfl, ?_⟩))
  cases h : isA l c Kcb with
  | true =>
    rw [stmtsL_stop (start_cb hN h), bind_okE, wdG_y h, bind_okE] at e
    refine am_ (R_ (M_ r_ (o_ r_ (bi_ [0] r_ r_ (has_y hl h2 h) (o_ r_ (cd_ r_ (T_ (ap_ r_ r_ (av_ (ax_ (ax_ (ba_ (al_ (R_ (M_ r_ (E_ r_ (T_ ?_)))))))))))))))))
    exact ar_ (jq_freeze 4 1 rfl rfl (by rw [hc]; simp [hb, Ch.bs]) (jq_fin e (jq_ret1S rfl rfl (fun K h => by rw [smrows]; exact h) (bc_ 0 r_ sub_end))))
  | false =>
    rw [stmts_go h hn] at e
    refine am_ (R_ (M_ r_ (o_ r_ (bi_ [0] r_ r_ (has_n hl h2 h) (o_ r_ (cd_ r_ (T_ (aq_ r_ r_ (as_ (al_ (au_ (an_ (M_ r_ (M_ r_ (M_ r_ (jl_bindE [0] rfl rfl (hS b w c _ hd hw h2 g_) e (fun v hv => by (repeat (first | refine pq_then ?_ | refine pq_block ?_)); exact pq_fin hv) (nb rfl) (fun s c2 k2 g2 e => ?_)))))))))))))))))
    refine o_ r_ (bq_ r_ r_ b_ r_ r_ b_ (o_ r_ (ow_append1 1 (s) rfl rfl rfl rfl rfl rfl rfl (fun s => rfl) (by show (_ + _) * 136 ≤ _; first | omega | (simp only [List.length_append]; omega)) (by first | omega | (simp only [List.length_append]; omega)) (fun v2 hv2 => E_ r_ (ak_ (ay_ ?_))))))
    refine jq_againS (i := (acc, c, n, v)) ((acc ++ [s], c2, n - 1, v2) : List Sm × Nat × Nat × Value) ⟨⟨by dsimp only; omega, g2.2⟩, by dsimp only; omega, by dsimp only; simp only [List.length_append, List.length_singleton]; omega, e⟩ (by dsimp only; omega) ?_ ?_
    · exact bc_ 1 r_ (bc_ 0 r_ sub_end)
    · (repeat (first | exact True.intro | refine ⟨rfl, ?_⟩))
theorem pstmt_all (hN : NmOk l) : ∀ F : Nat, StP l F
  | 0 => fun b w a d hd hw ha h => absurd h (by omega)
  | F + 1 => pstmt_step hl F (pblock_of hl hN F (pstmt_all hN F))
end
end Go.Proofs.YtamajcgdfjeehaaGreatDoor
end
