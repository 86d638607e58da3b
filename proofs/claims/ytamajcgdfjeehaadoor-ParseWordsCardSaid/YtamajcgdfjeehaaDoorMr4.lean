import Derived.Test.YtamajcgdfjeehaaDoorMr3
import Derived.KernelRfl
section
namespace Go.Proofs.YtamajcgdfjeehaaDoor
open Go.Vc
attribute [local irreducible] JL JC JQ OpWp Con ConN Pan ConE OpPan HP HT HOk hasW idxW isA isNum isNm numAt txtAt lineAt opAt lx lpx sx sxp
set_option maxHeartbeats 4000000

/-- What Expr answers. -/
def exF : Option (T × Nat) → Option T × Int × Int
  | none => (none, 0, 1)
  | some (t, n) => if 8 < t.dep then (none, 0, 4) else (some t, n, 0)
def ERow : Option T → List C
  | none => Z5
  | some t => t.row'
def exprL (l : List Tok) : Option T × Int × Int := exF (lx l (5 * l.length + 4) 0 0)

theorem Expr_c (l : List Tok) (hl : l.length ≤ 1000000) : Con Tryd.prog 10 [.cell (.list (l.map Tok.row))] [] (fun K => K (.tup [.row (ERow (exprL l).1), In .i64 (exprL l).2.1, In .i64 (exprL l).2.2]) []) := by
  have hall := fun b => (long_all hl (5 * l.length + 4)).2.1 b 0 0 (Nat.zero_le _) (Nat.zero_le _) (by unfold need; omega)
  refine con_intro Tryd.func10 rfl rfl (Nat.le_of_ble_eq_true rfl) (fun c hc => ?_)
  cases hr : lx l (5 * l.length + 4) 0 0 with
  | none =>
    have e : exprL l = (none, 0, 1) := by unfold exprL; rw [hr]; rfl
    rw [hr] at hall
    refine R_ (o_ r_ (bl_ r_ r_ (fun bl => E_ r_ (E_ r_ (T_ (R_ (M_ r_ (o_ r_ (bu_ r_ r_ r_ r_ r_ (o_ r_ (ci_ r_ (fun bx => o_ r_ (bt_ [0] rfl rfl (hall _) (fun pp hpp => o_ r_ (bl_ r_ r_ (fun bl => S_ 0 r_ (T_ (B_ (R_ (F_ r_ ?_))))))))))))))))))))
    exact L_ 0 r_ (o_ r_ (cd_ r_ (E_ r_ (T_ (aq_ r_ r_ (R_ (o_ r_ (bu_ r_ r_ r_ r_ r_ (S_ 2 r_ (E_ r_ (E_ r_ (T_ (ar_ (az_ (aw_ (jq_retRow2 rfl rfl rfl rfl rfl rfl 0 rfl (fun K h => by rw [e] at h; exact h) sub_end))))))))))))))))
  | some tn =>
    obtain ⟨t, n⟩ := tn
    rw [hr] at hall
    have hD := Depth_c 8 t (by omega)
    rw [dl_eq] at hD
    by_cases hd : 8 < t.dep
    · have e : exprL l = (none, 0, 4) := by unfold exprL; rw [hr]; exact if_pos hd
      have hd' : ((min t.dep (8 + 1) : Nat) : Int) > 8 := by omega
      refine R_ (o_ r_ (bl_ r_ r_ (fun bl => E_ r_ (E_ r_ (T_ (R_ (M_ r_ (o_ r_ (bu_ r_ r_ r_ r_ r_ (o_ r_ (ci_ r_ (fun bx => o_ r_ (bt_ [0] rfl rfl (hall _) (fun pp hpp => o_ r_ (bl_ r_ r_ (fun bl => S_ 0 r_ (T_ (B_ (R_ (F_ r_ ?_))))))))))))))))))))
      refine L_ 0 r_ ?_; refine o_ r_ (cd_ r_ ?_); refine E_ r_ ?_; refine T_ ?_; refine ap_ r_ r_ ?_; refine R_ ?_; refine F_ r_ ?_; refine o_ r_ (cp_ 0 r_ r_ r_ r_ r_ ?_); refine o_ r_ (bm_ r_ (hD) ?_); refine o_ r_ (bz_ r_ r_ ?_); refine E_ r_ ?_; refine T_ ?_; refine aq_ r_ u_ ?_; refine R_ ?_; refine o_ r_ (bu_ r_ r_ r_ r_ r_ ?_); refine S_ 2 r_ ?_
      exact E_ r_ (E_ r_ (T_ (ar_ (az_ (aw_ (jq_retRow2 rfl rfl rfl rfl rfl rfl 0 rfl (fun K h => by rw [e] at h; exact h) sub_end))))))
    · have e : exprL l = (some t, (n : Int), 0) := by unfold exprL; rw [hr]; exact if_neg hd
      have hd' : ¬ ((min t.dep (8 + 1) : Nat) : Int) > 8 := by omega
      refine R_ (o_ r_ (bl_ r_ r_ (fun bl => E_ r_ (E_ r_ (T_ (R_ (M_ r_ (o_ r_ (bu_ r_ r_ r_ r_ r_ (o_ r_ (ci_ r_ (fun bx => o_ r_ (bt_ [0] rfl rfl (hall _) (fun pp hpp => o_ r_ (bl_ r_ r_ (fun bl => S_ 0 r_ (T_ (B_ (R_ (F_ r_ ?_))))))))))))))))))))
      refine L_ 0 r_ ?_; refine o_ r_ (cd_ r_ ?_); refine E_ r_ ?_; refine T_ ?_; refine ap_ r_ r_ ?_; refine R_ ?_; refine F_ r_ ?_; refine o_ r_ (cp_ 0 r_ r_ r_ r_ r_ ?_); refine o_ r_ (bm_ r_ (hD) ?_); refine o_ r_ (bz_ r_ r_ ?_); refine E_ r_ ?_; refine T_ ?_; refine ap_ r_ w_ ?_; refine as_ ?_; refine ay_ ?_; refine al_ ?_
      refine am_ (jc_hp1 5 (n := 7) rfl 0 k_ rfl (fun cs1 hcs1 => ?_))
      obtain ⟨u10, u11, u12, u13, u14, u15, u16, rfl⟩ := len7 hcs1
      refine df_ (i := 0) rfl k_ k_ k_ b_ (by (repeat (first | refine pani_then ?_ | refine pani_block ?_)); exact pani_body) (dl_ rfl rfl rfl b_) ?_
      refine df_ (i := 1) rfl k_ k_ k_ b_ (by (repeat (first | refine pani_then ?_ | refine pani_block ?_)); exact pani_body) (hok_loadN 0 rfl rfl rfl mem0 rfl rfl) ?_
      refine df_ (i := 2) rfl k_ k_ k_ b_ (by (repeat (first | refine pani_then ?_ | refine pani_block ?_)); exact pani_body) (dl_ rfl rfl rfl b_) ?_
      refine df_ (i := 3) rfl k_ k_ k_ b_ (by (repeat (first | refine pani_then ?_ | refine pani_block ?_)); exact pani_body) (dm_ 0 rfl rfl rfl mem0 rfl) ?_
      refine hp_exact 0 rfl mem0 (dh_ (i := 4) r_ k_ (bk_ 2 r_ r_ r_ r_ r_ r_ ⟨?_, ?_⟩))
      exact keep1 1 rfl
      exact hp_tail (di_ (i := 5) rfl k_ b_ (by decide) (be_ rfl (di_ (i := 6) rfl k_ b_ (by decide) (be_ rfl (ht_done k_ (al_ (ar_ (jq_retRow2 rfl rfl rfl rfl rfl rfl 0 rfl (fun K h => by rw [e] at h; exact h) sub_end))))))))
theorem RXpr_c (l : List Tok) (hl : l.length ≤ 1000000) : Con Tryd.prog 12 [.cell (.list (l.map Tok.row))] [] (fun K => K (.tup [.row (ERow (exprL l).1), In .i64 (exprL l).2.1, In .i64 (exprL l).2.2]) []) := by
  have eL : (l.map Tok.row).length = l.length := List.length_map _
  refine con_intro Tryd.func12 rfl rfl (Nat.le_of_ble_eq_true rfl) (fun c hc => R_ (o_ r_ (bl_ r_ r_ (fun bl => E_ r_ (E_ r_ (T_ (am_ (R_ (M_ r_ (o_ r_ (br_ r_ (fun hlen => E_ r_ (T_ (au_ ?_))))))))))))))
  refine jc_loopS [] (fun n : Nat => n ≤ l.length ∧ ∀ j, j ≤ l.length → n < j → whole l (5 * l.length + 4) j = none) (fun n => [(0, .cell (.list (l.map Tok.row))), (2, Ptr bl), (5, In .i64 (n : Int))]) (fun _ => [.blk bl 27 Z5]) (fun n => n) l.length ⟨Nat.le_refl _, fun j h1 h2 => by omega⟩ ?_ ?_ ?_
  · exact bc_ 0 r_ sub_end
  · rw [← eL]
    (repeat (first | exact True.intro | refine ⟨rfl, ?_⟩))
  · rintro n ⟨hn, hno⟩
    refine jc_reset [(0, .cell (.list (l.map Tok.row))), (2, Ptr bl), (5, In .i64 (n : Int))] [.blk bl 27 Z5] ?_ ⟨[0], [], rfl⟩ ?_
    · (repeat (first | exact True.intro | refine ⟨rfl, ?_⟩))
    by_cases hn0 : 0 < n
    · have eT : (l.take n).length = n := by rw [List.length_take]; omega
      have con := fun b => rexpr_c (l := l.take n) (fr := true) (by omega) (5 * l.length + 4) b 0 (by omega) (by unfold need; omega)
      have eT2 : ((l.take n).map Tok.row).length = n := by rw [List.length_map]; exact eT
      have again : ∀ j, j ≤ l.length → n - 1 < j → whole l (5 * l.length + 4) n = none → whole l (5 * l.length + 4) j = none := by
        intro j h1 h2 h3
        by_cases hj : j = n
        · rw [hj]; exact h3
        · exact hno j h1 g_
      cases hs : sx true (l.take n) (5 * l.length + 4) 0 0 with
      | er code p =>
        have hw : whole l (5 * l.length + 4) n = none := by unfold whole; rw [hs]
        rw [hs] at con
        refine am_ (R_ (M_ r_ (o_ r_ (bz_ r_ r_ (T_ (aq_ r_ t_ (as_ (al_ (B_ (R_ (M_ r_ (M_ r_ (o_ r_ (ow_prefixMap r_ r_ hn (o_ r_ (bu_ r_ r_ r_ r_ r_ (o_ r_ (ci_ r_ (fun bx => E_ r_ ?_)))))))))))))))))))
        refine T_ (R_ (M_ r_ (o_ r_ (bt_ [0] rfl rfl (con _) (fun pp hpp => M_ r_ (X_ r_ (X_ r_ (o_ r_ (bl_ r_ r_ (fun bl => S_ 0 r_ (E_ r_ (T_ (am_ (R_ (M_ r_ (N_ r_ (F_ r_ ?_)))))))))))))))))
        refine L_ 1 r_ (o_ r_ (bx_ r_ r_ (M_ r_ (ai_ r_ t_ b_ (ai_ r_ t_ b_ (ai_ r_ t_ b_ (ai_ r_ t_ b_ (ai_ r_ t_ b_ (ai_ r_ t_ b_ (o_ r_ (bp_ r_ t_ r_ (T_ (aq_ r_ r_ (av_ (ax_ (ba_ (al_ ?_)))))))))))))))))
        refine an_ (M_ r_ (o_ r_ (cg_ r_ r_ g_ (E_ r_ (ak_ (jq_againS (n - 1) ⟨by omega, fun j h1 h2 => again j h1 h2 hw⟩ g_ ?_ ?_))))))
        · exact bc_ 2 r_ sub_end
        · rw [show ((n - 1 : Nat) : Int) = (n : Int) - 1 by omega]
          (repeat (first | exact True.intro | refine ⟨rfl, ?_⟩))
      | ok t m =>
        have hm := sx_bd _ _ _ _ _ hs
        rw [hs] at con
        by_cases hmn : m = n
        · subst hmn
          have hw : whole l (5 * l.length + 4) m = some t := by unfold whole; rw [hs]; exact if_pos rfl
          obtain ⟨t2, m2, h1, h2⟩ := whole_long hn hw
          have h3 := lx_bd _ _ _ _ _ h1
          have h4 := long_whole h1
          have h5 : m2 = m := by
            by_cases hlt : m < m2
            · rw [hno m2 h3.2 hlt] at h4; cases h4
            · omega
          subst h5
          rw [hw] at h4
          obtain rfl : t = t2 := by simpa using h4
          by_cases hd : 8 < t.dep
          · have e : exprL l = (none, 0, 4) := by unfold exprL; rw [h1]; exact if_pos hd
            have hd' : (t.dep : Int) > 8 := by omega
            refine am_ (R_ (M_ r_ (o_ r_ (bz_ r_ r_ (T_ (aq_ r_ t_ (as_ (al_ (B_ (R_ (M_ r_ (M_ r_ (o_ r_ (ow_prefixMap r_ r_ hn (o_ r_ (bu_ r_ r_ r_ r_ r_ (o_ r_ (ci_ r_ (fun bx => E_ r_ ?_)))))))))))))))))))
            refine T_ (R_ (M_ r_ (o_ r_ (bi_ [0] r_ r_ (con _) (M_ r_ (X_ r_ (X_ r_ (o_ r_ (bl_ r_ r_ (fun bl => S_ 0 r_ (E_ r_ (T_ (am_ (R_ (M_ r_ (N_ r_ (F_ r_ ?_)))))))))))))))))
            refine L_ 1 r_ (o_ r_ (bx_ r_ r_ (M_ r_ (ah_ r_ r_ b_ (bd_ r_ (ah_ r_ r_ b_ (bh_ r_ (ah_ r_ r_ b_ (bf_ r_ r_ r_ b_ (ah_ r_ r_ b_ (bg_ 1 r_ r_ r_ r_ (ah_ r_ r_ b_ (bd_ r_ (ah_ r_ r_ b_ (bx_ r_ r_ (o_ r_ (bv_ r_ r_ r_ (T_ (ap_ r_ v_ (as_ (al_ (am_ (R_ ?_)))))))))))))))))))))))
            refine M_ r_ (o_ r_ (bz_ r_ r_ (T_ (aq_ r_ u_ (R_ (o_ r_ (bu_ r_ r_ r_ r_ r_ (S_ 2 r_ (E_ r_ (E_ r_ (T_ (ar_ (aw_ (az_ (aw_ (aw_ (az_ ?_)))))))))))))))))
            exact aw_ (jq_retRow2 rfl rfl rfl rfl rfl rfl 0 rfl (fun K h => by rw [e] at h; exact h) sub_end)
          · have e : exprL l = (some t, (m2 : Int), 0) := by unfold exprL; rw [h1]; exact if_neg hd
            have hd' : ¬ (t.dep : Int) > 8 := by omega
            refine am_ (R_ (M_ r_ (o_ r_ (bz_ r_ r_ (T_ (aq_ r_ t_ (as_ (al_ (B_ (R_ (M_ r_ (M_ r_ (o_ r_ (ow_prefixMap r_ r_ hn (o_ r_ (bu_ r_ r_ r_ r_ r_ (o_ r_ (ci_ r_ (fun bx => E_ r_ ?_)))))))))))))))))))
            refine T_ (R_ (M_ r_ (o_ r_ (bi_ [0] r_ r_ (con _) (M_ r_ (X_ r_ (X_ r_ (o_ r_ (bl_ r_ r_ (fun bl => S_ 0 r_ (E_ r_ (T_ (am_ (R_ (M_ r_ (N_ r_ (F_ r_ ?_)))))))))))))))))
            refine L_ 1 r_ (o_ r_ (bx_ r_ r_ (M_ r_ (ah_ r_ r_ b_ (bd_ r_ (ah_ r_ r_ b_ (bh_ r_ (ah_ r_ r_ b_ (bf_ r_ r_ r_ b_ (ah_ r_ r_ b_ (bg_ 1 r_ r_ r_ r_ (ah_ r_ r_ b_ (bd_ r_ (ah_ r_ r_ b_ (bx_ r_ r_ (o_ r_ (bv_ r_ r_ r_ (T_ (ap_ r_ v_ (as_ (al_ (am_ (R_ ?_)))))))))))))))))))))))
            refine M_ r_ (o_ r_ (bz_ r_ r_ (T_ (ap_ r_ w_ (as_ (al_ (R_ (A_ 0 r_ (M_ r_ (S_ 2 r_ (E_ r_ (E_ r_ (T_ (ar_ (az_ (aw_ ?_))))))))))))))))
            exact aw_ (az_ (aw_ (jq_retRow2 rfl rfl rfl rfl rfl rfl 0 rfl (fun K h => by rw [e] at h; exact h) sub_end)))
        · have hw : whole l (5 * l.length + 4) n = none := by unfold whole; rw [hs]; exact if_neg hmn
          have hmn' : ¬ (m : Int) = (n : Int) := by omega
          refine am_ (R_ (M_ r_ (o_ r_ (bz_ r_ r_ (T_ (aq_ r_ t_ (as_ (al_ (B_ (R_ (M_ r_ (M_ r_ (o_ r_ (ow_prefixMap r_ r_ hn (o_ r_ (bu_ r_ r_ r_ r_ r_ (o_ r_ (ci_ r_ (fun bx => E_ r_ ?_)))))))))))))))))))
          refine T_ (R_ (M_ r_ (o_ r_ (bi_ [0] r_ r_ (con _) (M_ r_ (X_ r_ (X_ r_ (o_ r_ (bl_ r_ r_ (fun bl => S_ 0 r_ (E_ r_ (T_ (am_ (R_ (M_ r_ (N_ r_ (F_ r_ ?_)))))))))))))))))
          refine L_ 1 r_ (o_ r_ (bx_ r_ r_ (M_ r_ (ah_ r_ r_ b_ (bd_ r_ (ah_ r_ r_ b_ (bh_ r_ (ah_ r_ r_ b_ (bf_ r_ r_ r_ b_ (ah_ r_ r_ b_ (bg_ 1 r_ r_ r_ r_ (ah_ r_ r_ b_ (bd_ r_ (ah_ r_ r_ b_ (bx_ r_ r_ (o_ r_ (bv_ r_ r_ r_ (T_ (aq_ r_ u_ (av_ (ax_ (ba_ (al_ ?_)))))))))))))))))))))))
          refine an_ (M_ r_ (o_ r_ (cg_ r_ r_ g_ (E_ r_ (ak_ (jq_againS (n - 1) ⟨by omega, fun j h1 h2 => again j h1 h2 hw⟩ g_ ?_ ?_))))))
          · exact bc_ 2 r_ sub_end
          · rw [show ((n - 1 : Nat) : Int) = (n : Int) - 1 by omega]
            (repeat (first | exact True.intro | refine ⟨rfl, ?_⟩))
    · obtain rfl : n = 0 := by omega
      have e : exprL l = (none, 0, 1) := by
        unfold exprL
        cases hr : lx l (5 * l.length + 4) 0 0 with
        | none => rfl
        | some tn =>
          obtain ⟨t, m⟩ := tn
          have h1 := lx_bd _ _ _ _ _ hr
          have h2 := hno m h1.2 h1.1
          rw [long_whole hr] at h2
          cases h2
      refine am_ (R_ (M_ r_ (o_ r_ (bz_ r_ r_ (T_ (ap_ r_ r_ (av_ (ax_ (ax_ (ba_ (al_ (R_ (o_ r_ (bu_ r_ r_ r_ r_ r_ (S_ 0 r_ (E_ r_ (E_ r_ ?_)))))))))))))))))
      exact T_ (ar_ (jq_retRow2 rfl rfl rfl rfl rfl rfl 0 rfl (fun K h => by rw [e] at h; exact h) sub_end))
end Go.Proofs.YtamajcgdfjeehaaDoor
end

section
namespace Go.Proofs.YtamajcgdfjeehaaDoor
open Go.Vc
attribute [local irreducible] JL JC JQ OpWp Con ConN Pan ConE OpPan HP HT HOk hasW idxW isA isNum isNm numAt txtAt lineAt opAt lx lpx sx sxp
set_option maxHeartbeats 4000000

/-! The reference's parser: where it is (n), or that it has noted an error (e) -/
inductive Z where
  | n (a : Nat)
  | e (a q : Nat) (code : Int)
abbrev RZ (b : Nat) (l : List Tok) : Z → Ch
  | .n a => Rz b l a 0 0 false
  | .e a q code => Rz b l a (lineAt l q) code false
def mu (l : List Tok) : Z → Nat
  | .n a => l.length - a + 1
  | .e _ _ _ => 0
def Z.ok (l : List Tok) : Z → Prop
  | .n a => a ≤ l.length
  | .e a _ code => a ≤ l.length ∧ ¬ code = 0
def rz {α : Type} (g : Nat → R α) : Z → R α
  | .n a => g a
  | .e _ q code => .er code q
def isZ (l : List Tok) : Z → ByteArray → Bool
  | .n a, w => isA l a w
  | .e _ _ _, _ => false
structure Tr {α : Type} (l : List Tok) (g : Nat → R α) (σ : Z) (x : α) (σ' : Z) : Prop where
  eq : rz g σ = rz (R.ok x) σ'
  ok : σ'.ok l
  mu : mu l σ' ≤ mu l σ
def TrO {α : Type} (l : List Tok) (g : Nat → R α) (σ : Z) (o : Option α) (σ' : Z) : Prop := ∃ v, Tr l g σ v σ' ∧ (0 < mu l σ' → o = some v)
theorem rz_bind {α β : Type} {g : Nat → R α} {K : α → Nat → R β} {σ : Z} : rz (fun a => (g a).bind K) σ = (rz g σ).bind K := by cases σ <;> rfl
theorem Tr.bind {α β : Type} {l : List Tok} {g : Nat → R α} {K : α → Nat → R β} {σ σ' : Z} {x : α} {r : R β} (h : Tr l g σ x σ') (e : r = rz (fun a => (g a).bind K) σ) : r = rz (K x) σ' := by
  rw [e, rz_bind, h.eq]
  cases σ' <;> rfl
section
variable {α : Type} {l : List Tok} {g : Nat → R α} {a c q : Nat} {code : Int} {x : α}
theorem tr_ok (e : g a = .ok x c) (h : a ≤ c ∧ c ≤ l.length) : Tr l g (.n a) x (.n c) := ⟨e, h.2, by simp only [mu]; omega⟩
theorem tr_er {a' : Nat} (e : g a = .er code q) (hc : ¬ code = 0) (h : a' ≤ l.length) : Tr l g (.n a) x (.e a' q code) := ⟨e, ⟨h, hc⟩, by simp only [mu]; omega⟩
theorem tr_e (h : (Z.e a q code).ok l) : Tr l g (.e a q code) x (.e a q code) := ⟨rfl, h, Nat.le_refl _⟩
theorem Tr.o {σ σ' : Z} (h : Tr l g σ x σ') : TrO l g σ (some x) σ' := ⟨x, h, fun _ => rfl⟩
theorem TrO.none {σ : Z} (h : Tr l g σ x (.e a q code)) : TrO l g σ none (.e a q code) := ⟨x, h, fun h => absurd h (Nat.lt_irrefl _)⟩
/-- How a function ends. -/
theorem tr_end {σ σ' : Z} {r : R α} (hr : rz g σ = r) (e : r = rz (fun b => .ok x b) σ') (h : σ'.ok l ∧ mu l σ' ≤ mu l σ) : Tr l g σ x σ' := ⟨hr.trans e, h.1, h.2⟩
end
/-- A step of the reference's parser. -/
abbrev ZC {α : Type} (f : FuncId) (b : Nat) (l : List Tok) (args : List S) (res : α → S) (g : Nat → R α) (σ : Z) : Prop := Con Tryd.prog f (Ptr b :: args) [RZ b l σ] (fun K => ∀ p : α × Z, Tr l g σ p.1 p.2 → K (res p.1) [RZ b l p.2])
/-- .. whose result is known only where there is no error. -/
abbrev ZO {α : Type} (f : FuncId) (b : Nat) (l : List Tok) (args : List S) (res : Option α → Int → S) (g : Nat → R α) (σ : Z) : Prop := Con Tryd.prog f (Ptr b :: args) [RZ b l σ] (fun K => ∀ p : (Option α × Int) × Z, TrO l g σ p.1.1 p.2 → K (res p.1.1 p.1.2) [RZ b l p.2])
theorem con_mono {P : Program} [Gl P] {f : FuncId} {args : List S} {Hin : List Ch} {post post' : (S → List Ch → Prop) → Prop} (con : Con P f args Hin post) (h : ∀ K, post' K → post K) : Con P f args Hin post' := by
  unfold Con ConN at con ⊢
  exact fun vs w A h1 h2 h3 h4 h5 h6 => (con vs w A h1 h2 h3 h4 h5 h6).mono fun e w' ⟨v, s, Hout, he, hK, r⟩ => ⟨v, s, Hout, he, fun K hk => hK K (h K hk), r⟩
section
variable {nt : Nat} {c : Cx Tryd.prog nt} {env : Env} {H Hr : List Ch} {ops : Array Oper} {ls : List Oper} {Q : Exit → Act → World → Prop} {Sw : World → Prop} {m fuel : Nat} {listed : Array Bool} {i : Nat} {α β : Type} {l : List Tok} {b : Nat} {r : R β} {g : Nat → R α} {K : α → Nat → R β} {σ : Z} {fid : FuncId} [FI Tryd.prog fid] {args : List S} {xs : Array Operand} {at_ : Array TypeId} {d : Tmp} {ty : TypeId} {pos : String} {af : Array Edge}
theorem jl_bindZ {res : α → S} (is : List Nat) (hx : env.evs xs.toList = some (Ptr b :: args)) (hp : pick is H = some ([RZ b l σ], Hr)) (con : ZC fid b l args res g σ) (he : r = rz (fun a => (g a).bind K) σ) (hd : d < nt)
    (h : ∀ x σ', σ'.ok l ∧ mu l σ' ≤ mu l σ → r = rz (K x) σ' → JL c ops Q ls ((d, res x) :: env) ([RZ b l σ'] ++ Hr)) : JL c ops Q (⟨some d, .call { callee := .value (.func fid), args := xs, argTypes := at_ }, ty, pos, af, none⟩ :: ls) env H :=
  jl_op (ow_callP is hx hp con (fun p hp => h p.1 p.2 ⟨hp.ok, hp.mu⟩ (hp.bind he))) hd
theorem jl_bindZO {res : Option α → Int → S} (is : List Nat) (hx : env.evs xs.toList = some (Ptr b :: args)) (hp : pick is H = some ([RZ b l σ], Hr)) (con : ZO fid b l args res g σ) (he : r = rz (fun a => (g a).bind K) σ) (hd : d < nt)
    (h : ∀ o k v σ', σ'.ok l ∧ mu l σ' ≤ mu l σ → (0 < mu l σ' → o = some v) → r = rz (K v) σ' → JL c ops Q ls ((d, res o k) :: env) ([RZ b l σ'] ++ Hr)) : JL c ops Q (⟨some d, .call { callee := .value (.func fid), args := xs, argTypes := at_ }, ty, pos, af, none⟩ :: ls) env H :=
  jl_op (ow_callP is hx hp con (fun p ⟨v, hp, hv⟩ => h p.1.1 p.1.2 v p.2 ⟨hp.ok, hp.mu⟩ hv (hp.bind he))) hd
theorem hp_bindZ {res : α → S} (hi : ops[i]? = some ⟨some d, .call { callee := .value (.func fid), args := xs, argTypes := at_ }, ty, pos, af, none⟩) (hr : Region.ready .any ops listed = [i]) (hd : d < nt) (is : List Nat)
    (hx : env.evs xs.toList = some (Ptr b :: args)) (hp : pick is H = some ([RZ b l σ], Hr)) (con : ZC fid b l args res g σ) (he : r = rz (fun a => (g a).bind K) σ)
    (h : ∀ x σ', σ'.ok l ∧ mu l σ' ≤ mu l σ → r = rz (K x) σ' → (∀ w, StW c ([RZ b l σ'] ++ Hr) w → Sw w) ∧ HP c ops Q Sw m fuel (listed.setIfInBounds i true) ((d, res x) :: env) ([RZ b l σ'] ++ Hr)) : HP c ops Q Sw m (fuel + 1) listed env H :=
  hp_op hi hr hd (ow_callP is hx hp con (fun p hp => h p.1 p.2 ⟨hp.ok, hp.mu⟩ (hp.bind he)))
theorem hp_bindZO {res : Option α → Int → S} (hi : ops[i]? = some ⟨some d, .call { callee := .value (.func fid), args := xs, argTypes := at_ }, ty, pos, af, none⟩) (hr : Region.ready .any ops listed = [i]) (hd : d < nt) (is : List Nat)
    (hx : env.evs xs.toList = some (Ptr b :: args)) (hp : pick is H = some ([RZ b l σ], Hr)) (con : ZO fid b l args res g σ) (he : r = rz (fun a => (g a).bind K) σ)
    (h : ∀ o k v σ', σ'.ok l ∧ mu l σ' ≤ mu l σ → (0 < mu l σ' → o = some v) → r = rz (K v) σ' → (∀ w, StW c ([RZ b l σ'] ++ Hr) w → Sw w) ∧ HP c ops Q Sw m fuel (listed.setIfInBounds i true) ((d, res o k) :: env) ([RZ b l σ'] ++ Hr)) : HP c ops Q Sw m (fuel + 1) listed env H :=
  hp_op hi hr hd (ow_callP is hx hp con (fun p ⟨v, hp, hv⟩ => h p.1.1 p.1.2 v p.2 ⟨hp.ok, hp.mu⟩ hv (hp.bind he)))
end

/-! Cells that are known only where there is no error -/
def oC {α : Type} (f : α → C) : Option α → C
  | none => .any
  | some x => f x
abbrev oT (o : Option T) : List C := [oC (fun t => .val (.int .i64 t.kind)) o, oC (fun t => .val (.int .i64 t.num)) o, oC (fun t => .val (.string t.name)) o, oC (fun t => .val (.int .i64 t.op)) o, oC (fun t => .list (t.args.map T.row)) o]
section
variable {l : List Tok} {b : Nat} {σ : Z} (hl : l.length ≤ 1000000)
theorem rskip_zn (hσ : σ.ok l) {w : ByteArray} (h : isZ l σ w = false) : Con Tryd.prog 67 [Ptr b, Str w] [RZ b l σ] (fun K => K (Bl false) [RZ b l σ]) := by
  cases σ with
  | n a => exact rskip_n hσ h
  | e a q code => exact rskip_e hσ.2 w
include hl
theorem rneed_z (hσ : σ.ok l) (w : ByteArray) : ZC 101 b l [Str w] (fun _ : Unit => .tup []) (wdG l w) σ := by
  cases σ with
  | n a =>
    cases h : isA l a w with
    | true => exact con_mono (rneed_y hl hσ h) fun K h2 => h2 ((), .n (a + 1)) (tr_ok (by rw [wdG, if_pos h]) (by have := isA_lt h; omega))
    | false => exact con_mono (rneed_n hl hσ h) fun K h2 => h2 ((), .e a a 1) (tr_er (by rw [wdG, if_neg (by rw [h]; decide)]) (by decide) hσ)
  | e a q code => exact con_mono (rneed_e hσ.2 w) fun K h2 => h2 ((), .e a q code) (tr_e hσ)
theorem rname_z (hσ : σ.ok l) : ZC 68 b l [] (fun s : ByteArray => Str s) (nmG l) σ := by
  cases σ with
  | n a =>
    cases h : isNm l a with
    | true => exact con_mono (rname_y hl hσ h) fun K h2 => h2 (_, .n (a + 1)) (tr_ok (by rw [nmG, if_pos h]) (by have := isNm_lt h; omega))
    | false => exact con_mono (rname_n hl hσ h) fun K h2 => h2 (_, .e a a 1) (tr_er (by rw [nmG, if_neg (by rw [h]; decide)]) (by decide) hσ)
  | e a q code => exact con_mono (rname_e hσ.2) fun K h2 => h2 (_, .e a q code) (tr_e hσ)
theorem rnum_z (hσ : σ.ok l) : ZC 69 b l [] (fun n : Int => In .i64 n) (nuG l) σ := by
  cases σ with
  | n a =>
    cases h : isNum l a with
    | true => exact con_mono (rnum_y hl hσ h) fun K h2 => h2 (_, .n (a + 1)) (tr_ok (by rw [nuG, if_pos h]) (by have := isNum_lt h; omega))
    | false => exact con_mono (rnum_n hl hσ h) fun K h2 => h2 (_, .e a a 1) (tr_er (by rw [nuG, if_neg (by rw [h]; decide)]) (by decide) hσ)
  | e a q code => exact con_mono (rnum_e hσ.2) fun K h2 => h2 (_, .e a q code) (tr_e hσ)
omit hl in
theorem rexpr_zE {a q : Nat} {code : Int} (hσ : (Z.e a q code).ok l) : Con Tryd.prog 29 [Ptr b] [RZ b l (.e a q code)] (fun K => K (.tup [.row A5, In .i64 0]) [RZ b l (.e a q code)]) := by
  have h := level_e (b := b) (l := l) (a := a) (ln := lineAt l q) (fr := false) hσ.2 0 (by omega)
  refine con_intro Tryd.func29 rfl rfl (Nat.le_of_ble_eq_true rfl) (fun c hc => R_ (o_ r_ (bl_ r_ r_ (fun bl => E_ r_ (T_ (R_ (M_ r_ (o_ r_ (bi_ [1] r_ r_ (h) (X_ r_ (X_ r_ (S_ 1 r_ (E_ r_ (T_ (ar_ (jq_row 0 A5 rfl ?_ ?_))))))))))))))))
  · (repeat (first | exact RowLe.nil | refine RowLe.cons (CLe.any _) ?_))
  exact jq_retRowT rfl rfl rfl rfl rfl 0 rfl (fun K h => h) (bc_ 1 r_ sub_end)
theorem rexpr_z (hσ : σ.ok l) : ZO 29 b l [] (fun o k => .tup [.row (oT o), In .i64 k]) (exG l) σ := by
  cases σ with
  | n a =>
    have con := rexpr_c (l := l) (fr := false) hl (5 * l.length + 4) b a hσ (by unfold need; omega)
    cases h : sx false l (5 * l.length + 4) 0 a with
    | ok t c =>
      rw [h] at con
      have := sx_bd _ _ _ _ _ h
      exact con_mono con fun K h2 => h2 ((some t, _), .n c) (tr_ok h (by omega)).o
    | er code p =>
      rw [h] at con
      exact con_mono con fun K h2 g hg => h2 ((none, g.2), .e g.1 p code) (TrO.none (x := T.nu 0) (tr_er h hg.2 hg.1))
  | e a q code => exact con_mono (rexpr_zE hσ) fun K h2 => h2 ((none, 0), .e a q code) (TrO.none (x := T.nu 0) (tr_e hσ))
theorem rnumber_z (hσ : σ.ok l) : ZC 102 b l [] (fun n : Int => In .i64 n) (nbG l) σ := by
  generalize hr : rz (nbG l) σ = r
  refine con_intro Tryd.func102 rfl rfl (Nat.le_of_ble_eq_true rfl) (fun c hc => ?_)
  cases h : isZ l σ W45 with
  | true =>
    obtain ⟨a, rfl⟩ : ∃ a, σ = .n a := by cases σ with | n a => exact ⟨a, rfl⟩ | e a q code => cases h
    have hlt := isA_lt h
    have e : r = rz (fun b => (nuG l b).bind fun n b => .ok (ngI n) b) (.n (a + 1)) := by rw [← hr]; show nbG l a = _; rw [nbG, if_pos (show isA l a W45 = true from h)]; rfl
    have h0 : (Z.n (a + 1)).ok l ∧ mu l (.n (a + 1)) ≤ mu l (.n a) := ⟨by show a + 1 ≤ _; omega, by simp only [mu]; omega⟩
    refine R_ (E_ r_ (T_ (am_ (R_ (M_ r_ (o_ r_ (bi_ [0] r_ r_ (rskip_y hl hσ h) (T_ (aq_ r_ r_ (R_ (M_ r_ (jl_bindZ [0] rfl rfl (rnum_z hl h0.1) e (nb rfl) (fun n s g e => o_ r_ (ow_negW r_ (E_ r_ (T_ (ar_ ?_)))))))))))))))))
    exact aw_ (jq_ret1S rfl rfl (fun K h => h (ngI n, s) (tr_end hr e ⟨g.1, by dsimp only; omega⟩)) (bc_ 0 r_ sub_end))
  | false =>
    have e : r = rz (fun b => (nuG l b).bind fun n b => .ok n b) σ := by
      rw [← hr]
      cases σ with
      | n a => show nbG l a = (nuG l a).bind _; rw [nbG, if_neg (by rw [show isA l a W45 = false from h]; decide), R.bind_ok]
      | e a q code => rfl
    refine R_ (E_ r_ (T_ (am_ (R_ (M_ r_ (o_ r_ (bi_ [0] r_ r_ (rskip_zn hσ h) (T_ (ap_ r_ r_ (as_ (al_ (R_ (M_ r_ (jl_bindZ [0] rfl rfl (rnum_z hl hσ) e (nb rfl) (fun n s g e => E_ r_ (T_ ?_))))))))))))))))
    exact ar_ (jq_ret1S rfl rfl (fun K h => h (n, s) (tr_end hr e ⟨g.1, by dsimp only; omega⟩)) (bc_ 0 r_ sub_end))
end
end Go.Proofs.YtamajcgdfjeehaaDoor
end

section
namespace Go.Proofs.YtamajcgdfjeehaaDoor
open Go.Vc
attribute [local irreducible] JL JC JQ OpWp Con ConN Pan ConE OpPan HP HT HOk hasW idxW isA isNum isNm numAt txtAt lineAt opAt lx lpx sx sxp exG startA stmtG stmtsL blkG wdG nmG nuG nbG
set_option maxHeartbeats 4000000

def StP (l : List Tok) (F : Nat) : Prop := ∀ (b w a : Nat) (d : Int), d = (w : Int) + 1 → w ≤ 8 → a ≤ l.length → l.length - a + 1 ≤ F → PC 110 l b [In .i64 d] a SmS (stG l F w a)
def BkP (l : List Tok) (F : Nat) : Prop := ∀ (b w a : Nat) (d : Int), d = (w : Int) + 1 → w ≤ 8 → a ≤ l.length → l.length - a ≤ F → PC 124 l b [In .i64 d] a SlS (blkG l (stmtG l F w) w F a)
theorem cle_T1 (x : T) : CLe (.list [x.row']) (.list ([x].map T.row)) := CLe.eq (by simp [T.row_eq])
section
variable {l : List Tok} {a b : Nat} (hl : l.length ≤ 1000000)
include hl
theorem pstmt_step (F : Nat) (hB : BkP l F) : StP l (F + 1) := by
  intro b w a d hd hw ha hF
  refine ⟨?_, fun x c e => by
    unfold stG at e
    split at e
    · split at e
      · cases e
      · exact stmtG_bd _ _ _ _ _ e
    · cases e⟩
  refine con_introE Tryd.func110 rfl rfl (Nat.le_of_ble_eq_true rfl) (fun c hc => ?_)
  generalize hfin : finR l b SmS (stG l (F + 1) w a) = fin0
  have e := hfin.symm
  rw [stG] at e
  cases hst : startA l a with
  | false =>
    rw [if_neg (by rw [hst]; decide)] at e
    have e : fin0 = .pan (stopV l 1 a) := e
    obtain ⟨h1, h2, h3, h4⟩ := start_n hst
    refine R_ (o_ r_ (bl_ r_ r_ (fun bl => T_ (am_ (R_ (M_ r_ (o_ r_ (bi_ [1] r_ r_ (named_n ha h4) (o_ r_ (cd_ r_ (M_ r_ (ah_ r_ r_ b_ (bd_ r_ (ah_ r_ r_ b_ (bi_ [0] r_ r_ (is_n ha h1) (ah_ r_ r_ b_ (cd_ r_ (o_ r_ (bp_ r_ r_ r_ (M_ r_ (ah_ r_ r_ b_ (bd_ r_ (ah_ r_ r_ b_ (bi_ [0] r_ r_ (is_n ha h2) ?_))))))))))))))))))))))))
    refine ah_ r_ r_ b_ (cd_ r_ (o_ r_ (bp_ r_ r_ r_ (M_ r_ (ah_ r_ r_ b_ (bd_ r_ (ah_ r_ r_ b_ (bi_ [0] r_ r_ (is_n ha h3) (ah_ r_ r_ b_ (cd_ r_ (o_ r_ (bp_ r_ r_ r_ (T_ (aq_ r_ r_ (an_ (M_ r_ (M_ r_ (N_ r_ (F_ r_ (L_ 0 r_ ?_))))))))))))))))))))
    exact jl_pan (op_pan [0] rfl rfl (pfail_c hl 1 a g_)) (by (repeat (first | refine pq_then ?_ | refine pq_block ?_)); exact pq_fin (by first | rfl | assumption))
  | true =>
    have hlt := start_lt hst
    rw [if_pos hst] at e
    by_cases hw8 : 8 ≤ w
    · rw [if_pos hw8] at e
      have e : fin0 = .pan (stopV l 4 a) := e
      have hd8 : d > 8 := by omega
      cases h4 : isNm l a with
      | true =>
        refine R_ (o_ r_ (bl_ r_ r_ (fun bl => T_ (am_ (R_ (M_ r_ (o_ r_ (bi_ [1] r_ r_ (named_y ha h4) (o_ r_ (cd_ r_ (M_ r_ (ai_ r_ r_ b_ (ai_ r_ r_ b_ (ai_ r_ r_ b_ (o_ r_ (bv_ r_ r_ r_ (M_ r_ (ai_ r_ r_ b_ (ai_ r_ r_ b_ ?_)))))))))))))))))))
        refine ai_ r_ r_ b_ (o_ r_ (bv_ r_ r_ r_ (M_ r_ (ai_ r_ r_ b_ (ai_ r_ r_ b_ (ai_ r_ r_ b_ (o_ r_ (bv_ r_ r_ r_ (T_ (ap_ r_ r_ (as_ (al_ (am_ (R_ (M_ r_ (o_ r_ (bz_ r_ r_ (T_ ?_))))))))))))))))))
        refine aq_ r_ u_ (an_ (M_ r_ (M_ r_ (N_ r_ (F_ r_ (L_ 0 r_ ?_))))))
        exact jl_pan (op_pan [0] rfl rfl (pfail_c hl 4 a g_)) (by (repeat (first | refine pq_then ?_ | refine pq_block ?_)); exact pq_fin (by first | rfl | assumption))
      | false =>
        cases h1 : isA l a Kif with
        | true =>
          refine R_ (o_ r_ (bl_ r_ r_ (fun bl => T_ (am_ (R_ (M_ r_ (o_ r_ (bi_ [1] r_ r_ (named_n ha h4) (o_ r_ (cd_ r_ (M_ r_ (ah_ r_ r_ b_ (bd_ r_ (ah_ r_ r_ b_ (bi_ [0] r_ r_ (is_y ha h1) (ah_ r_ r_ b_ (cd_ r_ (o_ r_ (bp_ r_ r_ r_ (M_ r_ (ai_ r_ r_ b_ (ai_ r_ r_ b_ ?_))))))))))))))))))))))
          refine ai_ r_ r_ b_ (o_ r_ (bv_ r_ r_ r_ (M_ r_ (ai_ r_ r_ b_ (ai_ r_ r_ b_ (ai_ r_ r_ b_ (o_ r_ (bv_ r_ r_ r_ (T_ (ap_ r_ r_ (as_ (al_ (am_ (R_ (M_ r_ (o_ r_ (bz_ r_ r_ (T_ ?_))))))))))))))))))
          refine aq_ r_ u_ (an_ (M_ r_ (M_ r_ (N_ r_ (F_ r_ (L_ 0 r_ ?_))))))
          exact jl_pan (op_pan [0] rfl rfl (pfail_c hl 4 a g_)) (by (repeat (first | refine pq_then ?_ | refine pq_block ?_)); exact pq_fin (by first | rfl | assumption))
        | false =>
          cases h2 : isA l a Kwhile with
          | true =>
            refine R_ (o_ r_ (bl_ r_ r_ (fun bl => T_ (am_ (R_ (M_ r_ (o_ r_ (bi_ [1] r_ r_ (named_n ha h4) (o_ r_ (cd_ r_ (M_ r_ (ah_ r_ r_ b_ (bd_ r_ (ah_ r_ r_ b_ (bi_ [0] r_ r_ (is_n ha h1) (ah_ r_ r_ b_ (cd_ r_ (o_ r_ (bp_ r_ r_ r_ (M_ r_ (ah_ r_ r_ b_ (bd_ r_ (ah_ r_ r_ b_ (bi_ [0] r_ r_ (is_y ha h2) ?_))))))))))))))))))))))))
            refine ah_ r_ r_ b_ (cd_ r_ (o_ r_ (bp_ r_ r_ r_ (M_ r_ (ai_ r_ r_ b_ (ai_ r_ r_ b_ (ai_ r_ r_ b_ (o_ r_ (bv_ r_ r_ r_ (T_ (ap_ r_ r_ (as_ (al_ (am_ (R_ (M_ r_ (o_ r_ (bz_ r_ r_ (T_ ?_)))))))))))))))))))
            refine aq_ r_ u_ (an_ (M_ r_ (M_ r_ (N_ r_ (F_ r_ (L_ 0 r_ ?_))))))
            exact jl_pan (op_pan [0] rfl rfl (pfail_c hl 4 a g_)) (by (repeat (first | refine pq_then ?_ | refine pq_block ?_)); exact pq_fin (by first | rfl | assumption))
          | false =>
            have h3 : isA l a Klock = true := by rw [startA, h1, h2, h4] at hst; simpa using hst
            refine R_ (o_ r_ (bl_ r_ r_ (fun bl => T_ (am_ (R_ (M_ r_ (o_ r_ (bi_ [1] r_ r_ (named_n ha h4) (o_ r_ (cd_ r_ (M_ r_ (ah_ r_ r_ b_ (bd_ r_ (ah_ r_ r_ b_ (bi_ [0] r_ r_ (is_n ha h1) (ah_ r_ r_ b_ (cd_ r_ (o_ r_ (bp_ r_ r_ r_ (M_ r_ (ah_ r_ r_ b_ (bd_ r_ (ah_ r_ r_ b_ (bi_ [0] r_ r_ (is_n ha h2) ?_))))))))))))))))))))))))
            refine ah_ r_ r_ b_ (cd_ r_ (o_ r_ (bp_ r_ r_ r_ (M_ r_ (ah_ r_ r_ b_ (bd_ r_ (ah_ r_ r_ b_ (bi_ [0] r_ r_ (is_y ha h3) (ah_ r_ r_ b_ (cd_ r_ (o_ r_ (bp_ r_ r_ r_ (T_ (ap_ r_ r_ (as_ (al_ (am_ (R_ (M_ r_ (o_ r_ (bz_ r_ r_ (T_ ?_))))))))))))))))))))))
            refine aq_ r_ u_ (an_ (M_ r_ (M_ r_ (N_ r_ (F_ r_ (L_ 0 r_ ?_))))))
            exact jl_pan (op_pan [0] rfl rfl (pfail_c hl 4 a g_)) (by (repeat (first | refine pq_then ?_ | refine pq_block ?_)); exact pq_fin (by first | rfl | assumption))
    · rw [if_neg hw8, stmtG] at e
      have hd8 : ¬ d > 8 := by omega
      cases h1 : isA l a Kif with
      | true =>
        rw [if_pos h1] at e
        have h4 := kw_nm h1 (by decide +kernel)
        refine R_ (o_ r_ (bl_ r_ r_ (fun bl => T_ (am_ (R_ (M_ r_ (o_ r_ (bi_ [1] r_ r_ (named_n ha h4) (o_ r_ (cd_ r_ (M_ r_ (ah_ r_ r_ b_ (bd_ r_ (ah_ r_ r_ b_ (bi_ [0] r_ r_ (is_y ha h1) (ah_ r_ r_ b_ (cd_ r_ (o_ r_ (bp_ r_ r_ r_ (M_ r_ (ai_ r_ r_ b_ (ai_ r_ r_ b_ ?_))))))))))))))))))))))
        refine ai_ r_ r_ b_ (o_ r_ (bv_ r_ r_ r_ (M_ r_ (ai_ r_ r_ b_ (ai_ r_ r_ b_ (ai_ r_ r_ b_ (o_ r_ (bv_ r_ r_ r_ (T_ (ap_ r_ r_ (as_ (al_ (am_ (R_ (M_ r_ (o_ r_ (bz_ r_ r_ (T_ ?_))))))))))))))))))
        refine ap_ r_ w_ (as_ (al_ (B_ (R_ (M_ r_ (o_ r_ (bi_ [0] r_ r_ (has_y hl ha h1) (E_ r_ (T_ (aq_ r_ r_ (R_ (M_ r_ (jl_bindE [0] rfl rfl (pexpr_p hl g_) e (fun v hv => by (repeat (first | refine pq_then ?_ | refine pq_block ?_)); exact pq_fin hv) (nb rfl) (fun x b1 k1 g1 e => ?_))))))))))))))
        refine o_ r_ (bq_ r_ r_ b_ r_ r_ b_ (o_ r_ (bu_ r_ r_ r_ r_ r_ (o_ r_ (bl_ r_ r_ (fun bl => S_ 0 r_ (T_ (R_ (M_ r_ (jl_bindE [1] rfl rfl (pword_p hl g_ Klabel) e (fun v hv => by (repeat (first | refine pq_then ?_ | refine pq_block ?_)); exact pq_fin hv) (nb rfl) (fun u b2 k2 g2 e => ?_)))))))))))
        refine T_ (R_ (M_ r_ (jl_bindE [0] rfl rfl (pnum_p hl g_) e (fun v hv => by (repeat (first | refine pq_then ?_ | refine pq_block ?_)); exact pq_fin hv) (nb rfl) (fun n b3 k3 g3 e => ?_))))
        refine F_ r_ (W_ 1 r_ (T_ (R_ (M_ r_ (M_ r_ (o_ r_ (bj_ r_ r_ g_ (jl_bindE [1] rfl rfl (hB b (w + 1) b3 _ g_ g_ g_ g_) e (fun v hv => by (repeat (first | refine pq_then ?_ | refine pq_block ?_)); exact pq_fin hv) (nb rfl) (fun t b4 k4 g4 e => ?_)))))))))
        refine F_ r_ (W_ 1 r_ (T_ (am_ (am_ ?_))))
        cases h5 : isA l b4 Kelse with
        | true =>
          have hlt5 := isA_lt h5
          rw [if_pos h5] at e
          refine an_ (M_ r_ (o_ r_ (bi_ [1] r_ r_ (has_y hl g_ h5) (T_ (aq_ r_ r_ (an_ (M_ r_ (M_ r_ (o_ r_ (bj_ r_ r_ g_ (jl_bindE [0] rfl rfl (hB b (w + 1) (b4 + 1) _ g_ g_ g_ g_) e (fun v hv => by (repeat (first | refine pq_then ?_ | refine pq_block ?_)); exact pq_fin hv) (nb rfl) (fun t2 b5 k5 g5 e => ?_))))))))))))
          refine F_ r_ (W_ 1 r_ (T_ (R_ (A_ 0 r_ (S_ 2 r_ (T_ (ar_ (az_ (aw_ (jq_row 0 (Sm.mk 3 ⟨#[]⟩ [] [x] 0 n t t2).row' rfl ?_ ?_))))))))))
          · (repeat (first | exact RowLe.nil | refine RowLe.cons (CLe.refl _) ?_ | refine RowLe.cons CLe.nil ?_))
            refine RowLe.cons (cle_T1 _) ?_
            (repeat (first | exact RowLe.nil | refine RowLe.cons (CLe.refl _) ?_ | refine RowLe.cons CLe.nil ?_))
          exact jq_fin e (jq_retRowS rfl rfl rfl rfl 0 rfl (fun K h => h) (bc_ 2 r_ sub_end))
        | false =>
          rw [if_neg (by rw [h5]; decide)] at e
          refine an_ (M_ r_ (o_ r_ (bi_ [1] r_ r_ (has_n hl g_ h5) (T_ (ap_ r_ r_ (as_ (al_ (R_ (A_ 1 r_ (S_ 2 r_ (T_ (ar_ (az_ (aw_ (jq_row 0 (Sm.mk 3 ⟨#[]⟩ [] [x] 0 n t []).row' rfl ?_ ?_)))))))))))))))
          · (repeat (first | exact RowLe.nil | refine RowLe.cons (CLe.refl _) ?_ | refine RowLe.cons CLe.nil ?_))
            refine RowLe.cons (cle_T1 _) ?_
            (repeat (first | exact RowLe.nil | refine RowLe.cons (CLe.refl _) ?_ | refine RowLe.cons CLe.nil ?_))
          exact jq_fin e (jq_retRowS rfl rfl rfl rfl 0 rfl (fun K h => h) (bc_ 1 r_ sub_end))
      | false =>
        rw [if_neg (by rw [h1]; decide)] at e
        cases h2 : isA l a Kwhile with
        | true =>
          rw [if_pos h2] at e
          have h4 := kw_nm h2 (by decide +kernel)
          refine R_ (o_ r_ (bl_ r_ r_ (fun bl => T_ (am_ (R_ (M_ r_ (o_ r_ (bi_ [1] r_ r_ (named_n ha h4) (o_ r_ (cd_ r_ (M_ r_ (ah_ r_ r_ b_ (bd_ r_ (ah_ r_ r_ b_ (bi_ [0] r_ r_ (is_n ha h1) (ah_ r_ r_ b_ (cd_ r_ (o_ r_ (bp_ r_ r_ r_ (M_ r_ (ah_ r_ r_ b_ (bd_ r_ (ah_ r_ r_ b_ (bi_ [0] r_ r_ (is_y ha h2) ?_))))))))))))))))))))))))
          refine ah_ r_ r_ b_ (cd_ r_ (o_ r_ (bp_ r_ r_ r_ (M_ r_ (ai_ r_ r_ b_ (ai_ r_ r_ b_ (ai_ r_ r_ b_ (o_ r_ (bv_ r_ r_ r_ (T_ (ap_ r_ r_ (as_ (al_ (am_ (R_ (M_ r_ (o_ r_ (bz_ r_ r_ (T_ ?_)))))))))))))))))))
          refine ap_ r_ w_ (as_ (al_ (B_ (R_ (M_ r_ (o_ r_ (bi_ [0] r_ r_ (has_n hl ha h1) (E_ r_ (T_ (ap_ r_ r_ (R_ (M_ r_ (o_ r_ (bi_ [0] r_ r_ (has_y hl ha h2) (E_ r_ (T_ (aq_ r_ r_ ?_)))))))))))))))))
          refine R_ (M_ r_ (jl_bindE [0] rfl rfl (pexpr_p hl g_) e (fun v hv => by (repeat (first | refine pq_then ?_ | refine pq_block ?_)); exact pq_fin hv) (nb rfl) (fun x b1 k1 g1 e => ?_)))
          refine o_ r_ (bq_ r_ r_ b_ r_ r_ b_ (o_ r_ (bu_ r_ r_ r_ r_ r_ (o_ r_ (bl_ r_ r_ (fun bl => S_ 0 r_ (T_ (R_ (M_ r_ (jl_bindE [1] rfl rfl (pword_p hl g_ Kmax) e (fun v hv => by (repeat (first | refine pq_then ?_ | refine pq_block ?_)); exact pq_fin hv) (nb rfl) (fun u b2 k2 g2 e => ?_)))))))))))
          refine T_ (R_ (M_ r_ (jl_bindE [0] rfl rfl (pnum_p hl g_) e (fun v hv => by (repeat (first | refine pq_then ?_ | refine pq_block ?_)); exact pq_fin hv) (nb rfl) (fun m b3 k3 g3 e => ?_))))
          refine F_ r_ (W_ 1 r_ (T_ (R_ (M_ r_ (jl_bindE [1] rfl rfl (pword_p hl g_ Klabel) e (fun v hv => by (repeat (first | refine pq_then ?_ | refine pq_block ?_)); exact pq_fin hv) (nb rfl) (fun v b4 k4 g4 e => ?_))))))
          refine T_ (R_ (M_ r_ (jl_bindE [0] rfl rfl (pnum_p hl g_) e (fun v hv => by (repeat (first | refine pq_then ?_ | refine pq_block ?_)); exact pq_fin hv) (nb rfl) (fun n b5 k5 g5 e => ?_))))
          refine F_ r_ (W_ 1 r_ (T_ (R_ (M_ r_ (M_ r_ (o_ r_ (bj_ r_ r_ g_ (jl_bindE [1] rfl rfl (hB b (w + 1) b5 _ g_ g_ g_ g_) e (fun v hv => by (repeat (first | refine pq_then ?_ | refine pq_block ?_)); exact pq_fin hv) (nb rfl) (fun t b6 k6 g6 e => ?_)))))))))
          refine F_ r_ (W_ 1 r_ (T_ (R_ (A_ 0 r_ (S_ 2 r_ (T_ (ar_ (az_ (aw_ (jq_row 0 (Sm.mk 4 ⟨#[]⟩ [] [x] m n t []).row' rfl ?_ ?_))))))))))
          · (repeat (first | exact RowLe.nil | refine RowLe.cons (CLe.refl _) ?_ | refine RowLe.cons CLe.nil ?_))
            refine RowLe.cons (cle_T1 _) ?_
            (repeat (first | exact RowLe.nil | refine RowLe.cons (CLe.refl _) ?_ | refine RowLe.cons CLe.nil ?_))
          exact jq_fin e (jq_retRowS rfl rfl rfl rfl 0 rfl (fun K h => h) (bc_ 2 r_ sub_end))
        | false =>
          rw [if_neg (by rw [h2]; decide)] at e
          cases h3 : isA l a Klock with
          | true =>
            rw [if_pos h3] at e
            have h4 := kw_nm h3 (by decide +kernel)
            refine R_ (o_ r_ (bl_ r_ r_ (fun bl => T_ (am_ (R_ (M_ r_ (o_ r_ (bi_ [1] r_ r_ (named_n ha h4) (o_ r_ (cd_ r_ (M_ r_ (ah_ r_ r_ b_ (bd_ r_ (ah_ r_ r_ b_ (bi_ [0] r_ r_ (is_n ha h1) (ah_ r_ r_ b_ (cd_ r_ (o_ r_ (bp_ r_ r_ r_ (M_ r_ (ah_ r_ r_ b_ (bd_ r_ (ah_ r_ r_ b_ (bi_ [0] r_ r_ (is_n ha h2) ?_))))))))))))))))))))))))
            refine ah_ r_ r_ b_ (cd_ r_ (o_ r_ (bp_ r_ r_ r_ (M_ r_ (ah_ r_ r_ b_ (bd_ r_ (ah_ r_ r_ b_ (bi_ [0] r_ r_ (is_y ha h3) (ah_ r_ r_ b_ (cd_ r_ (o_ r_ (bp_ r_ r_ r_ (T_ (ap_ r_ r_ (as_ (al_ (am_ (R_ (M_ r_ (o_ r_ (bz_ r_ r_ (T_ ?_))))))))))))))))))))))
            refine ap_ r_ w_ (as_ (al_ (B_ (R_ (M_ r_ (o_ r_ (bi_ [0] r_ r_ (has_n hl ha h1) (E_ r_ (T_ (ap_ r_ r_ (R_ (M_ r_ (o_ r_ (bi_ [0] r_ r_ (has_n hl ha h2) (E_ r_ (T_ (ap_ r_ r_ ?_)))))))))))))))))
            refine R_ (M_ r_ (o_ r_ (bi_ [0] r_ r_ (has_y hl ha h3) (E_ r_ (T_ (aq_ r_ r_ (R_ (M_ r_ (jl_bindE [0] rfl rfl (pname_p hl g_) e (fun v hv => by (repeat (first | refine pq_then ?_ | refine pq_block ?_)); exact pq_fin hv) (nb rfl) (fun s b1 k1 g1 e => ?_))))))))))
            refine o_ r_ (bu_ r_ r_ r_ r_ r_ (o_ r_ (bl_ r_ r_ (fun bl => S_ 0 r_ (T_ (R_ (M_ r_ (M_ r_ (o_ r_ (bj_ r_ r_ g_ (jl_bindE [1] rfl rfl (hB b (w + 1) b1 _ g_ g_ g_ g_) e (fun v hv => by (repeat (first | refine pq_then ?_ | refine pq_block ?_)); exact pq_fin hv) (nb rfl) (fun t b6 k6 g6 e => ?_))))))))))))
            refine F_ r_ (W_ 1 r_ (T_ (R_ (A_ 0 r_ (S_ 2 r_ (T_ (ar_ (az_ (aw_ (jq_row 0 (Sm.mk 5 s [] [] 0 0 t []).row' rfl ?_ ?_))))))))))
            · (repeat (first | exact RowLe.nil | refine RowLe.cons (CLe.refl _) ?_ | refine RowLe.cons CLe.nil ?_))
            exact jq_fin e (jq_retRowS rfl rfl rfl rfl 0 rfl (fun K h => h) (bc_ 2 r_ sub_end))
          | false =>
            rw [if_neg (by rw [h3]; decide)] at e
            have h4 : isNm l a = true := by rw [startA, h1, h2, h3] at hst; simpa using hst
            refine R_ (o_ r_ (bl_ r_ r_ (fun bl => T_ (am_ (R_ (M_ r_ (o_ r_ (bi_ [1] r_ r_ (named_y ha h4) (o_ r_ (cd_ r_ (M_ r_ (ai_ r_ r_ b_ (ai_ r_ r_ b_ (ai_ r_ r_ b_ (o_ r_ (bv_ r_ r_ r_ (M_ r_ (ai_ r_ r_ b_ (ai_ r_ r_ b_ ?_)))))))))))))))))))
            refine ai_ r_ r_ b_ (o_ r_ (bv_ r_ r_ r_ (M_ r_ (ai_ r_ r_ b_ (ai_ r_ r_ b_ (ai_ r_ r_ b_ (o_ r_ (bv_ r_ r_ r_ (T_ (ap_ r_ r_ (as_ (al_ (am_ (R_ (M_ r_ (o_ r_ (bz_ r_ r_ (T_ ?_))))))))))))))))))
            refine ap_ r_ w_ (as_ (al_ (B_ (R_ (M_ r_ (o_ r_ (bi_ [0] r_ r_ (has_n hl ha h1) (E_ r_ (T_ (ap_ r_ r_ (R_ (M_ r_ (o_ r_ (bi_ [0] r_ r_ (has_n hl ha h2) (E_ r_ (T_ (ap_ r_ r_ ?_)))))))))))))))))
            refine R_ (M_ r_ (o_ r_ (bi_ [0] r_ r_ (has_n hl ha h3) (E_ r_ (T_ (ap_ r_ r_ (as_ (ay_ (al_ (R_ (M_ r_ (jl_bindE [0] rfl rfl (pname_p hl ha) e (fun v hv => by (repeat (first | refine pq_then ?_ | refine pq_block ?_)); exact pq_fin hv) (nb rfl) (fun s b1 k1 g1 e => ?_)))))))))))))
            refine o_ r_ (bu_ r_ r_ r_ r_ r_ (o_ r_ (bl_ r_ r_ (fun bl => S_ 0 r_ (T_ (am_ (am_ ?_)))))))
            cases h5 : isA l b1 W91 with
            | true =>
              have hlt5 := isA_lt h5
              rw [if_pos h5] at e
              refine an_ (M_ r_ (o_ r_ (bi_ [1] r_ r_ (has_y hl g_ h5) (T_ (aq_ r_ r_ (R_ (M_ r_ (jl_bindE [0] rfl rfl (pexpr_p hl g_) e (fun v hv => by (repeat (first | refine pq_then ?_ | refine pq_block ?_)); exact pq_fin hv) (nb rfl) (fun i b2 k2 g2 e => ?_)))))))))
              refine o_ r_ (bq_ r_ r_ b_ r_ r_ b_ (F_ r_ (W_ 1 r_ (F_ r_ (W_ 0 r_ (T_ (an_ (M_ r_ (jl_bindE [1] rfl rfl (pword_p hl g_ W93) e (fun v hv => by (repeat (first | refine pq_then ?_ | refine pq_block ?_)); exact pq_fin hv) (nb rfl) (fun u b3 k3 g3 e => ?_))))))))))
              refine T_ (R_ (M_ r_ (jl_bindE [0] rfl rfl (pword_p hl g_ Keq) e (fun v hv => by (repeat (first | refine pq_then ?_ | refine pq_block ?_)); exact pq_fin hv) (nb rfl) (fun u2 b4 k4 g4 e => ?_))))
              refine T_ (R_ (M_ r_ (jl_bindE [0] rfl rfl (pexpr_p hl g_) e (fun v hv => by (repeat (first | refine pq_then ?_ | refine pq_block ?_)); exact pq_fin hv) (nb rfl) (fun v b5 k5 g5 e => ?_))))
              refine o_ r_ (bq_ r_ r_ b_ r_ r_ b_ (F_ r_ (W_ 1 r_ (T_ (R_ (A_ 0 r_ (S_ 2 r_ (T_ (ar_ (jq_row 0 (Sm.mk 2 s [i] [v] 0 0 [] []).row' rfl ?_ ?_))))))))))
              · (repeat (first | exact RowLe.nil | refine RowLe.cons (CLe.refl _) ?_ | refine RowLe.cons CLe.nil ?_))
                refine RowLe.cons (cle_T1 _) (RowLe.cons (cle_T1 _) ?_)
                (repeat (first | exact RowLe.nil | refine RowLe.cons (CLe.refl _) ?_ | refine RowLe.cons CLe.nil ?_))
              exact jq_fin e (jq_retRowS rfl rfl rfl rfl 0 rfl (fun K h => h) (bc_ 2 r_ sub_end))
            | false =>
              rw [if_neg (by rw [h5]; decide)] at e
              refine an_ (M_ r_ (o_ r_ (bi_ [1] r_ r_ (has_n hl g_ h5) (T_ (ap_ r_ r_ (as_ (al_ (R_ (M_ r_ (jl_bindE [0] rfl rfl (pword_p hl g_ Keq) e (fun v hv => by (repeat (first | refine pq_then ?_ | refine pq_block ?_)); exact pq_fin hv) (nb rfl) (fun u2 b4 k4 g4 e => ?_)))))))))))
              refine T_ (R_ (M_ r_ (jl_bindE [0] rfl rfl (pexpr_p hl g_) e (fun v hv => by (repeat (first | refine pq_then ?_ | refine pq_block ?_)); exact pq_fin hv) (nb rfl) (fun v b5 k5 g5 e => ?_))))
              refine o_ r_ (bq_ r_ r_ b_ r_ r_ b_ (F_ r_ (W_ 1 r_ (T_ (R_ (A_ 0 r_ (S_ 2 r_ (T_ (ar_ (jq_row 0 (Sm.mk 1 s [] [v] 0 0 [] []).row' rfl ?_ ?_))))))))))
              · (repeat (first | exact RowLe.nil | refine RowLe.cons (CLe.refl _) ?_ | refine RowLe.cons CLe.nil ?_))
                refine RowLe.cons (cle_T1 _) ?_
                (repeat (first | exact RowLe.nil | refine RowLe.cons (CLe.refl _) ?_ | refine RowLe.cons CLe.nil ?_))
              exact jq_fin e (jq_retRowS rfl rfl rfl rfl 0 rfl (fun K h => h) (bc_ 2 r_ sub_end))
omit hl in
theorem smrows (ss : List Sm) : ss.map Sm.row' = ss.map Sm.row := by rw [show Sm.row' = Sm.row from funext fun s => (Sm.row_eq s).symm]
omit hl in
theorem stmtsL_stop {st : Nat → R Sm} {w a : Nat} (h : startA l a = false) (n : Nat) (acc : List Sm) : stmtsL l st w n a acc = .ok acc a := by
  cases n with
  | zero => rw [stmtsL]
  | succ n => rw [stmtsL, if_neg (by rw [h]; decide)]
omit hl in
theorem wdG_y {w : ByteArray} {a : Nat} (h : isA l a w = true) : wdG l w a = .ok () (a + 1) := by rw [wdG, if_pos h]
omit hl in
theorem wdG_n {w : ByteArray} {a : Nat} (h : isA l a w = false) : wdG l w a = .er 1 a := by rw [wdG, if_neg (by rw [h]; decide)]
omit hl in
/-- What the program does at a place where the block does not end. -/
theorem stmts_go {F w c n : Nat} {kw : ByteArray} {acc : List Sm} (h : isA l c kw = false) (hn : l.length - c ≤ n) : ((stmtsL l (stmtG l F w) w n c acc).bind fun ss c => (wdG l kw c).bind fun _ d => .ok ss d) = (stG l F w c).bind fun s d => (stmtsL l (stmtG l F w) w (n - 1) d (acc ++ [s])).bind fun ss c => (wdG l kw c).bind fun _ d => .ok ss d := by
  cases hs : startA l c with
  | false => rw [stmtsL_stop hs, bind_okE, wdG_n h, stG, if_neg (by rw [hs]; decide)]; rfl
  | true =>
    have := start_lt hs
    obtain ⟨n, rfl⟩ : ∃ m, n = m + 1 := ⟨n - 1, by omega⟩
    rw [stmtsL, if_pos hs, stG, if_pos hs]
    by_cases hw : 8 ≤ w
    · rw [if_pos hw, if_pos hw]; rfl
    · rw [if_neg hw, if_neg hw]
      cases stmtG l F w c <;> rfl
theorem pblock_of (hN : NmOk l) (F : Nat) (hS : StP l F) : BkP l F := by
  intro b w a d hd hw ha hF
  refine ⟨(con_introE Tryd.func124 rfl rfl (Nat.le_of_ble_eq_true rfl) (fun c hc => ?_)), fun x c e => blkG_bd (fun a x c => stmtG_bd _ _ _ _ _) x c e⟩
  generalize hfin : finR l b SlS (blkG l (stmtG l F w) w F a) = fin0
  have e := hfin.symm
  rw [blkG] at e
  refine R_ (E_ r_ (T_ (R_ (M_ r_ (jl_bindE [0] rfl rfl (pword_p hl ha Kob) e (fun v hv => by (repeat (first | refine pq_then ?_ | refine pq_block ?_)); exact pq_fin hv) (nb rfl) (fun u b1 k1 g1 e => ?_))))))
  refine T_ (R_ (E_ r_ (T_ (B_ (jc_ownNil 52 8 g_ ?_)))))
  refine jc_loopS (ι := List Sm × Nat × Nat × Value) [] (fun i => (b1 ≤ i.2.1 ∧ i.2.1 ≤ l.length) ∧ l.length - i.2.1 ≤ i.2.2.1 ∧ i.1.length ≤ i.2.1 ∧ fin0 = finR l b SlS ((stmtsL l (stmtG l F w) w i.2.2.1 i.2.1 i.1).bind fun ss c => (wdG l Kcb c).bind fun _ d => .ok ss d))
    (fun i => [(0, Ptr b), (1, In .i64 d), (5, .cell (.val i.2.2.2))]) (fun i => [Pz b l i.2.1, .own i.2.2.2 52 8 (i.1.map Sm.row')]) (fun i => l.length + 1 - i.2.1) ([], b1, F, .slice none 0 0) ⟨⟨Nat.le_refl _, g1.2⟩, by dsimp only; omega, Nat.zero_le _, e⟩ ?_ ?_ ?_
  · exact bc_ 1 r_ (bc_ 0 r_ sub_end)
  · (repeat (first | exact True.intro | refine ⟨rfl, ?_⟩))
  clear e
  rintro ⟨acc, c, n, v⟩ ⟨⟨h1, h2⟩, hn, hacc, e⟩
  dsimp only at h1 h2 hn hacc e ⊢
  refine jc_reset [(0, Ptr b), (1, In .i64 d), (5, .cell (.val v))] [Pz b l c, .own v 52 8 (acc.map Sm.row')] ?_ ⟨[0, 0], [], rfl⟩ ?_
  · (repeat (first | exact True.intro | refine ⟨rfl, ?_⟩))
  cases h : isA l c Kcb with
  | true =>
    rw [stmtsL_stop (start_cb hN h), bind_okE, wdG_y h, bind_okE] at e
    refine am_ (R_ (M_ r_ (o_ r_ (bi_ [0] r_ r_ (has_y hl h2 h) (o_ r_ (cd_ r_ (T_ (ap_ r_ r_ (av_ (ax_ (ax_ (ba_ (al_ (R_ (M_ r_ (E_ r_ (T_ ?_)))))))))))))))))
    exact ar_ (jq_freeze 4 1 rfl rfl (by rw [hc]; simp [hb, Ch.bs]) (jq_fin e (jq_ret1S rfl rfl (fun K h => by rw [smrows]; exact h) (bc_ 0 r_ sub_end))))
  | false =>
    rw [stmts_go h hn] at e
    refine am_ (R_ (M_ r_ (o_ r_ (bi_ [0] r_ r_ (has_n hl h2 h) (o_ r_ (cd_ r_ (T_ (aq_ r_ r_ (as_ (al_ (au_ (an_ (M_ r_ (M_ r_ (M_ r_ (jl_bindE [0] rfl rfl (hS b w c _ hd hw h2 g_) e (fun v hv => by (repeat (first | refine pq_then ?_ | refine pq_block ?_)); exact pq_fin hv) (nb rfl) (fun s c2 k2 g2 e => ?_)))))))))))))))))
    refine o_ r_ (bq_ r_ r_ b_ r_ r_ b_ (o_ r_ (ow_append1 1 (s) rfl rfl rfl rfl rfl rfl rfl (fun s => rfl) (by show (_ + _) * 136 ≤ _; first | omega | (simp only [List.length_append]; omega)) (by first | omega | (simp only [List.length_append]; omega)) (fun v2 hv2 => E_ r_ (ak_ (ay_ ?_))))))
    refine jq_againS (i := (acc, c, n, v)) ((acc ++ [s], c2, n - 1, v2) : List Sm × Nat × Nat × Value) ⟨⟨by dsimp only; omega, g2.2⟩, by dsimp only; omega, by dsimp only; simp only [List.length_append, List.length_singleton]; omega, e⟩ (by dsimp only; omega) ?_ ?_
    · exact bc_ 1 r_ (bc_ 0 r_ sub_end)
    · (repeat (first | exact True.intro | refine ⟨rfl, ?_⟩))
theorem pstmt_all (hN : NmOk l) : ∀ F : Nat, StP l F
  | 0 => fun b w a d hd hw ha h => absurd h (by omega)
  | F + 1 => pstmt_step hl F (pblock_of hl hN F (pstmt_all hN F))
end
end Go.Proofs.YtamajcgdfjeehaaDoor
end

section
namespace Go.Vc
open Go.RowKit

/-! Drawn regions: three operations of which each may come first: one that yields a value and turns nothing that is owned, a call, a new block -/
section
variable {P : Program} [Gl P] {nt : Nat} {c : Cx P nt} {env : Env} {H Hr : List Ch} {ops : Array Oper} {Q : Exit → Act → World → Prop} {Sw : World → Prop}
variable {m fuel : Nat} {listed : Array Bool} {i j k di dj dk : Nat} {opi opj : Op} {ti tj tk : TypeId} {pi pj pk : String} {afi afj afk : Array Edge} {s0 : S}
theorem hp_list (js : List Nat) (hr : Region.ready .any ops listed = js) (hne : js ≠ []) (h : ∀ i ∈ js, ∃ o, ops[i]? = some o ∧ (o.guard.isNone && okD o.dst nt) = true ∧ OpWp c o env H (fun s H' => (∀ w, StW c H' w → Sw w) ∧ HP c ops Q Sw m fuel (listed.setIfInBounds i true) (putE o.dst s env) H')) : HP c ops Q Sw m (fuel + 1) listed env H := by
  intro a w hst hS
  refine anyX_all hr hne (fun i hi => ?_)
  obtain ⟨o, ho, hg, h1⟩ := h i hi
  rw [Bool.and_eq_true, Option.isNone_iff_eq_none] at hg
  obtain ⟨dst, op, ty, pos, af, g⟩ := o
  obtain ⟨hg1, hg2⟩ := hg
  obtain rfl : g = none := hg1
  unfold wpOp
  rw [ho]
  dsimp only
  rw [if_pos (show Region.wanted _ _ = true from rfl)]
  refine .inl (h1 a w hst _ _ ?_)
  rintro s H' v w' ⟨hk1, hk2⟩ hw' hv hk
  refine ⟨fun _ => hk1 _ hw', hk2 _ _ ?_ (hk1 _ hw')⟩
  cases dst with
  | none => exact hst.next0 hw' hk
  | some d => exact hst.next (by simpa [okD] using hg2) hw' hv hk
theorem hp_env {env' : Env} (hl : ∀ t s, env'.lookup t = some s → env.lookup t = some s) (h : HP c ops Q Sw m fuel listed env' H) : HP c ops Q Sw m fuel listed env H :=
  fun a w hst hS => h a w ⟨hst.size, hst.defers, fun t s ht => hst.slots t s (hl t s ht), hst.heap⟩ hS
theorem hp_perm {H' : List Ch} (hp : H.Perm H') (h : HP c ops Q Sw m fuel listed env H') : HP c ops Q Sw m fuel listed env H :=
  fun a w hst hS => h a w (hst.perm hp) hS
theorem lookup_ext {d : Nat} {s : S} (hno : env.lookup d = none) : ∀ t r, List.lookup t env = some r → List.lookup t ((d, s) :: env) = some r := by
  intro t r ht
  rw [List.lookup_cons]
  by_cases htd : t = d
  · subst htd; rw [hno] at ht; cases ht
  · rw [show (t == d) = false by simpa using htd]; exact ht
omit [Gl P] in
theorem env_permN {l1 l2 : Env} (hp : l1.Perm l2) (hnd : (l1.map Prod.fst).Nodup) : ∀ t r, List.lookup t (l1 ++ env) = some r → List.lookup t (l2 ++ env) = some r := by
  induction hp with
  | nil => exact fun _ _ h => h
  | @cons x l1 l2 _ ih =>
    obtain ⟨d, s⟩ := x
    intro t r ht
    rw [List.cons_append, List.lookup_cons] at ht ⊢
    by_cases h : t = d
    · subst h; simpa using ht
    · rw [show (t == d) = false by simpa using h] at ht ⊢
      exact ih (List.nodup_cons.1 hnd).2 t r ht
  | swap x y l =>
    obtain ⟨d, s⟩ := x
    obtain ⟨e, u⟩ := y
    intro t r ht
    refine env_swap ?_ t r ht
    have := (List.nodup_cons.1 hnd).1
    simp only [List.map_cons, List.mem_cons, not_or] at this
    simpa using this.1
  | trans h1 h2 i1 i2 => exact fun t r ht => i2 ((h1.map _).nodup_iff.1 hnd) t r (i1 hnd t r ht)
theorem hp_three {e : TypeId} [TI P e] {z : Value} {R : S → List Ch → Prop} (hi : ops[i]? = some ⟨some di, opi, ti, pi, afi, none⟩) (hj : ops[j]? = some ⟨some dj, opj, tj, pj, afj, none⟩) (hk : ops[k]? = some ⟨some dk, .alloc e, tk, pk, afk, none⟩)
    (hr : Region.ready .any ops listed = [i, j, k]) (ri : Region.ready .any ops (listed.setIfInBounds i true) = [j, k]) (rj : Region.ready .any ops (listed.setIfInBounds j true) = [i, k]) (rk : Region.ready .any ops (listed.setIfInBounds k true) = [i, j])
    (rik : Region.ready .any ops ((listed.setIfInBounds i true).setIfInBounds k true) = [j]) (rjk : Region.ready .any ops ((listed.setIfInBounds j true).setIfInBounds k true) = [i])
    (hd : (Nat.ble (di + 1) nt && Nat.ble (dj + 1) nt && Nat.ble (dk + 1) nt && !(di == dj) && !(di == dk) && !(dj == dk) && !(i == j) && !(i == k) && !(j == k)) = true)
    (hn : (env.lookup di, env.lookup dj, env.lookup dk) = (none, none, none))
    (hz : (TI.i P e).zero = some z) (h1 : z.cells.toList.all Value.oneCell' = true)
    (kp : ∀ w, StW c H w → Sw w) (kpb : ∀ b w, StW c (.blk b e (zeroRow z) :: H) w → Sw w)
    (h0 : ∀ H, OpWp c ⟨some di, opi, ti, pi, afi, none⟩ env H (fun s H' => s = s0 ∧ H' = H))
    (hc : OpWp c ⟨some dj, opj, tj, pj, afj, none⟩ env H R)
    (hcb : ∀ b, OpWp c ⟨some dj, opj, tj, pj, afj, none⟩ env (.blk b e (zeroRow z) :: H) (fun s H'' => ∃ H', R s H' ∧ H''.Perm (.blk b e (zeroRow z) :: H')))
    (hij : ∀ s H', R s H' → HP c ops Q Sw m (fuel + 1) ((listed.setIfInBounds i true).setIfInBounds j true) ((dj, s) :: (di, s0) :: env) H')
    (fin : ∀ s H', R s H' → (∀ w, StW c H' w → Sw w) ∧ ∀ b, (∀ w, StW c (.blk b e (zeroRow z) :: H') w → Sw w) ∧
      HP c ops Q Sw m fuel (((listed.setIfInBounds i true).setIfInBounds j true).setIfInBounds k true) ((dk, .cell (.val (.pointer (some ⟨b, 0, none⟩)))) :: (dj, s) :: (di, s0) :: env) (.blk b e (zeroRow z) :: H')) : HP c ops Q Sw m (fuel + 3) listed env H := by
  simp only [Bool.and_eq_true, Bool.not_eq_true'] at hd
  obtain ⟨⟨⟨⟨⟨⟨⟨⟨d1, d2⟩, d3⟩, n1⟩, n2⟩, n3⟩, m1⟩, m2⟩, m3⟩ := hd
  have d1 : di < nt := nb d1
  have d2 : dj < nt := nb d2
  have d3 : dk < nt := nb d3
  simp only [Prod.mk.injEq] at hn
  obtain ⟨e1, e2, e3⟩ := hn
  have m1' : i ≠ j := by simpa using m1
  have m2' : i ≠ k := by simpa using m2
  have m3' : j ≠ k := by simpa using m3
  have okd : ∀ {d : Nat}, d < nt → (Option.isNone (none : Option (Nat × Bool)) && okD (some d) nt) = true := fun h => by simp [okD, h]
  have sji : (listed.setIfInBounds j true).setIfInBounds i true = (listed.setIfInBounds i true).setIfInBounds j true := (Array.setIfInBounds_comm _ _ m1').symm
  have ski : (listed.setIfInBounds k true).setIfInBounds i true = (listed.setIfInBounds i true).setIfInBounds k true := (Array.setIfInBounds_comm _ _ m2').symm
  have skj : (listed.setIfInBounds k true).setIfInBounds j true = (listed.setIfInBounds j true).setIfInBounds k true := (Array.setIfInBounds_comm _ _ m3').symm
  have a1 : ((listed.setIfInBounds i true).setIfInBounds k true).setIfInBounds j true = ((listed.setIfInBounds i true).setIfInBounds j true).setIfInBounds k true := (Array.setIfInBounds_comm _ _ m3').symm
  have a2 : ((listed.setIfInBounds j true).setIfInBounds k true).setIfInBounds i true = ((listed.setIfInBounds i true).setIfInBounds j true).setIfInBounds k true := by rw [Array.setIfInBounds_comm _ _ (Ne.symm m2'), sji]
  have nd : ∀ (x y z : S), (([(dk, x), (dj, y), (di, z)] : Env).map Prod.fst).Nodup := by
    intro x y z
    have g1 : ¬ di = dj := by simpa using n1
    have g2 : ¬ di = dk := by simpa using n2
    have g3 : ¬ dj = dk := by simpa using n3
    simp only [List.map_cons, List.map_nil, List.nodup_cons, List.mem_cons, List.not_mem_nil, or_false, not_false_eq_true, List.nodup_nil, and_true, not_or]
    exact ⟨⟨fun h => g3 h.symm, fun h => g2 h.symm⟩, fun h => g1 h.symm⟩
  have al : ∀ (env : Env) (H : List Ch) (K : S → List Ch → Prop), (∀ b, K (.cell (.val (.pointer (some ⟨b, 0, none⟩)))) (.blk b e (zeroRow z) :: H)) → OpWp c ⟨some dk, .alloc e, tk, pk, afk, none⟩ env H K := fun env H K hK => ow_alloc hz h1 hK
  have w0 : ∀ (env' : Env) (H : List Ch) (K : S → List Ch → Prop), (∀ t s, env.lookup t = some s → env'.lookup t = some s) → K s0 H → OpWp c ⟨some di, opi, ti, pi, afi, none⟩ env' H K := fun env' H K hl hK => ow_weaken (ow_mono (h0 H) (fun s H' h => by obtain ⟨rfl, rfl⟩ := h; exact hK)) hl
  -- the last one of each pair
  refine hp_list _ hr (by simp) (fun q hq => ?_)
  simp only [List.mem_cons, List.not_mem_nil, or_false] at hq
  rcases hq with rfl | rfl | rfl
  · refine ⟨_, hi, okd d1, w0 env H _ (fun _ _ h => h) ⟨kp, ?_⟩⟩
    refine hp_list _ ri (by simp) (fun q hq => ?_)
    simp only [List.mem_cons, List.not_mem_nil, or_false] at hq
    rcases hq with rfl | rfl
    · exact ⟨_, hj, okd d2, ow_weaken (ow_mono hc (fun s H' hR => ⟨(fin s H' hR).1, hij s H' hR⟩)) (lookup_ext e1)⟩
    · refine ⟨_, hk, okd d3, al _ _ _ (fun b => ⟨kpb b, ?_⟩)⟩
      refine hp_list _ rik (by simp) (fun q hq => ?_)
      obtain rfl := List.mem_singleton.1 hq
      refine ⟨_, hj, okd d2, ow_weaken (ow_mono (hcb b) (fun s H'' hR => ?_)) (fun t s ht => lookup_ext (by rw [List.lookup_cons, show (dk == di) = false by rw [Bool.beq_comm]; exact n2]; exact e3) t s (lookup_ext e1 t s ht))⟩
      obtain ⟨H', hR, hp⟩ := hR
      refine ⟨fun w hw => ((fin s H' hR).2 b).1 w (hw.perm hp), hp_perm hp (hp_env (env_permN (List.Perm.swap _ _ _) (nd _ _ _)) ?_)⟩
      rw [a1]
      exact ((fin s H' hR).2 b).2
  · refine ⟨_, hj, okd d2, ow_mono hc (fun s H' hR => ⟨(fin s H' hR).1, ?_⟩)⟩
    refine hp_list _ rj (by simp) (fun q hq => ?_)
    simp only [List.mem_cons, List.not_mem_nil, or_false] at hq
    rcases hq with rfl | rfl
    · refine ⟨_, hi, okd d1, w0 _ _ _ (lookup_ext e2) ⟨(fin s H' hR).1, ?_⟩⟩
      rw [sji]
      refine hp_env (env_swap (by rw [Bool.beq_comm]; exact n1)) (hij s H' hR)
    · refine ⟨_, hk, okd d3, al _ _ _ (fun b => ⟨((fin s H' hR).2 b).1, ?_⟩)⟩
      refine hp_list _ rjk (by simp) (fun q hq => ?_)
      obtain rfl := List.mem_singleton.1 hq
      refine ⟨_, hi, okd d1, w0 _ _ _ (fun t s ht => lookup_ext (by rw [List.lookup_cons, show (dk == dj) = false by rw [Bool.beq_comm]; exact n3]; exact e3) t s (lookup_ext e2 t s ht)) ⟨((fin s H' hR).2 b).1, ?_⟩⟩
      rw [a2]
      exact hp_env (env_permN ((List.Perm.cons _ (List.Perm.swap _ _ _)).trans (List.Perm.swap _ _ _)) (nd _ _ _)) ((fin s H' hR).2 b).2
  · refine ⟨_, hk, okd d3, al _ _ _ (fun b => ⟨kpb b, ?_⟩)⟩
    refine hp_list _ rk (by simp) (fun q hq => ?_)
    simp only [List.mem_cons, List.not_mem_nil, or_false] at hq
    rcases hq with rfl | rfl
    · refine ⟨_, hi, okd d1, w0 _ _ _ (lookup_ext e3) ⟨kpb b, ?_⟩⟩
      rw [ski]
      refine hp_list _ rik (by simp) (fun q hq => ?_)
      obtain rfl := List.mem_singleton.1 hq
      refine ⟨_, hj, okd d2, ow_weaken (ow_mono (hcb b) (fun s H'' hR => ?_)) (fun t s ht => lookup_ext (by rw [List.lookup_cons, n2]; exact e1) t s (lookup_ext e3 t s ht))⟩
      obtain ⟨H', hR, hp⟩ := hR
      refine ⟨fun w hw => ((fin s H' hR).2 b).1 w (hw.perm hp), hp_perm hp ?_⟩
      rw [a1]
      exact hp_env (env_permN ((List.Perm.swap _ _ _).trans (List.Perm.cons _ (List.Perm.swap _ _ _))) (nd _ _ _)) ((fin s H' hR).2 b).2
    · refine ⟨_, hj, okd d2, ow_weaken (ow_mono (hcb b) (fun s H'' hR => ?_)) (lookup_ext e3)⟩
      obtain ⟨H', hR, hp⟩ := hR
      refine ⟨fun w hw => ((fin s H' hR).2 b).1 w (hw.perm hp), ?_⟩
      rw [skj]
      refine hp_list _ rjk (by simp) (fun q hq => ?_)
      obtain rfl := List.mem_singleton.1 hq
      refine ⟨_, hi, okd d1, w0 _ _ _ (fun t s ht => lookup_ext (by rw [List.lookup_cons, n3]; exact e2) t s (lookup_ext e3 t s ht)) ⟨fun w hw => ((fin s H' hR).2 b).1 w (hw.perm hp), hp_perm hp ?_⟩⟩
      rw [a2]
      exact hp_env (env_permN (((List.Perm.cons _ (List.Perm.swap _ _ _)).trans (List.Perm.swap _ _ _)).trans (List.Perm.cons _ (List.Perm.swap _ _ _))) (nd _ _ _)) ((fin s H' hR).2 b).2
/-- .. and a fourth, which waits for the first two and yields a value. -/
theorem hp_four {q4 d4 : Nat} {op4 : Op} {t4 : TypeId} {p4 : String} {af4 : Array Edge} {e : TypeId} [TI P e] {z : Value} {R : S → List Ch → Prop} (hi : ops[i]? = some ⟨some di, opi, ti, pi, afi, none⟩) (hj : ops[j]? = some ⟨some dj, opj, tj, pj, afj, none⟩) (hk : ops[k]? = some ⟨some dk, .alloc e, tk, pk, afk, none⟩) (h4 : ops[q4]? = some ⟨some d4, op4, t4, p4, af4, none⟩)
    (hr : Region.ready .any ops listed = [i, j, k]) (ri : Region.ready .any ops (listed.setIfInBounds i true) = [j, k]) (rj : Region.ready .any ops (listed.setIfInBounds j true) = [i, k]) (rk : Region.ready .any ops (listed.setIfInBounds k true) = [i, j])
    (rik : Region.ready .any ops ((listed.setIfInBounds i true).setIfInBounds k true) = [j]) (rjk : Region.ready .any ops ((listed.setIfInBounds j true).setIfInBounds k true) = [i])
    (rij : Region.ready .any ops ((listed.setIfInBounds i true).setIfInBounds j true) = [q4, k]) (rij4 : Region.ready .any ops (((listed.setIfInBounds i true).setIfInBounds j true).setIfInBounds q4 true) = [k]) (rijk : Region.ready .any ops (((listed.setIfInBounds i true).setIfInBounds j true).setIfInBounds k true) = [q4])
    (hd : (Nat.ble (di + 1) nt && Nat.ble (dj + 1) nt && Nat.ble (dk + 1) nt && !(di == dj) && !(di == dk) && !(dj == dk) && !(i == j) && !(i == k) && !(j == k)) = true)
    (hd4 : (Nat.ble (d4 + 1) nt && !(d4 == dk) && !(q4 == k)) = true) (hn : (env.lookup di, env.lookup dj, env.lookup dk) = (none, none, none))
    (hz : (TI.i P e).zero = some z) (h1 : z.cells.toList.all Value.oneCell' = true)
    (kp : ∀ w, StW c H w → Sw w) (kpb : ∀ b w, StW c (.blk b e (zeroRow z) :: H) w → Sw w)
    (h0 : ∀ H, OpWp c ⟨some di, opi, ti, pi, afi, none⟩ env H (fun s H' => s = s0 ∧ H' = H))
    (hc : OpWp c ⟨some dj, opj, tj, pj, afj, none⟩ env H R)
    (hcb : ∀ b, OpWp c ⟨some dj, opj, tj, pj, afj, none⟩ env (.blk b e (zeroRow z) :: H) (fun s H'' => ∃ H', R s H' ∧ H''.Perm (.blk b e (zeroRow z) :: H')))
    (fin : ∀ s H', R s H' → ∃ s4, (∀ H, OpWp c ⟨some d4, op4, t4, p4, af4, none⟩ ((dj, s) :: (di, s0) :: env) H (fun s' H'' => s' = s4 ∧ H'' = H)) ∧ (∀ w, StW c H' w → Sw w) ∧ ∀ b, (∀ w, StW c (.blk b e (zeroRow z) :: H') w → Sw w) ∧
      HP c ops Q Sw m fuel ((((listed.setIfInBounds i true).setIfInBounds j true).setIfInBounds k true).setIfInBounds q4 true) ((d4, s4) :: (dk, .cell (.val (.pointer (some ⟨b, 0, none⟩)))) :: (dj, s) :: (di, s0) :: env) (.blk b e (zeroRow z) :: H')) : HP c ops Q Sw m (fuel + 4) listed env H := by
  simp only [Bool.and_eq_true, Bool.not_eq_true'] at hd4
  obtain ⟨⟨g1, g2⟩, g3⟩ := hd4
  have g1 : d4 < nt := nb g1
  have g3' : q4 ≠ k := by simpa using g3
  have hd' := hd
  simp only [Bool.and_eq_true, Bool.not_eq_true'] at hd'
  obtain ⟨⟨⟨⟨⟨⟨⟨⟨d1, d2⟩, d3⟩, n1⟩, n2⟩, n3⟩, _⟩, _⟩, _⟩ := hd'
  have d3 : dk < nt := nb d3
  have hn' := hn
  simp only [Prod.mk.injEq] at hn'
  obtain ⟨_, _, e3⟩ := hn'
  have okd : ∀ {d : Nat}, d < nt → (Option.isNone (none : Option (Nat × Bool)) && okD (some d) nt) = true := fun h => by simp [okD, h]
  have e3' : ∀ s : S, List.lookup dk ((dj, s) :: (di, s0) :: env) = none := fun s => by
    rw [List.lookup_cons, show (dk == dj) = false by rw [Bool.beq_comm]; exact n3]
    show List.lookup dk ((di, s0) :: env) = none
    rw [List.lookup_cons, show (dk == di) = false by rw [Bool.beq_comm]; exact n2]
    exact e3
  have f3 : ∀ s H', R s H' → ∀ b, (∀ w, StW c (.blk b e (zeroRow z) :: H') w → Sw w) ∧ HP c ops Q Sw m (fuel + 1) (((listed.setIfInBounds i true).setIfInBounds j true).setIfInBounds k true) ((dk, .cell (.val (.pointer (some ⟨b, 0, none⟩)))) :: (dj, s) :: (di, s0) :: env) (.blk b e (zeroRow z) :: H') := by
    intro s H' hR b
    obtain ⟨s4, hv4, _, f⟩ := fin s H' hR
    refine ⟨(f b).1, hp_list _ rijk (by simp) (fun q hq => ?_)⟩
    obtain rfl := List.mem_singleton.1 hq
    exact ⟨_, h4, okd g1, ow_weaken (ow_mono (hv4 _) (fun s' H'' h => by obtain ⟨rfl, rfl⟩ := h; exact f b)) (lookup_ext (e3' s))⟩
  refine hp_three hi hj hk hr ri rj rk rik rjk hd hn hz h1 kp kpb h0 hc hcb (fun s H' hR => ?_) (fun s H' hR => ⟨by obtain ⟨_, _, f, _⟩ := fin s H' hR; exact f, f3 s H' hR⟩)
  refine hp_list _ rij (by simp) (fun q hq => ?_)
  simp only [List.mem_cons, List.not_mem_nil, or_false] at hq
  rcases hq with rfl | rfl
  · obtain ⟨s4, hv4, f0, f⟩ := fin s H' hR
    refine ⟨_, h4, okd g1, ow_mono (hv4 _) (fun s' H'' h => ?_)⟩
    obtain ⟨rfl, rfl⟩ := h
    refine ⟨f0, hp_list _ rij4 (by simp) (fun q hq => ?_)⟩
    obtain rfl := List.mem_singleton.1 hq
    refine ⟨_, hk, okd d3, ow_alloc hz h1 (fun b => ⟨(f b).1, hp_env (env_swap g2) ?_⟩)⟩
    rw [Array.setIfInBounds_comm _ _ g3']
    exact (f b).2
  · exact ⟨_, hk, okd d3, ow_alloc hz h1 (fun b => f3 s H' hR b)⟩
/-- A block some of whose cells are known exactly. -/
theorem rdRow_val {w : World} {A : Nat → Prop} {row : List C} {cs : List Value} (h : RdRow w A row cs) (i : Nat) (v : Value) (hi : row[i]? = some (C.val v)) : cs[i]? = some v := by
  obtain ⟨u, hu, hr⟩ := rdRow_get h hi
  obtain ⟨rfl, _⟩ := hr
  exact hu
theorem jc_hpM {id n : Nat} (m : Nat) (hn : ops.size = n) {b1 : Nat} {t1 : TypeId} {r1 : List C} (j1 : Nat) (hm : P.follows .mixedOrders = true) (hp : pick [j1] H = some ([.blk b1 t1 r1], Hr))
    (h : ∀ cs1 : List Value, cs1.length = r1.length → (∀ (i : Nat) (v : Value), r1[i]? = some (C.val v) → cs1[i]? = some v) → HP c ops Q (Keep [(b1, cs1, t1)]) m n (Array.replicate n false) env H) : JC c (.region id ops true) Q env H := by
  intro a w hs
  obtain ⟨cs1, g1, k1⟩ := blk_ok hs hp
  refine hp_begin m hn hm hs ?_ (h cs1 (rdRow_length k1) (rdRow_val k1))
  intro p hp
  obtain rfl := List.mem_singleton.1 hp
  exact g1
theorem hok_build {d : Option Tmp} {ty t : TypeId} {pos : String} {af : Array Edge} [TI P t] [TS P t] (hs : structB (TI.u P t) = true) {z : Value} (hz : (TI.i P t).zero = some z) (h1 : z.cells.toList.all Value.oneCell' = true) {ps : Array (Nat × Operand)} {ss : List (Nat × S)} (hp : env.parts ps.toList = some ss) {row : List C}
    (hf : fillC (TS.pl P t) (zeroRow z) ss = some row) : HOk c Sw env H ⟨d, .build t ps, ty, pos, af, none⟩ (.row row) :=
  fun a w h _ => by
    obtain ⟨cs, g1, g2⟩ := fill_ok (parts_ok h hp) (rdRow_zero _ (List.all_eq_true.1 h1)) hf
    refine ⟨.agg cs.toArray, fun w' _ => ?_, cs.toArray, rfl, by simpa using g2⟩
    simp only [Array.toArray_toList] at g1
    simp only [execOp, Instr.build, Sem.run_bind, run_zeroValue t hz, run_fields t hs, Result.andThen_ok, TS.hpl, Array.toList_map, g1, Sem.run_pure]
end
end Go.Vc
end

section
namespace Go.Proofs.YtamajcgdfjeehaaDoor
open Go.Vc
attribute [local irreducible] JL JC JQ OpWp Con ConN Pan ConE OpPan HP HT HOk hasW idxW isA isNum isNm numAt txtAt lineAt opAt lx lpx sx sxp exG startA stmtG stmtsL blkG wdG nmG nuG nbG
set_option maxHeartbeats 4000000

/-! The reference's statements -/
abbrev oSm (o : Option Sm) : List C := [oC (fun s => .val (.int .i64 s.kind)) o, oC (fun s => .val (.string s.name)) o, oC (fun s => .list (s.index.map T.row)) o, oC (fun s => .list (s.value.map T.row)) o, oC (fun s => .val (.int .i64 s.max)) o, oC (fun s => .val (.int .i64 s.label)) o, oC (fun s => .list (s.thn.map Sm.row)) o, oC (fun s => .list (s.els.map Sm.row)) o]
abbrev olS (o : Option (List Sm)) : C := oC (fun ss => .list (ss.map Sm.row)) o
def RSt (l : List Tok) (F : Nat) : Prop := ∀ (b w a : Nat) (d : Int), d = (w : Int) → w < 8 → a ≤ l.length → startA l a = true → l.length - a + 1 ≤ F → ZO 121 b l [In .i64 d] (fun o _ => .row (oSm o)) (stmtG l F w) (.n a)
def RSs (l : List Tok) (F : Nat) : Prop := ∀ (b w : Nat) (σ : Z) (d : Int), d = (w : Int) → w ≤ 8 → σ.ok l → mu l σ ≤ F → ZO 103 b l [In .i64 d] (fun o _ => .cell (olS o)) (fun a => stmtsL l (stmtG l F w) w F a []) σ
def RBk (l : List Tok) (F : Nat) : Prop := ∀ (b w : Nat) (σ : Z) (d : Int), d = (w : Int) → w ≤ 8 → σ.ok l → mu l σ ≤ F → ZO 137 b l [In .i64 d] (fun o _ => .cell (olS o)) (blkG l (stmtG l F w) w F) σ
theorem rz_ifF {α : Type} {l : List Tok} {w : ByteArray} {g g' : Nat → R α} {σ : Z} {r : R α} (h : isZ l σ w = false) (e : r = rz (fun b => if isA l b w = true then g b else g' b) σ) : r = rz g' σ := by
  rw [e]
  cases σ with
  | n a => show (if isA l a w = true then g a else g' a) = _; rw [if_neg (by rw [show isA l a w = false from h]; decide)]; rfl
  | e a q code => rfl
theorem rz_ifT {α : Type} {l : List Tok} {w : ByteArray} {g g' : Nat → R α} {a : Nat} {r : R α} (h : isA l a w = true) (e : r = rz (fun b => if isA l b w = true then g b else g' b) (.n a)) : r = g a := by
  rw [e]
  show (if isA l a w = true then g a else g' a) = _
  rw [if_pos h]
theorem rz_in {α β : Type} {g : Nat → R α} {K : α → Nat → R β} {a : Nat} {r : R β} (e : r = (g a).bind K) : r = rz (fun a => (g a).bind K) (.n a) := e
theorem isZ_n {l : List Tok} {w : ByteArray} {σ : Z} (h : isZ l σ w = true) : ∃ a, σ = .n a := by cases σ with | n a => exact ⟨a, rfl⟩ | e a q code => cases h
theorem hb_rz (b : Nat) (l : List Tok) (σ : Z) : hb [RZ b l σ] = [b] := by cases σ <;> rfl
theorem os_rows (acc : List Sm) : (acc.map some).map oSm = acc.map Sm.row := by rw [List.map_map, show oSm ∘ some = Sm.row from funext fun s => (Sm.row_eq s).symm]
theorem mu_le (l : List Tok) (σ : Z) : mu l σ ≤ l.length + 1 := by
  cases σ with
  | n a => show l.length - a + 1 ≤ _; omega
  | e a q code => exact Nat.zero_le _
theorem rz_okF {α β : Type} {l : List Tok} {w : ByteArray} {g : Nat → R α} {σ : Z} {r : R β} {K : α → Nat → R β} {x : α} (hg : ∀ a, isA l a w = false → g a = .ok x a) (h : isZ l σ w = false) (e : r = rz (fun b => (g b).bind K) σ) : r = rz (fun b => K x b) σ := by
  rw [e]
  cases σ with
  | n a => show (g a).bind K = _; rw [hg a h]; rfl
  | e a q code => rfl
theorem cle_oT (t : T) : CLe (.list [oT (some t)]) (.list ([t].map T.row)) := cle_T1 t
section
variable {nt : Nat} {c : Cx Tryd.prog nt} {env : Env} {H Hr : List Ch} {K : S → List Ch → Prop} {α β : Type} {l : List Tok} {b : Nat} {r : R β} {g : Nat → R α} {F : α → Nat → R β} {σ : Z} {fid : FuncId} [FI Tryd.prog fid] {args : List S} {xs : Array Operand} {at_ : Array TypeId} {d : Option Tmp} {ty : TypeId} {pos : String} {af : Array Edge}
theorem ow_bindZ {res : α → S} (is : List Nat) (hx : env.evs xs.toList = some (Ptr b :: args)) (hp : pick is H = some ([RZ b l σ], Hr)) (con : ZC fid b l args res g σ) (he : r = rz (fun a => (g a).bind F) σ)
    (h : ∀ x σ', σ'.ok l ∧ mu l σ' ≤ mu l σ → r = rz (F x) σ' → K (res x) ([RZ b l σ'] ++ Hr)) : OpWp c ⟨d, .call { callee := .value (.func fid), args := xs, argTypes := at_ }, ty, pos, af, none⟩ env H K :=
  ow_callP is hx hp con (fun p hp => h p.1 p.2 ⟨hp.ok, hp.mu⟩ (hp.bind he))
end
theorem tr_lt {α : Type} {l : List Tok} {g : Nat → R α} {a : Nat} {x : α} {σ : Z} (hg : ∀ x c, g a = .ok x c → a < c ∧ c ≤ l.length) (h : Tr l g (.n a) x σ) : mu l σ < mu l (.n a) := by
  cases σ with
  | n c =>
    have := hg x c h.eq
    show l.length - c + 1 < l.length - a + 1
    omega
  | e _ _ _ => show 0 < l.length - a + 1; omega
theorem pick_up {q : Nat} {x ch : Ch} {H Hr : List Ch} (h : pick [q] H = some ([ch], Hr)) : pick [q + 1] (x :: H) = some ([ch], x :: Hr) := by
  simp only [pick, List.getElem?_cons_succ, List.eraseIdx_cons_succ] at h ⊢
  cases hq : H[q]? with
  | none => rw [hq] at h; cases h
  | some c0 =>
    rw [hq] at h
    simp only [Option.map_some, Option.some.injEq, Prod.mk.injEq, List.cons.injEq, and_true, true_and] at h ⊢
    obtain ⟨rfl, rfl⟩ := h
    exact ⟨rfl, rfl⟩
section
variable {nt : Nat} {c : Cx Tryd.prog nt} {env : Env} {H Hr : List Ch} {ops : Array Oper} {Q : Exit → Act → World → Prop} {Sw : World → Prop} {m fuel : Nat} {listed : Array Bool} {i j k : Nat} {α β : Type} {l : List Tok} {b : Nat} {r : R β} {g : Nat → R α} {F : α → Nat → R β} {σ : Z} {fid : FuncId} [FI Tryd.prog fid] {args : List S} {xs : Array Operand} {at_ : Array TypeId} {di dj dk : Nat} {opi : Op} {ti tj tk : TypeId} {pi pj pk : String} {afi afj afk : Array Edge} {s0 : S} {res : α → S}
theorem hp_fourZ {q4 d4 : Nat} {op4 : Op} {t4 : TypeId} {p4 : String} {af4 : Array Edge} {s4 : α → S} {e : TypeId} [TI Tryd.prog e] {z : Value} (hi : ops[i]? = some ⟨some di, opi, ti, pi, afi, none⟩) (hj : ops[j]? = some ⟨some dj, .call { callee := .value (.func fid), args := xs, argTypes := at_ }, tj, pj, afj, none⟩) (hk : ops[k]? = some ⟨some dk, .alloc e, tk, pk, afk, none⟩) (h4 : ops[q4]? = some ⟨some d4, op4, t4, p4, af4, none⟩)
    (hr : Region.ready .any ops listed = [i, j, k]) (ri : Region.ready .any ops (listed.setIfInBounds i true) = [j, k]) (rj : Region.ready .any ops (listed.setIfInBounds j true) = [i, k]) (rk : Region.ready .any ops (listed.setIfInBounds k true) = [i, j])
    (rik : Region.ready .any ops ((listed.setIfInBounds i true).setIfInBounds k true) = [j]) (rjk : Region.ready .any ops ((listed.setIfInBounds j true).setIfInBounds k true) = [i])
    (rij : Region.ready .any ops ((listed.setIfInBounds i true).setIfInBounds j true) = [q4, k]) (rij4 : Region.ready .any ops (((listed.setIfInBounds i true).setIfInBounds j true).setIfInBounds q4 true) = [k]) (rijk : Region.ready .any ops (((listed.setIfInBounds i true).setIfInBounds j true).setIfInBounds k true) = [q4])
    (hd : (Nat.ble (di + 1) nt && Nat.ble (dj + 1) nt && Nat.ble (dk + 1) nt && !(di == dj) && !(di == dk) && !(dj == dk) && !(i == j) && !(i == k) && !(j == k)) = true)
    (hd4 : (Nat.ble (d4 + 1) nt && !(d4 == dk) && !(q4 == k)) = true) (hn : (env.lookup di, env.lookup dj, env.lookup dk) = (none, none, none))
    (hz : (TI.i Tryd.prog e).zero = some z) (h1 : z.cells.toList.all Value.oneCell' = true)
    (kp : ∀ w, StW c H w → Sw w) (kpb : ∀ b w, StW c (.blk b e (zeroRow z) :: H) w → Sw w)
    (h0 : ∀ H, OpWp c ⟨some di, opi, ti, pi, afi, none⟩ env H (fun s H' => s = s0 ∧ H' = H))
    (hv4 : ∀ x H, OpWp c ⟨some d4, op4, t4, p4, af4, none⟩ ((dj, res x) :: (di, s0) :: env) H (fun s' H'' => s' = s4 x ∧ H'' = H))
    (q : Nat) (hx : env.evs xs.toList = some (Ptr b :: args)) (hp : pick [q] H = some ([RZ b l σ], Hr)) (con : ZC fid b l args res g σ) (he : r = rz (fun a => (g a).bind F) σ)
    (fin : ∀ x σ', σ'.ok l ∧ mu l σ' ≤ mu l σ → r = rz (F x) σ' → (∀ w, StW c ([RZ b l σ'] ++ Hr) w → Sw w) ∧ ∀ b0, (∀ w, StW c (.blk b0 e (zeroRow z) :: ([RZ b l σ'] ++ Hr)) w → Sw w) ∧
      HP c ops Q Sw m fuel ((((listed.setIfInBounds i true).setIfInBounds j true).setIfInBounds k true).setIfInBounds q4 true) ((d4, s4 x) :: (dk, Ptr b0) :: (dj, res x) :: (di, s0) :: env) (.blk b0 e (zeroRow z) :: ([RZ b l σ'] ++ Hr))) : HP c ops Q Sw m (fuel + 4) listed env H :=
  hp_four (R := fun s H' => ∃ x σ', s = res x ∧ H' = [RZ b l σ'] ++ Hr ∧ (σ'.ok l ∧ mu l σ' ≤ mu l σ) ∧ r = rz (F x) σ') hi hj hk h4 hr ri rj rk rik rjk rij rij4 rijk hd hd4 hn hz h1 kp kpb h0
    (ow_callP [q] hx hp con (fun p hp => ⟨p.1, p.2, rfl, rfl, ⟨hp.ok, hp.mu⟩, hp.bind he⟩))
    (fun b0 => ow_callP [q + 1] hx (pick_up hp) con (fun p hp => ⟨_, ⟨p.1, p.2, rfl, rfl, ⟨hp.ok, hp.mu⟩, hp.bind he⟩, List.Perm.swap _ _ _⟩))
    (fun s H' ⟨x, σ', hs, hH, g1, e1⟩ => by subst hs hH; exact ⟨s4 x, hv4 x, fin x σ' g1 e1⟩)
end
section
variable {l : List Tok} (hl : l.length ≤ 1000000)
include hl
theorem rstmts_of (F : Nat) (hS : RSt l F) : RSs l F := by
  intro b w σ d hd hw hσ hF
  generalize hr : rz (fun a => stmtsL l (stmtG l F w) w F a []) σ = r
  have e := hr.symm
  have hmu := mu_le l σ
  refine con_intro Tryd.func103 rfl rfl (Nat.le_of_ble_eq_true rfl) (fun c hc => R_ (E_ r_ (T_ (R_ (E_ r_ (T_ (B_ (jc_ownNil 52 8 g_ ?_))))))))
  refine jc_loopS (ι := List (Option Sm) × Z × Nat × Value × List Sm) [] (fun i => i.2.1.ok l ∧ mu l i.2.1 ≤ mu l σ ∧ mu l i.2.1 ≤ i.2.2.1 ∧ i.1.length + mu l i.2.1 ≤ l.length + 1 ∧ (0 < mu l i.2.1 → i.1 = i.2.2.2.2.map some) ∧ r = rz (fun a => stmtsL l (stmtG l F w) w i.2.2.1 a i.2.2.2.2) i.2.1)
    (fun i => [(0, Ptr b), (1, In .i64 d), (5, .cell (.val i.2.2.2.1))]) (fun i => [RZ b l i.2.1, .own i.2.2.2.1 52 8 (i.1.map oSm)]) (fun i => mu l i.2.1) ([], σ, F, .slice none 0 0, []) ⟨hσ, Nat.le_refl _, hF, by dsimp only [List.length_nil]; omega, fun _ => rfl, e⟩ ?_ ?_ ?_
  · exact bc_ 1 r_ (bc_ 0 r_ sub_end)
  · (repeat (first | exact True.intro | refine ⟨rfl, ?_⟩))
  clear e
  rintro ⟨os, z, n, v, acc⟩ ⟨i0, i1, i2, i3, i4, e⟩
  dsimp only at i0 i1 i2 i3 i4 e ⊢
  refine jc_reset [(0, Ptr b), (1, In .i64 d), (5, .cell (.val v))] [RZ b l z, .own v 52 8 (os.map oSm)] ?_ ⟨[0, 0], [], rfl⟩ ?_
  · (repeat (first | exact True.intro | refine ⟨rfl, ?_⟩))
  cases z with
  | e a q code =>
    have hc0 : ¬ code = 0 := i0.2
    refine am_ (R_ (M_ r_ (N_ r_ (F_ r_ (L_ 0 r_ (o_ r_ (bn_ r_ r_ (M_ r_ (ai_ r_ w_ b_ (ai_ r_ w_ b_ (ai_ r_ w_ b_ (aj_ r_ b_ (aj_ r_ b_ (ai_ r_ w_ b_ (ai_ r_ w_ b_ (aj_ r_ b_ ?_))))))))))))))))
    refine aj_ r_ b_ (ai_ r_ w_ b_ (ai_ r_ w_ b_ (aj_ r_ b_ (aj_ r_ b_ (ai_ r_ w_ b_ (o_ r_ (bv_ r_ w_ r_ (T_ (ap_ r_ r_ (av_ (ax_ (ax_ (ba_ (al_ (R_ (M_ r_ ?_))))))))))))))))
    exact E_ r_ (T_ (ar_ (jq_freeze 4 1 rfl rfl (by rw [hc, hb_rz]; simp [hb, Ch.bs]) (jq_sle 4 rfl (SLe.cell (CLe.any _)) (jq_ret1S rfl rfl (fun K h => h ((none, 0), .e a q code) ⟨acc, tr_end hr e ⟨i0, i1⟩, fun h => absurd h (Nat.lt_irrefl _)⟩) (bc_ 0 r_ sub_end))))))
  | n a =>
    have hm0 : mu l (.n a) = l.length - a + 1 := rfl
    have hos := i4 (by omega)
    subst hos
    have i0 : a ≤ l.length := i0
    have e : r = stmtsL l (stmtG l F w) w n a acc := e
    cases hst : startA l a with
    | false =>
      obtain ⟨h1, h2, h3, h4⟩ := start_n hst
      rw [stmtsL_stop hst] at e
      refine am_ (R_ (M_ r_ (N_ r_ (F_ r_ (L_ 0 r_ (o_ r_ (bn_ r_ r_ (M_ r_ (ah_ r_ r_ b_ (bd_ r_ (ah_ r_ r_ b_ (bi_ [0] r_ r_ (ris_n i0 h1) (ah_ r_ r_ b_ (bd_ r_ (ah_ r_ r_ b_ (bd_ r_ (ah_ r_ r_ b_ (bi_ [0] r_ r_ (ris_n i0 h2) (ah_ r_ r_ b_ (bv_ r_ r_ r_ (ah_ r_ r_ b_ (bd_ r_ (ah_ r_ r_ b_ (bd_ r_ ?_))))))))))))))))))))))))
      refine ah_ r_ r_ b_ (bi_ [0] r_ r_ (ris_n i0 h3) (ah_ r_ r_ b_ (bv_ r_ r_ r_ (ah_ r_ r_ b_ (bd_ r_ (ah_ r_ r_ b_ (bd_ r_ (ah_ r_ r_ b_ (bi_ [0] r_ r_ (risNm_n i0 h4) (ah_ r_ r_ b_ (bv_ r_ r_ r_ (o_ r_ (bp_ r_ x_ r_ (T_ (ap_ r_ r_ (av_ (ax_ (ax_ (ba_ (al_ (R_ (M_ r_ ?_))))))))))))))))))))))
      exact E_ r_ (T_ (ar_ (jq_freeze 4 1 rfl rfl (by rw [hc, hb_rz]; simp [hb, Ch.bs]) (jq_ret1S rfl rfl (fun K h => by rw [os_rows]; exact h ((some acc, 0), .n a) ⟨acc, tr_end hr e ⟨i0, i1⟩, fun _ => rfl⟩) (bc_ 0 r_ sub_end)))))
    | true =>
      have hlt := start_lt hst
      obtain ⟨n, rfl⟩ : ∃ m, n = m + 1 := ⟨n - 1, by omega⟩
      rw [stmtsL, if_pos hst] at e
      by_cases hw8 : 8 ≤ w
      · rw [if_pos hw8] at e
        have hd8 : d ≥ 8 := by omega
        cases h1 : isA l a Kif with
        | true =>
          refine am_ (R_ (M_ r_ (N_ r_ (F_ r_ (L_ 0 r_ (o_ r_ (bn_ r_ r_ (M_ r_ (ah_ r_ r_ b_ (bd_ r_ (ah_ r_ r_ b_ (bi_ [0] r_ r_ (ris_y i0 h1) (ah_ r_ r_ b_ (bd_ r_ (ai_ r_ r_ b_ (ai_ r_ r_ b_ (ah_ r_ r_ b_ (bp_ r_ r_ r_ (ah_ r_ r_ b_ (bd_ r_ (ai_ r_ r_ b_ ?_)))))))))))))))))))))
          refine ai_ r_ r_ b_ (ah_ r_ r_ b_ (bp_ r_ r_ r_ (ah_ r_ r_ b_ (bd_ r_ (ai_ r_ r_ b_ (ai_ r_ r_ b_ (ah_ r_ r_ b_ (bp_ r_ r_ r_ (o_ r_ (bp_ r_ x_ r_ (T_ (aq_ r_ r_ (as_ (al_ (au_ (am_ (R_ (M_ r_ (o_ r_ (cn_ r_ r_ ?_))))))))))))))))))))
          refine T_ (aq_ r_ u_ (R_ (M_ r_ (M_ r_ (N_ r_ (F_ r_ (L_ 0 r_ (o_ r_ (bi_ [0] r_ r_ (rfail_c hl a g_ 4) (T_ (R_ (E_ r_ (T_ (ar_ (aw_ (az_ ?_))))))))))))))))
          exact aw_ (az_ (aw_ (jq_sle 4 rfl (SLe.cell (CLe.any _)) (jq_ret1S rfl rfl (fun K h => h ((none, 0), .e a a 4) ⟨acc, tr_end hr e ⟨⟨i0, by decide⟩, Nat.zero_le _⟩, fun h => absurd h (Nat.lt_irrefl _)⟩) (bc_ 0 r_ sub_end)))))
        | false =>
          cases h2 : isA l a Kwhile with
          | true =>
            refine am_ (R_ (M_ r_ (N_ r_ (F_ r_ (L_ 0 r_ (o_ r_ (bn_ r_ r_ (M_ r_ (ah_ r_ r_ b_ (bd_ r_ (ah_ r_ r_ b_ (bi_ [0] r_ r_ (ris_n i0 h1) (ah_ r_ r_ b_ (bd_ r_ (ah_ r_ r_ b_ (bd_ r_ (ah_ r_ r_ b_ (bi_ [0] r_ r_ (ris_y i0 h2) (ah_ r_ r_ b_ (bv_ r_ r_ r_ (ah_ r_ r_ b_ (bd_ r_ (ai_ r_ r_ b_ ?_)))))))))))))))))))))))
            refine ai_ r_ r_ b_ (ah_ r_ r_ b_ (bp_ r_ r_ r_ (ah_ r_ r_ b_ (bd_ r_ (ai_ r_ r_ b_ (ai_ r_ r_ b_ (ah_ r_ r_ b_ (bp_ r_ r_ r_ (o_ r_ (bp_ r_ x_ r_ (T_ (aq_ r_ r_ (as_ (al_ (au_ (am_ (R_ (M_ r_ (o_ r_ (cn_ r_ r_ ?_))))))))))))))))))))
            refine T_ (aq_ r_ u_ (R_ (M_ r_ (M_ r_ (N_ r_ (F_ r_ (L_ 0 r_ (o_ r_ (bi_ [0] r_ r_ (rfail_c hl a g_ 4) (T_ (R_ (E_ r_ (T_ (ar_ (aw_ (az_ ?_))))))))))))))))
            exact aw_ (az_ (aw_ (jq_sle 4 rfl (SLe.cell (CLe.any _)) (jq_ret1S rfl rfl (fun K h => h ((none, 0), .e a a 4) ⟨acc, tr_end hr e ⟨⟨i0, by decide⟩, Nat.zero_le _⟩, fun h => absurd h (Nat.lt_irrefl _)⟩) (bc_ 0 r_ sub_end)))))
          | false =>
            cases h3 : isA l a Klock with
            | true =>
              refine am_ (R_ (M_ r_ (N_ r_ (F_ r_ (L_ 0 r_ (o_ r_ (bn_ r_ r_ (M_ r_ (ah_ r_ r_ b_ (bd_ r_ (ah_ r_ r_ b_ (bi_ [0] r_ r_ (ris_n i0 h1) (ah_ r_ r_ b_ (bd_ r_ (ah_ r_ r_ b_ (bd_ r_ (ah_ r_ r_ b_ (bi_ [0] r_ r_ (ris_n i0 h2) (ah_ r_ r_ b_ (bv_ r_ r_ r_ (ah_ r_ r_ b_ (bd_ r_ (ah_ r_ r_ b_ (bd_ r_ ?_))))))))))))))))))))))))
              refine ah_ r_ r_ b_ (bi_ [0] r_ r_ (ris_y i0 h3) (ah_ r_ r_ b_ (bv_ r_ r_ r_ (ah_ r_ r_ b_ (bd_ r_ (ai_ r_ r_ b_ (ai_ r_ r_ b_ (ah_ r_ r_ b_ (bp_ r_ r_ r_ (o_ r_ (bp_ r_ x_ r_ (T_ (aq_ r_ r_ (as_ (al_ (au_ (am_ (R_ (M_ r_ (o_ r_ (cn_ r_ r_ ?_)))))))))))))))))))))
              refine T_ (aq_ r_ u_ (R_ (M_ r_ (M_ r_ (N_ r_ (F_ r_ (L_ 0 r_ (o_ r_ (bi_ [0] r_ r_ (rfail_c hl a g_ 4) (T_ (R_ (E_ r_ (T_ (ar_ (aw_ (az_ ?_))))))))))))))))
              exact aw_ (az_ (aw_ (jq_sle 4 rfl (SLe.cell (CLe.any _)) (jq_ret1S rfl rfl (fun K h => h ((none, 0), .e a a 4) ⟨acc, tr_end hr e ⟨⟨i0, by decide⟩, Nat.zero_le _⟩, fun h => absurd h (Nat.lt_irrefl _)⟩) (bc_ 0 r_ sub_end)))))
            | false =>
              have h4 : isNm l a = true := by rw [startA, h1, h2, h3] at hst; simpa using hst
              refine am_ (R_ (M_ r_ (N_ r_ (F_ r_ (L_ 0 r_ (o_ r_ (bn_ r_ r_ (M_ r_ (ah_ r_ r_ b_ (bd_ r_ (ah_ r_ r_ b_ (bi_ [0] r_ r_ (ris_n i0 h1) (ah_ r_ r_ b_ (bd_ r_ (ah_ r_ r_ b_ (bd_ r_ (ah_ r_ r_ b_ (bi_ [0] r_ r_ (ris_n i0 h2) (ah_ r_ r_ b_ (bv_ r_ r_ r_ (ah_ r_ r_ b_ (bd_ r_ (ah_ r_ r_ b_ (bd_ r_ ?_))))))))))))))))))))))))
              refine ah_ r_ r_ b_ (bi_ [0] r_ r_ (ris_n i0 h3) (ah_ r_ r_ b_ (bv_ r_ r_ r_ (ah_ r_ r_ b_ (bd_ r_ (ah_ r_ r_ b_ (bd_ r_ (ah_ r_ r_ b_ (bi_ [0] r_ r_ (risNm_y i0 h4) (ah_ r_ r_ b_ (bv_ r_ r_ r_ (o_ r_ (bp_ r_ x_ r_ (T_ (aq_ r_ r_ (as_ (al_ (au_ (am_ (R_ (M_ r_ (o_ r_ (cn_ r_ r_ ?_)))))))))))))))))))))))
              refine T_ (aq_ r_ u_ (R_ (M_ r_ (M_ r_ (N_ r_ (F_ r_ (L_ 0 r_ (o_ r_ (bi_ [0] r_ r_ (rfail_c hl a g_ 4) (T_ (R_ (E_ r_ (T_ (ar_ (aw_ (az_ ?_))))))))))))))))
              exact aw_ (az_ (aw_ (jq_sle 4 rfl (SLe.cell (CLe.any _)) (jq_ret1S rfl rfl (fun K h => h ((none, 0), .e a a 4) ⟨acc, tr_end hr e ⟨⟨i0, by decide⟩, Nat.zero_le _⟩, fun h => absurd h (Nat.lt_irrefl _)⟩) (bc_ 0 r_ sub_end)))))
      · rw [if_neg hw8] at e
        have hd8 : ¬ d ≥ 8 := by omega
        have con := hS b w a d hd (by omega) i0 hst (by omega)
        cases h1 : isA l a Kif with
        | true =>
          refine am_ (R_ (M_ r_ (N_ r_ (F_ r_ (L_ 0 r_ (o_ r_ (bn_ r_ r_ (M_ r_ (ah_ r_ r_ b_ (bd_ r_ (ah_ r_ r_ b_ (bi_ [0] r_ r_ (ris_y i0 h1) (ah_ r_ r_ b_ (bd_ r_ (ai_ r_ r_ b_ (ai_ r_ r_ b_ (ah_ r_ r_ b_ (bp_ r_ r_ r_ (ah_ r_ r_ b_ (bd_ r_ (ai_ r_ r_ b_ ?_)))))))))))))))))))))
          refine ai_ r_ r_ b_ (ah_ r_ r_ b_ (bp_ r_ r_ r_ (ah_ r_ r_ b_ (bd_ r_ (ai_ r_ r_ b_ (ai_ r_ r_ b_ (ah_ r_ r_ b_ (bp_ r_ r_ r_ (o_ r_ (bp_ r_ x_ r_ (T_ (aq_ r_ r_ (as_ (al_ (au_ (am_ (R_ (M_ r_ (o_ r_ (cn_ r_ r_ ?_))))))))))))))))))))
          refine T_ (ap_ r_ w_ (as_ (al_ (an_ (M_ r_ (M_ r_ (M_ r_ (o_ r_ (bt_ [0] rfl rfl (con) (fun pp hpp => o_ r_ (bq_ r_ r_ b_ r_ r_ b_ ?_)))))))))))
          obtain ⟨⟨o, k⟩, s2⟩ := pp
          obtain ⟨x, tr, hv⟩ := hpp
          dsimp only at tr hv
          have e2 := tr.bind e
          have hlt2 := tr_lt (stmtG_bd _ _ _) tr
          have h3 := tr.ok
          refine o_ r_ (ow_append1 1 (o) rfl rfl rfl rfl rfl rfl rfl (fun s => rfl) (by show (_ + _) * 136 ≤ _; first | omega | (simp only [List.length_append]; omega)) (by first | omega | (simp only [List.length_append]; omega)) (fun v2 hv2 => E_ r_ (ak_ (ay_ ?_))))
          refine jq_againS (i := (acc.map some, Z.n a, n + 1, v, acc)) ((acc.map some ++ [o], s2, n, v2, acc ++ [x]) : List (Option Sm) × Z × Nat × Value × List Sm) ⟨h3, by dsimp only; omega, by dsimp only; omega, by dsimp only; simp only [List.length_append, List.length_singleton]; omega, fun h => by dsimp only; rw [hv h]; simp, e2⟩ (by dsimp only; omega) ?_ ?_
          · exact bc_ 1 r_ (bc_ 0 r_ sub_end)
          · (repeat (first | exact True.intro | refine ⟨rfl, ?_⟩))
        | false =>
          cases h2 : isA l a Kwhile with
          | true =>
            refine am_ (R_ (M_ r_ (N_ r_ (F_ r_ (L_ 0 r_ (o_ r_ (bn_ r_ r_ (M_ r_ (ah_ r_ r_ b_ (bd_ r_ (ah_ r_ r_ b_ (bi_ [0] r_ r_ (ris_n i0 h1) (ah_ r_ r_ b_ (bd_ r_ (ah_ r_ r_ b_ (bd_ r_ (ah_ r_ r_ b_ (bi_ [0] r_ r_ (ris_y i0 h2) (ah_ r_ r_ b_ (bv_ r_ r_ r_ (ah_ r_ r_ b_ (bd_ r_ (ai_ r_ r_ b_ ?_)))))))))))))))))))))))
            refine ai_ r_ r_ b_ (ah_ r_ r_ b_ (bp_ r_ r_ r_ (ah_ r_ r_ b_ (bd_ r_ (ai_ r_ r_ b_ (ai_ r_ r_ b_ (ah_ r_ r_ b_ (bp_ r_ r_ r_ (o_ r_ (bp_ r_ x_ r_ (T_ (aq_ r_ r_ (as_ (al_ (au_ (am_ (R_ (M_ r_ (o_ r_ (cn_ r_ r_ ?_))))))))))))))))))))
            refine T_ (ap_ r_ w_ (as_ (al_ (an_ (M_ r_ (M_ r_ (M_ r_ (o_ r_ (bt_ [0] rfl rfl (con) (fun pp hpp => o_ r_ (bq_ r_ r_ b_ r_ r_ b_ ?_)))))))))))
            obtain ⟨⟨o, k⟩, s2⟩ := pp
            obtain ⟨x, tr, hv⟩ := hpp
            dsimp only at tr hv
            have e2 := tr.bind e
            have hlt2 := tr_lt (stmtG_bd _ _ _) tr
            have h3 := tr.ok
            refine o_ r_ (ow_append1 1 (o) rfl rfl rfl rfl rfl rfl rfl (fun s => rfl) (by show (_ + _) * 136 ≤ _; first | omega | (simp only [List.length_append]; omega)) (by first | omega | (simp only [List.length_append]; omega)) (fun v2 hv2 => E_ r_ (ak_ (ay_ ?_))))
            refine jq_againS (i := (acc.map some, Z.n a, n + 1, v, acc)) ((acc.map some ++ [o], s2, n, v2, acc ++ [x]) : List (Option Sm) × Z × Nat × Value × List Sm) ⟨h3, by dsimp only; omega, by dsimp only; omega, by dsimp only; simp only [List.length_append, List.length_singleton]; omega, fun h => by dsimp only; rw [hv h]; simp, e2⟩ (by dsimp only; omega) ?_ ?_
            · exact bc_ 1 r_ (bc_ 0 r_ sub_end)
            · (repeat (first | exact True.intro | refine ⟨rfl, ?_⟩))
          | false =>
            cases h3 : isA l a Klock with
            | true =>
              refine am_ (R_ (M_ r_ (N_ r_ (F_ r_ (L_ 0 r_ (o_ r_ (bn_ r_ r_ (M_ r_ (ah_ r_ r_ b_ (bd_ r_ (ah_ r_ r_ b_ (bi_ [0] r_ r_ (ris_n i0 h1) (ah_ r_ r_ b_ (bd_ r_ (ah_ r_ r_ b_ (bd_ r_ (ah_ r_ r_ b_ (bi_ [0] r_ r_ (ris_n i0 h2) (ah_ r_ r_ b_ (bv_ r_ r_ r_ (ah_ r_ r_ b_ (bd_ r_ (ah_ r_ r_ b_ (bd_ r_ ?_))))))))))))))))))))))))
              refine ah_ r_ r_ b_ (bi_ [0] r_ r_ (ris_y i0 h3) (ah_ r_ r_ b_ (bv_ r_ r_ r_ (ah_ r_ r_ b_ (bd_ r_ (ai_ r_ r_ b_ (ai_ r_ r_ b_ (ah_ r_ r_ b_ (bp_ r_ r_ r_ (o_ r_ (bp_ r_ x_ r_ (T_ (aq_ r_ r_ (as_ (al_ (au_ (am_ (R_ (M_ r_ (o_ r_ (cn_ r_ r_ ?_)))))))))))))))))))))
              refine T_ (ap_ r_ w_ (as_ (al_ (an_ (M_ r_ (M_ r_ (M_ r_ (o_ r_ (bt_ [0] rfl rfl (con) (fun pp hpp => o_ r_ (bq_ r_ r_ b_ r_ r_ b_ ?_)))))))))))
              obtain ⟨⟨o, k⟩, s2⟩ := pp
              obtain ⟨x, tr, hv⟩ := hpp
              dsimp only at tr hv
              have e2 := tr.bind e
              have hlt2 := tr_lt (stmtG_bd _ _ _) tr
              have h3 := tr.ok
              refine o_ r_ (ow_append1 1 (o) rfl rfl rfl rfl rfl rfl rfl (fun s => rfl) (by show (_ + _) * 136 ≤ _; first | omega | (simp only [List.length_append]; omega)) (by first | omega | (simp only [List.length_append]; omega)) (fun v2 hv2 => E_ r_ (ak_ (ay_ ?_))))
              refine jq_againS (i := (acc.map some, Z.n a, n + 1, v, acc)) ((acc.map some ++ [o], s2, n, v2, acc ++ [x]) : List (Option Sm) × Z × Nat × Value × List Sm) ⟨h3, by dsimp only; omega, by dsimp only; omega, by dsimp only; simp only [List.length_append, List.length_singleton]; omega, fun h => by dsimp only; rw [hv h]; simp, e2⟩ (by dsimp only; omega) ?_ ?_
              · exact bc_ 1 r_ (bc_ 0 r_ sub_end)
              · (repeat (first | exact True.intro | refine ⟨rfl, ?_⟩))
            | false =>
              have h4 : isNm l a = true := by rw [startA, h1, h2, h3] at hst; simpa using hst
              refine am_ (R_ (M_ r_ (N_ r_ (F_ r_ (L_ 0 r_ (o_ r_ (bn_ r_ r_ (M_ r_ (ah_ r_ r_ b_ (bd_ r_ (ah_ r_ r_ b_ (bi_ [0] r_ r_ (ris_n i0 h1) (ah_ r_ r_ b_ (bd_ r_ (ah_ r_ r_ b_ (bd_ r_ (ah_ r_ r_ b_ (bi_ [0] r_ r_ (ris_n i0 h2) (ah_ r_ r_ b_ (bv_ r_ r_ r_ (ah_ r_ r_ b_ (bd_ r_ (ah_ r_ r_ b_ (bd_ r_ ?_))))))))))))))))))))))))
              refine ah_ r_ r_ b_ (bi_ [0] r_ r_ (ris_n i0 h3) (ah_ r_ r_ b_ (bv_ r_ r_ r_ (ah_ r_ r_ b_ (bd_ r_ (ah_ r_ r_ b_ (bd_ r_ (ah_ r_ r_ b_ (bi_ [0] r_ r_ (risNm_y i0 h4) (ah_ r_ r_ b_ (bv_ r_ r_ r_ (o_ r_ (bp_ r_ x_ r_ (T_ (aq_ r_ r_ (as_ (al_ (au_ (am_ (R_ (M_ r_ (o_ r_ (cn_ r_ r_ ?_)))))))))))))))))))))))
              refine T_ (ap_ r_ w_ (as_ (al_ (an_ (M_ r_ (M_ r_ (M_ r_ (o_ r_ (bt_ [0] rfl rfl (con) (fun pp hpp => o_ r_ (bq_ r_ r_ b_ r_ r_ b_ ?_)))))))))))
              obtain ⟨⟨o, k⟩, s2⟩ := pp
              obtain ⟨x, tr, hv⟩ := hpp
              dsimp only at tr hv
              have e2 := tr.bind e
              have hlt2 := tr_lt (stmtG_bd _ _ _) tr
              have h3 := tr.ok
              refine o_ r_ (ow_append1 1 (o) rfl rfl rfl rfl rfl rfl rfl (fun s => rfl) (by show (_ + _) * 136 ≤ _; first | omega | (simp only [List.length_append]; omega)) (by first | omega | (simp only [List.length_append]; omega)) (fun v2 hv2 => E_ r_ (ak_ (ay_ ?_))))
              refine jq_againS (i := (acc.map some, Z.n a, n + 1, v, acc)) ((acc.map some ++ [o], s2, n, v2, acc ++ [x]) : List (Option Sm) × Z × Nat × Value × List Sm) ⟨h3, by dsimp only; omega, by dsimp only; omega, by dsimp only; simp only [List.length_append, List.length_singleton]; omega, fun h => by dsimp only; rw [hv h]; simp, e2⟩ (by dsimp only; omega) ?_ ?_
              · exact bc_ 1 r_ (bc_ 0 r_ sub_end)
              · (repeat (first | exact True.intro | refine ⟨rfl, ?_⟩))
theorem rstmt_step (F : Nat) (hB : RBk l F) : RSt l (F + 1) := by
  intro b w a d hd hw ha hst hF
  have hlt := start_lt hst
  have hm0 : mu l (.n a) = l.length - a + 1 := rfl
  have hm1 : mu l (.n (a + 1)) = l.length - (a + 1) + 1 := rfl
  have hk0 : (Z.n (a + 1)).ok l := hlt
  generalize hr : rz (stmtG l (F + 1) w) (.n a) = r
  have e : r = stmtG l (F + 1) w a := hr.symm
  rw [stmtG] at e
  refine con_intro Tryd.func121 rfl rfl (Nat.le_of_ble_eq_true rfl) (fun c hc => ?_)
  cases h1 : isA l a Kif with
  | true =>
    rw [if_pos h1] at e
    have e := rz_in (g := exG l) e
    refine R_ (o_ r_ (bl_ r_ r_ (fun bl => T_ (B_ (R_ (M_ r_ (o_ r_ (bi_ [1] r_ r_ (rskip_y hl ha h1) (E_ r_ (T_ (aq_ r_ r_ (R_ (M_ r_ (jl_bindZO [0] rfl rfl (rexpr_z hl hk0) e (nb rfl) (fun o1 k1 x s1 g1 v1 e => M_ r_ (X_ r_ (X_ r_ ?_)))))))))))))))))
    refine o_ r_ (bl_ r_ r_ (fun bl => S_ 0 r_ (E_ r_ (T_ (R_ (M_ r_ (jl_bindZ [1] rfl rfl (rneed_z hl g1.1 Klabel) e (nb rfl) (fun u s2 g2 e => T_ (am_ (jc_hp1 6 (n := 7) rfl 1 k_ rfl (fun cs1 hcs1 => ?_)))))))))))
    obtain ⟨u10, u11, u12, u13, u14, rfl⟩ := len5 hcs1
    refine df_ (i := 0) rfl k_ k_ k_ b_ (by (repeat (first | refine pani_then ?_ | refine pani_block ?_)); exact pani_body) (dn_ 1 rfl rfl rfl mem0 rfl) ?_
    refine df_ (i := 2) rfl k_ k_ k_ b_ (by (repeat (first | refine pani_then ?_ | refine pani_block ?_)); exact pani_body) (dk_ rfl) ?_
    refine hp_exact 1 rfl mem0 (hp_fourZ (i := 1) (j := 3) (k := 5) (q4 := 4) rfl rfl rfl rfl k_ k_ k_ k_ k_ k_ k_ k_ k_ rfl rfl rfl rfl rfl (keep1 0 rfl) (fun _ => keep1 1 rfl) (fun _ => bq_ rfl rfl (nb rfl) rfl rfl (nb rfl) ⟨rfl, rfl⟩) (fun _ _ => bu_ rfl rfl rfl rfl rfl ⟨rfl, rfl⟩) 1 rfl rfl (rnum_z hl g2.1) e (fun n s3 g3 e => ⟨?_, fun bl => ⟨?_, ?_⟩⟩))
    · exact keep1 1 rfl
    · exact keep1 2 rfl
    refine hp_tail (dj_ (i := 6) rfl k_ (by decide) (bk_ 0 rfl rfl rfl rfl rfl rfl (ht_done k_ (al_ (R_ (M_ r_ (M_ r_ (o_ r_ (bj_ r_ r_ g_ (jl_bindZO [1] rfl rfl (hB b (w + 1) s3 _ g_ g_ g3.1 g_) e (nb rfl) (fun o2 k2 t s4 g4 v2 e => F_ r_ (W_ 1 r_ (T_ (am_ (am_ ?_)))))))))))))))
    cases h5 : isZ l s4 Kelse with
    | true =>
      obtain ⟨a4, rfl⟩ := isZ_n h5
      have hlt4 := isA_lt h5
      have hm4 : mu l (.n a4) = l.length - a4 + 1 := rfl
      have hm5 : mu l (.n (a4 + 1)) = l.length - (a4 + 1) + 1 := rfl
      have hk4 : (Z.n (a4 + 1)).ok l := hlt4
      have e := rz_ifT h5 e
      have e := rz_in (g := blkG l (stmtG l F (w + 1)) (w + 1) F) e
      refine an_ (M_ r_ (o_ r_ (bi_ [1] r_ r_ (rskip_y hl g4.1 h5) (T_ (aq_ r_ r_ (an_ (M_ r_ (M_ r_ (o_ r_ (bj_ r_ r_ g_ (jl_bindZO [0] rfl rfl (hB b (w + 1) (.n (a4 + 1)) _ g_ g_ hk4 g_) e (nb rfl) (fun o3 k3 t2 s5 g5 v3 e => F_ r_ (W_ 1 r_ (T_ (R_ (A_ 0 r_ (S_ 3 r_ ?_)))))))))))))))))
      refine T_ (ar_ (az_ (aw_ ?_)))
      by_cases hm : 0 < mu l s5
      · obtain rfl := v1 (by omega)
        obtain rfl := v2 (by omega)
        obtain rfl := v3 (by omega)
        refine jq_row 0 (oSm (some (Sm.mk 3 ⟨#[]⟩ [] [x] 0 n t t2))) rfl ?_ ?_
        · (repeat (first | exact RowLe.nil | refine RowLe.cons (CLe.refl _) ?_ | refine RowLe.cons CLe.nil ?_ | refine RowLe.cons (cle_oT _) ?_))
        exact jq_retRowS rfl rfl rfl rfl 0 rfl (fun K h => h ((some (Sm.mk 3 ⟨#[]⟩ [] [x] 0 n t t2), 0), s5) ⟨_, tr_end hr e ⟨g5.1, by dsimp only; omega⟩, fun _ => rfl⟩) (bc_ 2 r_ sub_end)
      · refine jq_row 0 (oSm none) rfl ?_ ?_
        · (repeat (first | exact RowLe.nil | refine RowLe.cons (CLe.any _) ?_))
        exact jq_retRowS rfl rfl rfl rfl 0 rfl (fun K h => h ((none, 0), s5) ⟨_, tr_end hr e ⟨g5.1, by dsimp only; omega⟩, fun h => absurd h hm⟩) (bc_ 2 r_ sub_end)
    | false =>
      have e := rz_ifF h5 e
      refine an_ (M_ r_ (o_ r_ (bi_ [1] r_ r_ (rskip_zn g4.1 h5) (T_ (ap_ r_ r_ (as_ (al_ (R_ (A_ 1 r_ (S_ 3 r_ (T_ (ar_ (az_ (aw_ ?_))))))))))))))
      by_cases hm : 0 < mu l s4
      · obtain rfl := v1 (by omega)
        obtain rfl := v2 (by omega)
        refine jq_row 0 (oSm (some (Sm.mk 3 ⟨#[]⟩ [] [x] 0 n t []))) rfl ?_ ?_
        · (repeat (first | exact RowLe.nil | refine RowLe.cons (CLe.refl _) ?_ | refine RowLe.cons CLe.nil ?_ | refine RowLe.cons (cle_oT _) ?_))
        exact jq_retRowS rfl rfl rfl rfl 0 rfl (fun K h => h ((some (Sm.mk 3 ⟨#[]⟩ [] [x] 0 n t []), 0), s4) ⟨_, tr_end hr e ⟨g4.1, by dsimp only; omega⟩, fun _ => rfl⟩) (bc_ 1 r_ sub_end)
      · refine jq_row 0 (oSm none) rfl ?_ ?_
        · (repeat (first | exact RowLe.nil | refine RowLe.cons (CLe.any _) ?_))
        exact jq_retRowS rfl rfl rfl rfl 0 rfl (fun K h => h ((none, 0), s4) ⟨_, tr_end hr e ⟨g4.1, by dsimp only; omega⟩, fun h => absurd h hm⟩) (bc_ 1 r_ sub_end)
  | false =>
    rw [if_neg (by rw [h1]; decide)] at e
    cases h2 : isA l a Kwhile with
    | true =>
      rw [if_pos h2] at e
      have e := rz_in (g := exG l) e
      refine R_ (o_ r_ (bl_ r_ r_ (fun bl => T_ (B_ (R_ (M_ r_ (o_ r_ (bi_ [1] r_ r_ (rskip_n ha h1) (E_ r_ (T_ (ap_ r_ r_ (R_ (M_ r_ (o_ r_ (bi_ [0] r_ r_ (rskip_y hl ha h2) (E_ r_ (T_ (aq_ r_ r_ ?_))))))))))))))))))
      refine R_ (M_ r_ (jl_bindZO [0] rfl rfl (rexpr_z hl hk0) e (nb rfl) (fun o1 k1 x s1 g1 v1 e => M_ r_ (X_ r_ (X_ r_ (o_ r_ (bl_ r_ r_ (fun bl => S_ 0 r_ (E_ r_ (T_ (R_ (M_ r_ (jl_bindZ [1] rfl rfl (rneed_z hl g1.1 Kmax) e (nb rfl) (fun u s2 g2 e => T_ (am_ (jc_hp1 6 (n := 7) rfl 1 k_ rfl (fun cs1 hcs1 => ?_)))))))))))))))))
      obtain ⟨u10, u11, u12, u13, u14, rfl⟩ := len5 hcs1
      refine df_ (i := 0) rfl k_ k_ k_ b_ (by (repeat (first | refine pani_then ?_ | refine pani_block ?_)); exact pani_body) (dn_ 1 rfl rfl rfl mem0 rfl) ?_
      refine df_ (i := 2) rfl k_ k_ k_ b_ (by (repeat (first | refine pani_then ?_ | refine pani_block ?_)); exact pani_body) (dk_ rfl) ?_
      refine hp_exact 1 rfl mem0 (hp_fourZ (i := 1) (j := 3) (k := 5) (q4 := 4) rfl rfl rfl rfl k_ k_ k_ k_ k_ k_ k_ k_ k_ rfl rfl rfl rfl rfl (keep1 0 rfl) (fun _ => keep1 1 rfl) (fun _ => bq_ rfl rfl (nb rfl) rfl rfl (nb rfl) ⟨rfl, rfl⟩) (fun _ _ => bu_ rfl rfl rfl rfl rfl ⟨rfl, rfl⟩) 1 rfl rfl (rnum_z hl g2.1) e (fun m s3 g3 e => ⟨?_, fun bl => ⟨?_, ?_⟩⟩))
      · exact keep1 1 rfl
      · exact keep1 2 rfl
      refine hp_tail (dj_ (i := 6) rfl k_ (by decide) (bk_ 0 rfl rfl rfl rfl rfl rfl (ht_done k_ (al_ (R_ (M_ r_ (jl_bindZ [1] rfl rfl (rneed_z hl g3.1 Klabel) e (nb rfl) (fun u2 s4 g4 e => T_ (R_ (M_ r_ (jl_bindZ [0] rfl rfl (rnum_z hl g4.1) e (nb rfl) (fun n s5 g5 e => F_ r_ (W_ 1 r_ (T_ (R_ (M_ r_ ?_))))))))))))))))
      refine M_ r_ (o_ r_ (bj_ r_ r_ g_ (jl_bindZO [1] rfl rfl (hB b (w + 1) s5 _ g_ g_ g5.1 g_) e (nb rfl) (fun o2 k2 t s6 g6 v2 e => F_ r_ (W_ 1 r_ (T_ (R_ (A_ 0 r_ (S_ 3 r_ (T_ (ar_ (az_ (aw_ ?_)))))))))))))
      by_cases hm : 0 < mu l s6
      · obtain rfl := v1 (by omega)
        obtain rfl := v2 (by omega)
        refine jq_row 0 (oSm (some (Sm.mk 4 ⟨#[]⟩ [] [x] m n t []))) rfl ?_ ?_
        · (repeat (first | exact RowLe.nil | refine RowLe.cons (CLe.refl _) ?_ | refine RowLe.cons CLe.nil ?_ | refine RowLe.cons (cle_oT _) ?_))
        exact jq_retRowS rfl rfl rfl rfl 0 rfl (fun K h => h ((some (Sm.mk 4 ⟨#[]⟩ [] [x] m n t []), 0), s6) ⟨_, tr_end hr e ⟨g6.1, by dsimp only; omega⟩, fun _ => rfl⟩) (bc_ 2 r_ sub_end)
      · refine jq_row 0 (oSm none) rfl ?_ ?_
        · (repeat (first | exact RowLe.nil | refine RowLe.cons (CLe.any _) ?_))
        exact jq_retRowS rfl rfl rfl rfl 0 rfl (fun K h => h ((none, 0), s6) ⟨_, tr_end hr e ⟨g6.1, by dsimp only; omega⟩, fun h => absurd h hm⟩) (bc_ 2 r_ sub_end)
    | false =>
      rw [if_neg (by rw [h2]; decide)] at e
      cases h3 : isA l a Klock with
      | true =>
        rw [if_pos h3] at e
        have e := rz_in (g := nmG l) e
        refine R_ (o_ r_ (bl_ r_ r_ (fun bl => T_ (B_ (R_ (M_ r_ (o_ r_ (bi_ [1] r_ r_ (rskip_n ha h1) (E_ r_ (T_ (ap_ r_ r_ (R_ (M_ r_ (o_ r_ (bi_ [0] r_ r_ (rskip_n ha h2) (E_ r_ (T_ (ap_ r_ r_ ?_))))))))))))))))))
        refine R_ (M_ r_ (o_ r_ (bi_ [0] r_ r_ (rskip_y hl ha h3) (E_ r_ (T_ (aq_ r_ r_ (R_ (M_ r_ (jl_bindZ [0] rfl rfl (rname_z hl hk0) e (nb rfl) (fun s s1 g1 e => o_ r_ (bu_ r_ r_ r_ r_ r_ (o_ r_ (bl_ r_ r_ (fun bl => S_ 0 r_ (T_ (R_ (M_ r_ (M_ r_ ?_))))))))))))))))))
        refine o_ r_ (bj_ r_ r_ g_ (jl_bindZO [1] rfl rfl (hB b (w + 1) s1 _ g_ g_ g1.1 g_) e (nb rfl) (fun o2 k2 t s6 g6 v2 e => F_ r_ (W_ 1 r_ (T_ (R_ (A_ 0 r_ (S_ 2 r_ (T_ (ar_ (az_ (aw_ ?_))))))))))))
        by_cases hm : 0 < mu l s6
        · obtain rfl := v2 (by omega)
          refine jq_row 0 (oSm (some (Sm.mk 5 s [] [] 0 0 t []))) rfl ?_ ?_
          · (repeat (first | exact RowLe.nil | refine RowLe.cons (CLe.refl _) ?_ | refine RowLe.cons CLe.nil ?_ | refine RowLe.cons (cle_oT _) ?_))
          exact jq_retRowS rfl rfl rfl rfl 0 rfl (fun K h => h ((some (Sm.mk 5 s [] [] 0 0 t []), 0), s6) ⟨_, tr_end hr e ⟨g6.1, by dsimp only; omega⟩, fun _ => rfl⟩) (bc_ 2 r_ sub_end)
        · refine jq_row 0 (oSm none) rfl ?_ ?_
          · (repeat (first | exact RowLe.nil | refine RowLe.cons (CLe.any _) ?_))
          exact jq_retRowS rfl rfl rfl rfl 0 rfl (fun K h => h ((none, 0), s6) ⟨_, tr_end hr e ⟨g6.1, by dsimp only; omega⟩, fun h => absurd h hm⟩) (bc_ 2 r_ sub_end)
      | false =>
        rw [if_neg (by rw [h3]; decide)] at e
        have h4 : isNm l a = true := by rw [startA, h1, h2, h3] at hst; simpa using hst
        have e := rz_in (g := nmG l) e
        have hka : (Z.n a).ok l := ha
        refine R_ (o_ r_ (bl_ r_ r_ (fun bl => T_ (B_ (R_ (M_ r_ (o_ r_ (bi_ [1] r_ r_ (rskip_n ha h1) (E_ r_ (T_ (ap_ r_ r_ (R_ (M_ r_ (o_ r_ (bi_ [0] r_ r_ (rskip_n ha h2) (E_ r_ (T_ (ap_ r_ r_ ?_))))))))))))))))))
        refine R_ (M_ r_ (o_ r_ (bi_ [0] r_ r_ (rskip_n ha h3) (E_ r_ (T_ (ap_ r_ r_ (as_ (ay_ (al_ (R_ (M_ r_ (jl_bindZ [0] rfl rfl (rname_z hl hka) e (nb rfl) (fun s s1 g1 e => o_ r_ (bu_ r_ r_ r_ r_ r_ (o_ r_ (bl_ r_ r_ (fun bl => S_ 0 r_ (T_ ?_))))))))))))))))))
        refine am_ (am_ ?_)
        cases h5 : isZ l s1 W91 with
        | true =>
          obtain ⟨a4, rfl⟩ := isZ_n h5
          have hlt4 := isA_lt h5
          have hm4 : mu l (.n a4) = l.length - a4 + 1 := rfl
          have hm5 : mu l (.n (a4 + 1)) = l.length - (a4 + 1) + 1 := rfl
          have hk4 : (Z.n (a4 + 1)).ok l := hlt4
          have e := rz_ifT h5 e
          have e := rz_in (g := exG l) e
          refine an_ (M_ r_ (o_ r_ (bi_ [1] r_ r_ (rskip_y hl g1.1 h5) (T_ (aq_ r_ r_ (R_ (M_ r_ (jl_bindZO [0] rfl rfl (rexpr_z hl hk4) e (nb rfl) (fun o1 k1 i s2 g2 v1 e => M_ r_ (X_ r_ (X_ r_ (o_ r_ (bl_ r_ r_ (fun bl => S_ 0 r_ (E_ r_ (T_ (R_ ?_)))))))))))))))))
          refine M_ r_ (jl_bindZ [1] rfl rfl (rneed_z hl g2.1 W93) e (nb rfl) (fun u s3 g3 e => T_ (jc_hp1 4 (n := 6) rfl 1 k_ rfl (fun cs1 hcs1 => ?_))))
          obtain ⟨u10, u11, u12, u13, u14, rfl⟩ := len5 hcs1
          refine df_ (i := 0) rfl k_ k_ k_ b_ (by (repeat (first | refine pani_then ?_ | refine pani_block ?_)); exact pani_body) (dn_ 1 rfl rfl rfl mem0 rfl) ?_
          refine df_ (i := 2) rfl k_ k_ k_ b_ (by (repeat (first | refine pani_then ?_ | refine pani_block ?_)); exact pani_body) (dl_ rfl rfl rfl b_) ?_
          refine hp_exact 1 rfl mem0 (hp_two0 (i := 1) (j := 3) rfl rfl k_ k_ k_ (nb rfl) rfl (keep1 0 rfl) (bq_ rfl rfl (nb rfl) rfl rfl (nb rfl) ⟨rfl, rfl⟩) (fun _ => bq_ rfl rfl (nb rfl) rfl rfl (nb rfl) ⟨rfl, rfl⟩) (ca_ 2 rfl rfl rfl rfl (nb rfl) ⟨?_, ?_⟩))
          · exact keep1 1 rfl
          refine dg_ (i := 4) r_ k_ b_ (bf_ r_ r_ r_ b_ ⟨?_, ?_⟩)
          · exact keep1 1 rfl
          refine hp_tail (dj_ (i := 5) rfl k_ (by decide) (ca_ 0 rfl rfl rfl rfl b_ (ht_done k_ (al_ (R_ (M_ r_ (jl_bindZ [2] rfl rfl (rneed_z hl g3.1 Keq) e (nb rfl) (fun u2 s4 g4 e => T_ (R_ (M_ r_ (jl_bindZO [0] rfl rfl (rexpr_z hl g4.1) e (nb rfl) (fun o2 k2 v s5 g5 v2 e => M_ r_ (X_ r_ (X_ r_ (o_ r_ (bl_ r_ r_ (fun bl => S_ 0 r_ ?_)))))))))))))))))
          refine E_ r_ (T_ (R_ (A_ 0 r_ (o_ r_ (bq_ r_ r_ b_ r_ r_ b_ (F_ r_ (W_ 2 r_ (T_ (R_ (A_ 0 r_ (S_ 4 r_ (T_ (ar_ ?_)))))))))))))
          by_cases hm : 0 < mu l s5
          · obtain rfl := v1 (by omega)
            obtain rfl := v2 (by omega)
            refine jq_row 0 (oSm (some (Sm.mk 2 s [i] [v] 0 0 [] []))) rfl ?_ ?_
            · (repeat (first | exact RowLe.nil | refine RowLe.cons (CLe.refl _) ?_ | refine RowLe.cons CLe.nil ?_ | refine RowLe.cons (cle_oT _) ?_))
            exact jq_retRowS rfl rfl rfl rfl 0 rfl (fun K h => h ((some (Sm.mk 2 s [i] [v] 0 0 [] []), 0), s5) ⟨_, tr_end hr e ⟨g5.1, by dsimp only; omega⟩, fun _ => rfl⟩) (bc_ 3 r_ sub_end)
          · refine jq_row 0 (oSm none) rfl ?_ ?_
            · (repeat (first | exact RowLe.nil | refine RowLe.cons (CLe.any _) ?_))
            exact jq_retRowS rfl rfl rfl rfl 0 rfl (fun K h => h ((none, 0), s5) ⟨_, tr_end hr e ⟨g5.1, by dsimp only; omega⟩, fun h => absurd h hm⟩) (bc_ 3 r_ sub_end)
        | false =>
          have e := rz_ifF h5 e
          refine an_ (M_ r_ (o_ r_ (bi_ [1] r_ r_ (rskip_zn g1.1 h5) (T_ (ap_ r_ r_ (as_ (al_ (R_ (M_ r_ (jl_bindZ [0] rfl rfl (rneed_z hl g1.1 Keq) e (nb rfl) (fun u2 s4 g4 e => T_ (R_ (M_ r_ (jl_bindZO [0] rfl rfl (rexpr_z hl g4.1) e (nb rfl) (fun o2 k2 v s5 g5 v2 e => M_ r_ (X_ r_ ?_))))))))))))))))
          refine X_ r_ (o_ r_ (bl_ r_ r_ (fun bl => S_ 0 r_ (E_ r_ (T_ (R_ (A_ 0 r_ (o_ r_ (bq_ r_ r_ b_ r_ r_ b_ (F_ r_ (W_ 2 r_ (T_ (R_ (A_ 0 r_ (S_ 3 r_ (T_ (ar_ ?_)))))))))))))))))
          by_cases hm : 0 < mu l s5
          · obtain rfl := v2 (by omega)
            refine jq_row 0 (oSm (some (Sm.mk 1 s [] [v] 0 0 [] []))) rfl ?_ ?_
            · (repeat (first | exact RowLe.nil | refine RowLe.cons (CLe.refl _) ?_ | refine RowLe.cons CLe.nil ?_ | refine RowLe.cons (cle_oT _) ?_))
            exact jq_retRowS rfl rfl rfl rfl 0 rfl (fun K h => h ((some (Sm.mk 1 s [] [v] 0 0 [] []), 0), s5) ⟨_, tr_end hr e ⟨g5.1, by dsimp only; omega⟩, fun _ => rfl⟩) (bc_ 3 r_ sub_end)
          · refine jq_row 0 (oSm none) rfl ?_ ?_
            · (repeat (first | exact RowLe.nil | refine RowLe.cons (CLe.any _) ?_))
            exact jq_retRowS rfl rfl rfl rfl 0 rfl (fun K h => h ((none, 0), s5) ⟨_, tr_end hr e ⟨g5.1, by dsimp only; omega⟩, fun h => absurd h hm⟩) (bc_ 3 r_ sub_end)
theorem rblock_of (F : Nat) (hS : RSs l F) : RBk l F := by
  intro b w σ d hd hw hσ hF
  generalize hr : rz (blkG l (stmtG l F w) w F) σ = r
  have e : r = rz (fun a => (wdG l Kob a).bind fun _ b => (stmtsL l (stmtG l F w) w F b []).bind fun ss c => (wdG l Kcb c).bind fun _ d => .ok ss d) σ := by rw [← hr]; exact congrArg (fun g => rz g σ) (funext fun a => by rw [blkG])
  refine con_intro Tryd.func137 rfl rfl (Nat.le_of_ble_eq_true rfl) (fun c hc => R_ (E_ r_ (T_ (R_ (M_ r_ (jl_bindZ [0] rfl rfl (rneed_z hl hσ Kob) e (nb rfl) (fun u1 s1 g1 e => T_ (R_ (M_ r_ (M_ r_ (jl_bindZO [0] rfl rfl (hS b w s1 d hd hw g1.1 g_) e (nb rfl) (fun o k ss s2 g2 hv e => E_ r_ (T_ (R_ (M_ r_ ?_)))))))))))))))
  refine jl_bindZ [0] rfl rfl (rneed_z hl g2.1 Kcb) e (nb rfl) (fun u3 s3 g3 e => T_ (R_ (M_ r_ (E_ r_ (T_ (ar_ ?_))))))
  by_cases hm : 0 < mu l s3
  · obtain rfl := hv (by omega)
    exact jq_ret1S rfl rfl (fun K h => h ((some ss, 0), s3) ⟨_, tr_end hr e ⟨g3.1, by dsimp only; omega⟩, fun _ => rfl⟩) (bc_ 0 r_ sub_end)
  · exact jq_sle 4 rfl (SLe.cell (CLe.any _)) (jq_ret1S rfl rfl (fun K h => h ((none, 0), s3) ⟨_, tr_end hr e ⟨g3.1, by dsimp only; omega⟩, fun h => absurd h hm⟩) (bc_ 0 r_ sub_end))
theorem rstmts_all : ∀ F : Nat, RSs l F
  | 0 => rstmts_of hl 0 fun b w a d hd hw ha hst h => absurd h (by omega)
  | F + 1 => rstmts_of hl (F + 1) (rstmt_step hl F (rblock_of hl F (rstmts_all F)))
end
end Go.Proofs.YtamajcgdfjeehaaDoor
end

section
namespace Go.Proofs.YtamajcgdfjeehaaDoor
open Go.Vc
set_option maxHeartbeats 4000000

/-! Tasks: the parser in steps -/
section
variable (l : List Tok) (nm : ByteArray) (pe de pr ji : Int)
def tkF (i : List Inp) (v : List ByteArray) (ar : List Arr) (m : List Md) (c : List Clm) (b : Nat) : R Tk := (bodyG l b).bind fun ss b => .ok ⟨nm, pe, de, pr, ji, i, v, ar, m, c, ss⟩ b
def tkE (i : List Inp) (v : List ByteArray) (ar : List Arr) (m : List Md) (b : Nat) : R Tk := (lpG l Knever (clG l) (l.length + 1) b []).bind fun c b => tkF l nm pe de pr ji i v ar m c b
def tkD (i : List Inp) (v : List ByteArray) (ar : List Arr) (b : Nat) : R Tk := (lpG l Kmode (mdG l) (l.length + 1) b []).bind fun m b => tkE l nm pe de pr ji i v ar m b
def tkC (i : List Inp) (v : List ByteArray) (b : Nat) : R Tk := (lpG l Karray (arG l) (l.length + 1) b []).bind fun ar b => tkD l nm pe de pr ji i v ar b
def tkB (i : List Inp) (b : Nat) : R Tk := (lpG l Kvar (nmG l) (l.length + 1) b []).bind fun v b => tkC l nm pe de pr ji i v b
def tkA (b : Nat) : R Tk := (lpG l Kinput (inG l) (l.length + 1) b []).bind fun i b => tkB l nm pe de pr ji i b
def tk4 (b : Nat) : R Tk := (dcG l Kjitter b).bind fun ji b => tkA l nm pe de pr ji b
def tk3 (b : Nat) : R Tk := (dcG l Kpriority b).bind fun pr b => tk4 l nm pe de pr b
def tk2 (b : Nat) : R Tk := (dcG l Kdeadline b).bind fun de b => tk3 l nm pe de b
def tk1 (b : Nat) : R Tk := (dcG l Kperiod b).bind fun pe b => tk2 l nm pe b
end
theorem taskG_eq (l : List Tok) (a : Nat) : taskG l a = (nmG l a).bind fun nm b => tk1 l nm b := rfl
theorem R.bind_assoc {α β γ : Type} (r : R α) (f : α → Nat → R β) (g : β → Nat → R γ) : (r.bind f).bind g = r.bind fun x a => (f x a).bind g := by cases r <;> rfl
theorem lpG_stop {α : Type} {l : List Tok} {kw : ByteArray} {one : Nat → R α} {a : Nat} (h : isA l a kw = false) (n : Nat) (acc : List α) : lpG l kw one n a acc = .ok acc a := by
  cases n with
  | zero => rw [lpG]
  | succ n => rw [lpG, if_neg (by rw [h]; decide)]
theorem lpG_go {α β : Type} {l : List Tok} {kw : ByteArray} {one : Nat → R α} {a n : Nat} (h : isA l a kw = true) (hn : l.length - a ≤ n) (acc : List α) (K : List α → Nat → R β) : (lpG l kw one n a acc).bind K = (one (a + 1)).bind fun x b => (lpG l kw one (n - 1) b (acc ++ [x])).bind K := by
  have := isA_lt h
  obtain ⟨n, rfl⟩ : ∃ m, n = m + 1 := ⟨n - 1, by omega⟩
  rw [lpG, if_pos h, R.bind_assoc]
  rfl
theorem stmts_goK {β : Type} {l : List Tok} {F w c n : Nat} {kw : ByteArray} {acc : List Sm} (h : isA l c kw = false) (hn : l.length - c ≤ n) (K : List Sm → Nat → R β) : ((stmtsL l (stmtG l F w) w n c acc).bind fun ss c => (wdG l kw c).bind fun _ d => K ss d) = (stG l F w c).bind fun s d => (stmtsL l (stmtG l F w) w (n - 1) d (acc ++ [s])).bind fun ss c => (wdG l kw c).bind fun _ d => K ss d := by
  cases hs : startA l c with
  | false => rw [stmtsL_stop hs, bind_okE, wdG_n h, stG, if_neg (by rw [hs]; decide)]; rfl
  | true =>
    have := start_lt hs
    obtain ⟨n, rfl⟩ : ∃ m, n = m + 1 := ⟨n - 1, by omega⟩
    rw [stmtsL, if_pos hs, stG, if_pos hs]
    by_cases hw : 8 ≤ w
    · rw [if_pos hw, if_pos hw]; rfl
    · rw [if_neg hw, if_neg hw]
      cases stmtG l F w c <;> rfl
theorem bind_le {α β : Type} {l : List Tok} {a : Nat} {r : R α} {f : α → Nat → R β} (h : ∀ x c, r = .ok x c → a ≤ c ∧ c ≤ l.length) (k : ∀ x c, c ≤ l.length → ∀ y d, f x c = .ok y d → c ≤ d ∧ d ≤ l.length) : ∀ y d, r.bind f = .ok y d → a ≤ d ∧ d ≤ l.length := by
  intro y d e
  cases r with
  | ok x c =>
    have h1 := h x c rfl
    have h2 := k x c h1.2 y d e
    omega
  | er code p => cases e
theorem nbG_bd {l : List Tok} {a : Nat} : ∀ x c, nbG l a = .ok x c → a < c ∧ c ≤ l.length := by
  unfold nbG
  split
  · rename_i h
    have := isA_lt h
    exact fun y d e => by
      have := bind_bd (a := a + 1) nuG_bd (fun _ b hb => ok_bd (nuG_bd _ _ hb).2) y d e
      omega
  · exact nuG_bd
theorem lpG_bd {α : Type} {l : List Tok} {kw : ByteArray} {one : Nat → R α} (hs : ∀ a x c, one a = .ok x c → a < c ∧ c ≤ l.length) : ∀ (n a : Nat) (acc ss : List α) (c : Nat), a ≤ l.length → lpG l kw one n a acc = .ok ss c → a ≤ c ∧ c ≤ l.length
  | 0, a, acc, ss, c, h, e => by simp only [lpG, R.ok.injEq] at e; omega
  | n + 1, a, acc, ss, c, h, e => by
    rw [lpG] at e
    split at e
    · cases h1 : one (a + 1) with
      | er code p => rw [h1] at e; cases e
      | ok x b =>
        rw [h1] at e
        have h2 := hs _ _ _ h1
        have h3 := lpG_bd hs n b _ _ _ h2.2 e
        omega
    · simp only [R.ok.injEq] at e; omega
theorem dcG_bd {l : List Tok} {kw : ByteArray} {a : Nat} : ∀ x c, dcG l kw a = .ok x c → a < c ∧ c ≤ l.length := bind_bd wdG_bd fun _ _ _ => bd_le nuG_bd
theorem inG_bd {l : List Tok} (a : Nat) : ∀ x c, inG l a = .ok x c → a < c ∧ c ≤ l.length := bind_bd nmG_bd fun _ _ _ => bd_le (bind_bd nbG_bd fun _ _ _ => bd_le (bind_bd nbG_bd fun _ _ hb => ok_bd (nbG_bd _ _ hb).2))
theorem arG_bd {l : List Tok} (a : Nat) : ∀ x c, arG l a = .ok x c → a < c ∧ c ≤ l.length := bind_bd nmG_bd fun _ _ _ => bd_le (bind_bd nuG_bd fun _ _ hb => ok_bd (nuG_bd _ _ hb).2)
theorem mdG_bd {l : List Tok} (a : Nat) : ∀ x c, mdG l a = .ok x c → a < c ∧ c ≤ l.length := bind_bd nmG_bd fun _ _ _ => bd_le (bind_bd nmG_bd fun _ _ _ => bd_le (bind_bd nbG_bd fun _ _ _ => bd_le (bind_bd nbG_bd fun _ _ hb => ok_bd (nbG_bd _ _ hb).2)))
theorem clG_bd {l : List Tok} (a : Nat) : ∀ x c, clG l a = .ok x c → a < c ∧ c ≤ l.length := bind_bd nuG_bd fun _ _ _ => bd_le (bind_bd nuG_bd fun _ _ hb => ok_bd (nuG_bd _ _ hb).2)
theorem shG_bd {l : List Tok} (a : Nat) : ∀ x c, shG l a = .ok x c → a < c ∧ c ≤ l.length := bind_bd nmG_bd fun _ _ _ => bd_le (bind_bd nuG_bd fun _ _ _ => bd_le (bind_bd nmG_bd fun _ _ hb => ok_bd (nmG_bd _ _ hb).2))
theorem bodyG_bd {l : List Tok} {a : Nat} : ∀ x c, bodyG l a = .ok x c → a < c ∧ c ≤ l.length :=
  bind_bd wdG_bd fun _ _ hb => bind_le (fun _ _ e => stmtsL_bd (fun _ _ _ => stmtG_bd _ _ _ _ _) _ _ _ _ _ (wdG_bd _ _ hb).2 e) fun _ _ _ => bd_le (bind_bd wdG_bd fun _ _ hd => ok_bd (wdG_bd _ _ hd).2)
theorem taskG_bd {l : List Tok} {a : Nat} : ∀ x c, taskG l a = .ok x c → a < c ∧ c ≤ l.length :=
  bind_bd nmG_bd fun _ _ _ => bind_le (bd_le dcG_bd) fun _ _ _ => bind_le (bd_le dcG_bd) fun _ _ _ => bind_le (bd_le dcG_bd) fun _ _ _ => bind_le (bd_le dcG_bd) fun _ _ h =>
    bind_le (fun _ _ e => lpG_bd inG_bd _ _ _ _ _ h e) fun _ _ h => bind_le (fun _ _ e => lpG_bd (fun _ => nmG_bd) _ _ _ _ _ h e) fun _ _ h => bind_le (fun _ _ e => lpG_bd arG_bd _ _ _ _ _ h e) fun _ _ h => bind_le (fun _ _ e => lpG_bd mdG_bd _ _ _ _ _ h e) fun _ _ h =>
      bind_le (fun _ _ e => lpG_bd clG_bd _ _ _ _ _ h e) fun _ _ _ => bind_le (bd_le bodyG_bd) fun _ _ h => ok_bd h
theorem start_end {l : List Tok} {a : Nat} (h : isA l a Kend = true) : startA l a = false := by
  rw [startA, isA_ne h (by decide), isA_ne h (by decide), isA_ne h (by decide), kw_nm h (by decide +kernel)]; rfl
abbrev TkS (t : Tk) : S := .row t.row
abbrev zSm : List C := [.val (.int .i64 0), .val (.string ⟨#[]⟩), .val (.slice none 0 0), .val (.slice none 0 0), .val (.int .i64 0), .val (.int .i64 0), .val (.slice none 0 0), .val (.slice none 0 0)]
abbrev zSmV : List Value := [.int .i64 0, .string ⟨#[]⟩, .slice none 0 0, .slice none 0 0, .int .i64 0, .int .i64 0, .slice none 0 0, .slice none 0 0]
theorem set_snoc.{u} {α : Type u} (l : List α) (x y : α) (n : Nat) (h : n = l.length) : (l ++ [x]).set n y = l ++ [y] := by subst h; simp
theorem get_snoc.{u} {α : Type u} (l : List α) (x : α) (n : Nat) (h : n = l.length) : (l ++ [x])[n]? = some x := by subst h; simp
end Go.Proofs.YtamajcgdfjeehaaDoor
end

section
namespace Go.Proofs.YtamajcgdfjeehaaDoor
open Go.Vc
set_option maxHeartbeats 4000000
attribute [local irreducible] JL JC JQ OpWp Con ConN Pan ConE OpPan HP HT HOk hasW idxW isA isNum isNm numAt txtAt lineAt opAt lx lpx sx sxp exG startA stmtG stmtsL blkG wdG nmG nuG nbG lpG dcG stG tkA tkB tkC tkD tkE tkF tk1 tk2 tk3 tk4

/-! The reference's task -/
abbrev oTk (o : Option Tk) : List C := [oC (fun t => .val (.string t.name)) o, oC (fun t => .val (.int .i64 t.period)) o, oC (fun t => .val (.int .i64 t.deadline)) o, oC (fun t => .val (.int .i64 t.priority)) o, oC (fun t => .val (.int .i64 t.jitter)) o, oC (fun t => .list (t.inputs.map InRow)) o, oC (fun t => .list (t.vars.map Wrow)) o, oC (fun t => .list (t.arrays.map ArRow)) o, oC (fun t => .list (t.modes.map MdRow)) o, oC (fun t => .list (t.claims.map ClRow)) o, oC (fun t => .list (t.body.map Sm.row)) o]
theorem rz_bs (b : Nat) (l : List Tok) (σ : Z) : (RZ b l σ).bs = [b] := by cases σ <;> rfl
theorem blk_bs (b : Nat) (t : TypeId) (row : List C) : (Ch.blk b t row).bs = [b] := rfl
theorem own_bs (v : Value) (e : TypeId) (k : Nat) (rows : List (List C)) : (Ch.own v e k rows).bs = v.ownBlock.toList := rfl
section
variable {l : List Tok} (hl : l.length ≤ 1000000)
include hl

theorem rtask_z {b : Nat} {σ : Z} (hσ : σ.ok l) : ZO 70 b l [] (fun o _ => .row (oTk o)) (taskG l) σ := by
  have hS := fun σ hσ h => rstmts_all hl (l.length + 1) b 0 σ 0 rfl (by omega) hσ h
  have hmu : mu l σ ≤ l.length + 1 := mu_le _ _
  generalize hr : rz (taskG l) σ = r
  have e : r = rz (fun a => (nmG l a).bind fun nm b => (wdG l Kperiod b).bind fun _ b => (nuG l b).bind fun pe b => (wdG l Kdeadline b).bind fun _ b => (nuG l b).bind fun de b => (wdG l Kpriority b).bind fun _ b => (nuG l b).bind fun pr b => (wdG l Kjitter b).bind fun _ b => (nuG l b).bind fun ji b => tkA l nm pe de pr ji b) σ := by
    rw [← hr]
    exact congrArg (fun g => rz g σ) (funext fun a => by rw [taskG_eq]; simp only [tk1, tk2, tk3, tk4, dcG, R.bind_assoc])
  refine con_intro Tryd.func70 rfl rfl (Nat.le_of_ble_eq_true rfl) (fun c hc => R_ (o_ r_ (bl_ r_ r_ (fun bl => T_ (R_ (M_ r_ (jl_bindZ [1] rfl rfl (rname_z hl hσ) e (nb rfl) ?_)))))))
  clear e
  intro nm s1 g1 e
  refine o_ r_ (bu_ r_ r_ r_ r_ r_ (o_ r_ (bl_ r_ r_ (fun bl => S_ 0 r_ (T_ (am_ ?_))))))
  rename_i bR
  revert bl
  intro bT
  refine an_ (M_ r_ (jl_bindZ [1] rfl rfl (rneed_z hl g1.1 Kperiod) e (nb rfl) ?_))
  clear e
  intro u1 s2 g2 e
  refine T_ (R_ (M_ r_ (jl_bindZ [0] rfl rfl (rnum_z hl g2.1) e (nb rfl) ?_)))
  clear e
  intro pe s3 g3 e
  refine F_ r_ (W_ 1 r_ (T_ (R_ (M_ r_ (jl_bindZ [1] rfl rfl (rneed_z hl g3.1 Kdeadline) e (nb rfl) ?_)))))
  clear e
  intro u2 s4 g4 e
  refine T_ (R_ (M_ r_ (jl_bindZ [0] rfl rfl (rnum_z hl g4.1) e (nb rfl) ?_)))
  clear e
  intro de s5 g5 e
  refine F_ r_ (W_ 1 r_ (T_ (R_ (M_ r_ (jl_bindZ [1] rfl rfl (rneed_z hl g5.1 Kpriority) e (nb rfl) ?_)))))
  clear e
  intro u3 s6 g6 e
  refine T_ (R_ (M_ r_ (jl_bindZ [0] rfl rfl (rnum_z hl g6.1) e (nb rfl) ?_)))
  clear e
  intro pr s7 g7 e
  refine F_ r_ (W_ 1 r_ (T_ (R_ (M_ r_ (jl_bindZ [1] rfl rfl (rneed_z hl g7.1 Kjitter) e (nb rfl) ?_)))))
  clear e
  intro u4 s8 g8 e
  refine T_ (R_ (M_ r_ (jl_bindZ [0] rfl rfl (rnum_z hl g8.1) e (nb rfl) ?_)))
  clear e
  intro ji s9 g9 e
  refine F_ r_ (W_ 1 r_ (T_ (B_ ?_)))
  simp only [tkA] at e
  refine jc_ownNil 120 3 g_ ?_
  refine jc_loopS (ι := List Inp × Z × Nat × Value) [] (fun i => i.2.1.ok l ∧ mu l i.2.1 ≤ mu l σ ∧ mu l i.2.1 ≤ i.2.2.1 ∧ i.1.length + mu l i.2.1 ≤ l.length + 1 ∧ r = rz (fun b => (lpG l Kinput (inG l) i.2.2.1 b i.1).bind fun x b => tkB l nm pe de pr ji x b) i.2.1)
    (fun i => [(0, Ptr b), (2, Ptr bR), (3, Ptr bT)]) (fun i => [RZ b l i.2.1, .blk bR 50 [.val (.string ⟨#[]⟩), .val (.int .i64 0), .val (.int .i64 0), .val (.int .i64 0), .val (.int .i64 0), .val (.slice none 0 0), .val (.slice none 0 0), .val (.slice none 0 0), .val (.slice none 0 0), .val (.slice none 0 0), .val (.slice none 0 0)], .blk bT 50 [.val (.string nm), .val (.int .i64 pe), .val (.int .i64 de), .val (.int .i64 pr), .val (.int .i64 ji), .val (i.2.2.2), .val (.slice none 0 0), .val (.slice none 0 0), .val (.slice none 0 0), .val (.slice none 0 0), .val (.slice none 0 0)], .own i.2.2.2 120 3 (i.1.map InRow)]) (fun i => mu l i.2.1) ([], s9, l.length + 1, .slice none 0 0) ⟨g9.1, by dsimp only; omega, by dsimp only; omega, by dsimp only [List.length_nil]; omega, e⟩ ?_ ?_ ?_
  · exact bc_ 2 r_ (bc_ 2 r_ (bc_ 1 r_ (bc_ 0 r_ sub_end)))
  · (repeat (first | exact True.intro | refine ⟨rfl, ?_⟩))
  clear e g1 g2 g3 g4 g5 g6 g7 g8 g9
  rintro ⟨l0, z0, n0, v0⟩ ⟨i0, i1, i2, i3, e⟩
  dsimp only at i0 i1 i2 i3 e ⊢
  refine jc_reset [(0, Ptr b), (2, Ptr bR), (3, Ptr bT)] [RZ b l z0, .blk bR 50 [.val (.string ⟨#[]⟩), .val (.int .i64 0), .val (.int .i64 0), .val (.int .i64 0), .val (.int .i64 0), .val (.slice none 0 0), .val (.slice none 0 0), .val (.slice none 0 0), .val (.slice none 0 0), .val (.slice none 0 0), .val (.slice none 0 0)], .blk bT 50 [.val (.string nm), .val (.int .i64 pe), .val (.int .i64 de), .val (.int .i64 pr), .val (.int .i64 ji), .val (v0), .val (.slice none 0 0), .val (.slice none 0 0), .val (.slice none 0 0), .val (.slice none 0 0), .val (.slice none 0 0)], .own v0 120 3 (l0.map InRow)] ?_ ⟨[0, 0, 0, 0], [], rfl⟩ ?_
  · (repeat (first | exact True.intro | refine ⟨rfl, ?_⟩))
  cases h : isZ l z0 Kinput with
  | true =>
    obtain ⟨c, rfl⟩ := isZ_n h
    have hlt := isA_lt h
    have e : r = (lpG l Kinput (inG l) n0 c l0).bind _ := e
    have hm : mu l (.n c) = l.length - c + 1 := rfl
    have hm1 : mu l (.n (c + 1)) = l.length - (c + 1) + 1 := rfl
    have h0 : (Z.n (c + 1)).ok l := hlt
    rw [lpG_go h (by omega)] at e
    simp only [inG, R.bind_assoc, bind_okE] at e
    have e := rz_in (g := nmG l) e
    refine am_ (R_ (M_ r_ (o_ r_ (bi_ [0] r_ r_ (rskip_y hl i0 h) (T_ (aq_ r_ r_ (as_ (al_ (au_ (jc_hpV 11 (n := 13) rfl 2 [.string nm, .int .i64 pe, .int .i64 de, .int .i64 pr, .int .i64 ji, v0, .slice none 0 0, .slice none 0 0, .slice none 0 0, .slice none 0 0, .slice none 0 0] k_ rfl rfl ?_))))))))))
    refine df_ (i := 0) rfl k_ k_ k_ b_ (by (repeat (first | refine pani_then ?_ | refine pani_block ?_)); exact pani_body) (dl_ rfl rfl rfl b_) ?_
    refine df_ (i := 1) rfl k_ k_ k_ b_ (by (repeat (first | refine pani_then ?_ | refine pani_block ?_)); exact pani_body) (dm_ 2 rfl rfl rfl mem0 rfl) ?_
    refine df_ (i := 2) rfl k_ k_ k_ b_ (by (repeat (first | refine pani_then ?_ | refine pani_block ?_)); exact pani_body) (dk_ rfl) ?_
    refine df_ (i := 4) rfl k_ k_ k_ b_ (by (repeat (first | refine pani_then ?_ | refine pani_block ?_)); exact pani_body) (dk_ rfl) ?_
    refine df_ (i := 6) rfl k_ k_ k_ b_ (by (repeat (first | refine pani_then ?_ | refine pani_block ?_)); exact pani_body) (dk_ rfl) ?_
    refine hp_bindZ (i := 3) rfl k_ (nb rfl) [0] rfl rfl (rname_z hl h0) e ?_
    clear e
    intro s y0 k0 e
    refine ⟨?_, ?_⟩
    exact keep1 2 rfl
    refine hp_bindZ (i := 5) rfl k_ (nb rfl) [0] rfl rfl (rnumber_z hl k0.1) e ?_
    clear e
    intro lo y1 k1 e
    refine ⟨?_, ?_⟩
    exact keep1 2 rfl
    refine hp_bindZ (i := 7) rfl k_ (nb rfl) [0] rfl rfl (rnumber_z hl k1.1) e ?_
    clear e
    intro hi y2 k2 e
    refine ⟨?_, ?_⟩
    exact keep1 2 rfl
    refine dg_ (i := 8) r_ k_ b_ (bu_ r_ r_ r_ r_ r_ ⟨?_, ?_⟩)
    exact keep1 2 rfl
    refine dg_ (i := 9) r_ k_ b_ (bq_ r_ r_ b_ r_ r_ b_ ⟨?_, ?_⟩)
    exact keep1 2 rfl
    refine dg_ (i := 10) rfl k_ b_ (ow_apR 3 ((s, lo, hi) : Inp) (f := InRow) rfl rfl rfl rfl rfl rfl rfl (fun _ => rfl) g_ b_ (fun v2 hv2 => ⟨?_, ?_⟩))
    exact keep1 3 rfl
    refine df_ (i := 11) rfl k_ k_ k_ b_ (by (repeat (first | refine pani_then ?_ | refine pani_block ?_)); exact pani_body) (dl_ rfl rfl rfl b_) ?_
    refine hp_tail (dj_ (i := 12) rfl k_ (by decide) (ca_ 3 rfl rfl rfl rfl b_ (ht_done k_ (ay_ (jq_againS (i := (l0, Z.n c, n0, v0)) ((l0 ++ [(s, lo, hi)], y2, n0 - 1, v2) : List Inp × Z × Nat × Value) ⟨k2.1, by dsimp only; omega, by dsimp only; omega, by dsimp only; simp only [List.length_append, List.length_singleton]; omega, e⟩ (by dsimp only; omega) ?_ ?_)))))
    · exact bc_ 2 r_ (bc_ 2 r_ (bc_ 0 r_ (bc_ 0 r_ sub_end)))
    · (repeat (first | exact True.intro | refine ⟨rfl, ?_⟩))
  | false =>
    have e := rz_okF (fun a h => lpG_stop h _ _) h e
    refine am_ (R_ (M_ r_ (o_ r_ (bi_ [0] r_ r_ (rskip_zn i0 h) (T_ (ap_ r_ r_ (av_ (ax_ (ax_ (ba_ (al_ (B_ ?_))))))))))))
    simp only [tkB] at e
    refine jc_ownNil 9 1 g_ ?_
    refine jc_loopS (ι := List ByteArray × Z × Nat × Value) [] (fun i => i.2.1.ok l ∧ mu l i.2.1 ≤ mu l σ ∧ mu l i.2.1 ≤ i.2.2.1 ∧ i.1.length + mu l i.2.1 ≤ l.length + 1 ∧ r = rz (fun b => (lpG l Kvar (nmG l) i.2.2.1 b i.1).bind fun x b => tkC l nm pe de pr ji l0 x b) i.2.1)
      (fun i => [(0, Ptr b), (2, Ptr bR), (3, Ptr bT)]) (fun i => [RZ b l i.2.1, .blk bR 50 [.val (.string ⟨#[]⟩), .val (.int .i64 0), .val (.int .i64 0), .val (.int .i64 0), .val (.int .i64 0), .val (.slice none 0 0), .val (.slice none 0 0), .val (.slice none 0 0), .val (.slice none 0 0), .val (.slice none 0 0), .val (.slice none 0 0)], .blk bT 50 [.val (.string nm), .val (.int .i64 pe), .val (.int .i64 de), .val (.int .i64 pr), .val (.int .i64 ji), .val (v0), .val (i.2.2.2), .val (.slice none 0 0), .val (.slice none 0 0), .val (.slice none 0 0), .val (.slice none 0 0)], .own i.2.2.2 9 1 (i.1.map Wrow), .own v0 120 3 (l0.map InRow)]) (fun i => mu l i.2.1) ([], z0, l.length + 1, .slice none 0 0) ⟨i0, by dsimp only; omega, by dsimp only; omega, by dsimp only [List.length_nil]; omega, e⟩ ?_ ?_ ?_
    · exact bc_ 1 r_ (bc_ 1 r_ (bc_ 1 r_ (bc_ 0 r_ (bc_ 0 r_ sub_end))))
    · (repeat (first | exact True.intro | refine ⟨rfl, ?_⟩))
    clear e h i0 i1 i2 i3
    rintro ⟨l1, z1, n1, v1⟩ ⟨i0, i1, i2, i3, e⟩
    dsimp only at i0 i1 i2 i3 e ⊢
    refine jc_reset [(0, Ptr b), (2, Ptr bR), (3, Ptr bT)] [RZ b l z1, .blk bR 50 [.val (.string ⟨#[]⟩), .val (.int .i64 0), .val (.int .i64 0), .val (.int .i64 0), .val (.int .i64 0), .val (.slice none 0 0), .val (.slice none 0 0), .val (.slice none 0 0), .val (.slice none 0 0), .val (.slice none 0 0), .val (.slice none 0 0)], .blk bT 50 [.val (.string nm), .val (.int .i64 pe), .val (.int .i64 de), .val (.int .i64 pr), .val (.int .i64 ji), .val (v0), .val (v1), .val (.slice none 0 0), .val (.slice none 0 0), .val (.slice none 0 0), .val (.slice none 0 0)], .own v1 9 1 (l1.map Wrow), .own v0 120 3 (l0.map InRow)] ?_ ⟨[0, 0, 0, 0, 0], [], rfl⟩ ?_
    · (repeat (first | exact True.intro | refine ⟨rfl, ?_⟩))
    cases h : isZ l z1 Kvar with
    | true =>
      obtain ⟨c, rfl⟩ := isZ_n h
      have hlt := isA_lt h
      have e : r = (lpG l Kvar (nmG l) n1 c l1).bind _ := e
      have hm : mu l (.n c) = l.length - c + 1 := rfl
      have hm1 : mu l (.n (c + 1)) = l.length - (c + 1) + 1 := rfl
      have h0 : (Z.n (c + 1)).ok l := hlt
      rw [lpG_go h (by omega)] at e
      skip
      have e := rz_in (g := nmG l) e
      refine am_ (R_ (M_ r_ (o_ r_ (bi_ [0] r_ r_ (rskip_y hl i0 h) (T_ (aq_ r_ r_ (as_ (al_ (au_ (jc_hpV 6 (n := 8) rfl 2 [.string nm, .int .i64 pe, .int .i64 de, .int .i64 pr, .int .i64 ji, v0, v1, .slice none 0 0, .slice none 0 0, .slice none 0 0, .slice none 0 0] k_ rfl rfl (df_ (i := 0) rfl k_ k_ k_ b_ (by (repeat (first | refine pani_then ?_ | refine pani_block ?_)); exact pani_body) (dl_ rfl rfl rfl b_) ?_)))))))))))
      refine df_ (i := 1) rfl k_ k_ k_ b_ (by (repeat (first | refine pani_then ?_ | refine pani_block ?_)); exact pani_body) (dm_ 2 rfl rfl rfl mem0 rfl) ?_
      refine df_ (i := 2) rfl k_ k_ k_ b_ (by (repeat (first | refine pani_then ?_ | refine pani_block ?_)); exact pani_body) (dk_ rfl) ?_
      refine hp_bindZ (i := 3) rfl k_ (nb rfl) [0] rfl rfl (rname_z hl h0) e ?_
      clear e
      intro s y0 k0 e
      refine ⟨?_, ?_⟩
      exact keep1 2 rfl
      refine dg_ (i := 4) r_ k_ b_ (bq_ r_ r_ b_ r_ r_ b_ ⟨?_, ?_⟩)
      exact keep1 2 rfl
      refine dg_ (i := 5) rfl k_ b_ (ow_apR 3 (s : ByteArray) (f := Wrow) rfl rfl rfl rfl rfl rfl rfl (fun _ => rfl) g_ b_ (fun v2 hv2 => ⟨?_, ?_⟩))
      exact keep1 3 rfl
      refine df_ (i := 6) rfl k_ k_ k_ b_ (by (repeat (first | refine pani_then ?_ | refine pani_block ?_)); exact pani_body) (dl_ rfl rfl rfl b_) ?_
      refine hp_tail (dj_ (i := 7) rfl k_ (by decide) (ca_ 3 rfl rfl rfl rfl b_ (ht_done k_ (ay_ (jq_againS (i := (l1, Z.n c, n1, v1)) ((l1 ++ [s], y0, n1 - 1, v2) : List ByteArray × Z × Nat × Value) ⟨k0.1, by dsimp only; omega, by dsimp only; omega, by dsimp only; simp only [List.length_append, List.length_singleton]; omega, e⟩ (by dsimp only; omega) ?_ ?_)))))
      · exact bc_ 2 r_ (bc_ 2 r_ (bc_ 0 r_ (bc_ 0 r_ (bc_ 0 r_ sub_end))))
      · (repeat (first | exact True.intro | refine ⟨rfl, ?_⟩))
    | false =>
      have e := rz_okF (fun a h => lpG_stop h _ _) h e
      refine am_ (R_ (M_ r_ (o_ r_ (bi_ [0] r_ r_ (rskip_zn i0 h) (T_ (ap_ r_ r_ (av_ (ax_ (ax_ (ba_ (al_ (B_ ?_))))))))))))
      simp only [tkC] at e
      refine jc_ownNil 108 2 g_ ?_
      refine jc_loopS (ι := List Arr × Z × Nat × Value) [] (fun i => i.2.1.ok l ∧ mu l i.2.1 ≤ mu l σ ∧ mu l i.2.1 ≤ i.2.2.1 ∧ i.1.length + mu l i.2.1 ≤ l.length + 1 ∧ r = rz (fun b => (lpG l Karray (arG l) i.2.2.1 b i.1).bind fun x b => tkD l nm pe de pr ji l0 l1 x b) i.2.1)
        (fun i => [(0, Ptr b), (2, Ptr bR), (3, Ptr bT)]) (fun i => [RZ b l i.2.1, .blk bR 50 [.val (.string ⟨#[]⟩), .val (.int .i64 0), .val (.int .i64 0), .val (.int .i64 0), .val (.int .i64 0), .val (.slice none 0 0), .val (.slice none 0 0), .val (.slice none 0 0), .val (.slice none 0 0), .val (.slice none 0 0), .val (.slice none 0 0)], .blk bT 50 [.val (.string nm), .val (.int .i64 pe), .val (.int .i64 de), .val (.int .i64 pr), .val (.int .i64 ji), .val (v0), .val (v1), .val (i.2.2.2), .val (.slice none 0 0), .val (.slice none 0 0), .val (.slice none 0 0)], .own i.2.2.2 108 2 (i.1.map ArRow), .own v0 120 3 (l0.map InRow), .own v1 9 1 (l1.map Wrow)]) (fun i => mu l i.2.1) ([], z1, l.length + 1, .slice none 0 0) ⟨i0, by dsimp only; omega, by dsimp only; omega, by dsimp only [List.length_nil]; omega, e⟩ ?_ ?_ ?_
      · exact bc_ 1 r_ (bc_ 1 r_ (bc_ 1 r_ (bc_ 0 r_ (bc_ 1 r_ (bc_ 0 r_ sub_end)))))
      · (repeat (first | exact True.intro | refine ⟨rfl, ?_⟩))
      clear e h i0 i1 i2 i3
      rintro ⟨l2, z2, n2, v2⟩ ⟨i0, i1, i2, i3, e⟩
      dsimp only at i0 i1 i2 i3 e ⊢
      refine jc_reset [(0, Ptr b), (2, Ptr bR), (3, Ptr bT)] [RZ b l z2, .blk bR 50 [.val (.string ⟨#[]⟩), .val (.int .i64 0), .val (.int .i64 0), .val (.int .i64 0), .val (.int .i64 0), .val (.slice none 0 0), .val (.slice none 0 0), .val (.slice none 0 0), .val (.slice none 0 0), .val (.slice none 0 0), .val (.slice none 0 0)], .blk bT 50 [.val (.string nm), .val (.int .i64 pe), .val (.int .i64 de), .val (.int .i64 pr), .val (.int .i64 ji), .val (v0), .val (v1), .val (v2), .val (.slice none 0 0), .val (.slice none 0 0), .val (.slice none 0 0)], .own v2 108 2 (l2.map ArRow), .own v0 120 3 (l0.map InRow), .own v1 9 1 (l1.map Wrow)] ?_ ⟨[0, 0, 0, 0, 0, 0], [], rfl⟩ ?_
      · (repeat (first | exact True.intro | refine ⟨rfl, ?_⟩))
      cases h : isZ l z2 Karray with
      | true =>
        obtain ⟨c, rfl⟩ := isZ_n h
        have hlt := isA_lt h
        have e : r = (lpG l Karray (arG l) n2 c l2).bind _ := e
        have hm : mu l (.n c) = l.length - c + 1 := rfl
        have hm1 : mu l (.n (c + 1)) = l.length - (c + 1) + 1 := rfl
        have h0 : (Z.n (c + 1)).ok l := hlt
        rw [lpG_go h (by omega)] at e
        simp only [arG, R.bind_assoc, bind_okE] at e
        have e := rz_in (g := nmG l) e
        refine am_ (R_ (M_ r_ (o_ r_ (bi_ [0] r_ r_ (rskip_y hl i0 h) (T_ (aq_ r_ r_ (as_ (al_ (au_ (jc_hpV 9 (n := 11) rfl 2 [.string nm, .int .i64 pe, .int .i64 de, .int .i64 pr, .int .i64 ji, v0, v1, v2, .slice none 0 0, .slice none 0 0, .slice none 0 0] k_ rfl rfl (df_ (i := 0) rfl k_ k_ k_ b_ (by (repeat (first | refine pani_then ?_ | refine pani_block ?_)); exact pani_body) (dl_ rfl rfl rfl b_) ?_)))))))))))
        refine df_ (i := 1) rfl k_ k_ k_ b_ (by (repeat (first | refine pani_then ?_ | refine pani_block ?_)); exact pani_body) (dm_ 2 rfl rfl rfl mem0 rfl) ?_
        refine df_ (i := 2) rfl k_ k_ k_ b_ (by (repeat (first | refine pani_then ?_ | refine pani_block ?_)); exact pani_body) (dk_ rfl) ?_
        refine df_ (i := 4) rfl k_ k_ k_ b_ (by (repeat (first | refine pani_then ?_ | refine pani_block ?_)); exact pani_body) (dk_ rfl) ?_
        refine hp_bindZ (i := 3) rfl k_ (nb rfl) [0] rfl rfl (rname_z hl h0) e ?_
        clear e
        intro s y0 k0 e
        refine ⟨?_, ?_⟩
        exact keep1 2 rfl
        refine hp_bindZ (i := 5) rfl k_ (nb rfl) [0] rfl rfl (rnum_z hl k0.1) e ?_
        clear e
        intro n y1 k1 e
        refine ⟨?_, ?_⟩
        exact keep1 2 rfl
        refine dg_ (i := 6) r_ k_ b_ (bu_ r_ r_ r_ r_ r_ ⟨?_, ?_⟩)
        exact keep1 2 rfl
        refine dg_ (i := 7) r_ k_ b_ (bq_ r_ r_ b_ r_ r_ b_ ⟨?_, ?_⟩)
        exact keep1 2 rfl
        refine dg_ (i := 8) rfl k_ b_ (ow_apR 3 ((s, n) : Arr) (f := ArRow) rfl rfl rfl rfl rfl rfl rfl (fun _ => rfl) g_ b_ (fun v2 hv2 => ⟨?_, ?_⟩))
        exact keep1 3 rfl
        refine df_ (i := 9) rfl k_ k_ k_ b_ (by (repeat (first | refine pani_then ?_ | refine pani_block ?_)); exact pani_body) (dl_ rfl rfl rfl b_) ?_
        refine hp_tail (dj_ (i := 10) rfl k_ (by decide) (ca_ 3 rfl rfl rfl rfl b_ (ht_done k_ (ay_ (jq_againS (i := (l2, Z.n c, n2, v2)) ((l2 ++ [(s, n)], y1, n2 - 1, v2) : List Arr × Z × Nat × Value) ⟨k1.1, by dsimp only; omega, by dsimp only; omega, by dsimp only; simp only [List.length_append, List.length_singleton]; omega, e⟩ (by dsimp only; omega) ?_ ?_)))))
        · exact bc_ 2 r_ (bc_ 2 r_ (bc_ 0 r_ (bc_ 0 r_ (bc_ 0 r_ (bc_ 0 r_ sub_end)))))
        · (repeat (first | exact True.intro | refine ⟨rfl, ?_⟩))
      | false =>
        have e := rz_okF (fun a h => lpG_stop h _ _) h e
        refine am_ (R_ (M_ r_ (o_ r_ (bi_ [0] r_ r_ (rskip_zn i0 h) (T_ (ap_ r_ r_ (av_ (ax_ (ax_ (ba_ (al_ (B_ ?_))))))))))))
        simp only [tkD] at e
        refine jc_ownNil 122 4 g_ ?_
        refine jc_loopS (ι := List Md × Z × Nat × Value) [] (fun i => i.2.1.ok l ∧ mu l i.2.1 ≤ mu l σ ∧ mu l i.2.1 ≤ i.2.2.1 ∧ i.1.length + mu l i.2.1 ≤ l.length + 1 ∧ r = rz (fun b => (lpG l Kmode (mdG l) i.2.2.1 b i.1).bind fun x b => tkE l nm pe de pr ji l0 l1 l2 x b) i.2.1)
          (fun i => [(0, Ptr b), (2, Ptr bR), (3, Ptr bT)]) (fun i => [RZ b l i.2.1, .blk bR 50 [.val (.string ⟨#[]⟩), .val (.int .i64 0), .val (.int .i64 0), .val (.int .i64 0), .val (.int .i64 0), .val (.slice none 0 0), .val (.slice none 0 0), .val (.slice none 0 0), .val (.slice none 0 0), .val (.slice none 0 0), .val (.slice none 0 0)], .blk bT 50 [.val (.string nm), .val (.int .i64 pe), .val (.int .i64 de), .val (.int .i64 pr), .val (.int .i64 ji), .val (v0), .val (v1), .val (v2), .val (i.2.2.2), .val (.slice none 0 0), .val (.slice none 0 0)], .own i.2.2.2 122 4 (i.1.map MdRow), .own v0 120 3 (l0.map InRow), .own v1 9 1 (l1.map Wrow), .own v2 108 2 (l2.map ArRow)]) (fun i => mu l i.2.1) ([], z2, l.length + 1, .slice none 0 0) ⟨i0, by dsimp only; omega, by dsimp only; omega, by dsimp only [List.length_nil]; omega, e⟩ ?_ ?_ ?_
        · exact bc_ 1 r_ (bc_ 1 r_ (bc_ 1 r_ (bc_ 0 r_ (bc_ 1 r_ (bc_ 1 r_ (bc_ 0 r_ sub_end))))))
        · (repeat (first | exact True.intro | refine ⟨rfl, ?_⟩))
        clear e h i0 i1 i2 i3
        rintro ⟨l3, z3, n3, v3⟩ ⟨i0, i1, i2, i3, e⟩
        dsimp only at i0 i1 i2 i3 e ⊢
        refine jc_reset [(0, Ptr b), (2, Ptr bR), (3, Ptr bT)] [RZ b l z3, .blk bR 50 [.val (.string ⟨#[]⟩), .val (.int .i64 0), .val (.int .i64 0), .val (.int .i64 0), .val (.int .i64 0), .val (.slice none 0 0), .val (.slice none 0 0), .val (.slice none 0 0), .val (.slice none 0 0), .val (.slice none 0 0), .val (.slice none 0 0)], .blk bT 50 [.val (.string nm), .val (.int .i64 pe), .val (.int .i64 de), .val (.int .i64 pr), .val (.int .i64 ji), .val (v0), .val (v1), .val (v2), .val (v3), .val (.slice none 0 0), .val (.slice none 0 0)], .own v3 122 4 (l3.map MdRow), .own v0 120 3 (l0.map InRow), .own v1 9 1 (l1.map Wrow), .own v2 108 2 (l2.map ArRow)] ?_ ⟨[0, 0, 0, 0, 0, 0, 0], [], rfl⟩ ?_
        · (repeat (first | exact True.intro | refine ⟨rfl, ?_⟩))
        cases h : isZ l z3 Kmode with
        | true =>
          obtain ⟨c, rfl⟩ := isZ_n h
          have hlt := isA_lt h
          have e : r = (lpG l Kmode (mdG l) n3 c l3).bind _ := e
          have hm : mu l (.n c) = l.length - c + 1 := rfl
          have hm1 : mu l (.n (c + 1)) = l.length - (c + 1) + 1 := rfl
          have h0 : (Z.n (c + 1)).ok l := hlt
          rw [lpG_go h (by omega)] at e
          simp only [mdG, R.bind_assoc, bind_okE] at e
          have e := rz_in (g := nmG l) e
          refine am_ (R_ (M_ r_ (o_ r_ (bi_ [0] r_ r_ (rskip_y hl i0 h) (T_ (aq_ r_ r_ (as_ (al_ (au_ (jc_hpV 13 (n := 15) rfl 2 [.string nm, .int .i64 pe, .int .i64 de, .int .i64 pr, .int .i64 ji, v0, v1, v2, v3, .slice none 0 0, .slice none 0 0] k_ rfl rfl (df_ (i := 0) rfl k_ k_ k_ b_ (by (repeat (first | refine pani_then ?_ | refine pani_block ?_)); exact pani_body) (dl_ rfl rfl rfl b_) ?_)))))))))))
          refine df_ (i := 1) rfl k_ k_ k_ b_ (by (repeat (first | refine pani_then ?_ | refine pani_block ?_)); exact pani_body) (dm_ 2 rfl rfl rfl mem0 rfl) ?_
          refine df_ (i := 2) rfl k_ k_ k_ b_ (by (repeat (first | refine pani_then ?_ | refine pani_block ?_)); exact pani_body) (dk_ rfl) ?_
          refine df_ (i := 4) rfl k_ k_ k_ b_ (by (repeat (first | refine pani_then ?_ | refine pani_block ?_)); exact pani_body) (dk_ rfl) ?_
          refine df_ (i := 6) rfl k_ k_ k_ b_ (by (repeat (first | refine pani_then ?_ | refine pani_block ?_)); exact pani_body) (dk_ rfl) ?_
          refine df_ (i := 8) rfl k_ k_ k_ b_ (by (repeat (first | refine pani_then ?_ | refine pani_block ?_)); exact pani_body) (dk_ rfl) ?_
          refine hp_bindZ (i := 3) rfl k_ (nb rfl) [0] rfl rfl (rname_z hl h0) e ?_
          clear e
          intro s y0 k0 e
          refine ⟨?_, ?_⟩
          exact keep1 2 rfl
          refine hp_bindZ (i := 5) rfl k_ (nb rfl) [0] rfl rfl (rname_z hl k0.1) e ?_
          clear e
          intro i y1 k1 e
          refine ⟨?_, ?_⟩
          exact keep1 2 rfl
          refine hp_bindZ (i := 7) rfl k_ (nb rfl) [0] rfl rfl (rnumber_z hl k1.1) e ?_
          clear e
          intro lo y2 k2 e
          refine ⟨?_, ?_⟩
          exact keep1 2 rfl
          refine hp_bindZ (i := 9) rfl k_ (nb rfl) [0] rfl rfl (rnumber_z hl k2.1) e ?_
          clear e
          intro hi y3 k3 e
          refine ⟨?_, ?_⟩
          exact keep1 2 rfl
          refine dg_ (i := 10) r_ k_ b_ (bu_ r_ r_ r_ r_ r_ ⟨?_, ?_⟩)
          exact keep1 2 rfl
          refine dg_ (i := 11) r_ k_ b_ (bq_ r_ r_ b_ r_ r_ b_ ⟨?_, ?_⟩)
          exact keep1 2 rfl
          refine dg_ (i := 12) rfl k_ b_ (ow_apR 3 ((s, i, lo, hi) : Md) (f := MdRow) rfl rfl rfl rfl rfl rfl rfl (fun _ => rfl) g_ b_ (fun v2 hv2 => ⟨?_, ?_⟩))
          exact keep1 3 rfl
          refine df_ (i := 13) rfl k_ k_ k_ b_ (by (repeat (first | refine pani_then ?_ | refine pani_block ?_)); exact pani_body) (dl_ rfl rfl rfl b_) ?_
          refine hp_tail (dj_ (i := 14) rfl k_ (by decide) (ca_ 3 rfl rfl rfl rfl b_ (ht_done k_ (ay_ (jq_againS (i := (l3, Z.n c, n3, v3)) ((l3 ++ [(s, i, lo, hi)], y3, n3 - 1, v2) : List Md × Z × Nat × Value) ⟨k3.1, by dsimp only; omega, by dsimp only; omega, by dsimp only; simp only [List.length_append, List.length_singleton]; omega, e⟩ (by dsimp only; omega) ?_ ?_)))))
          · exact bc_ 2 r_ (bc_ 2 r_ (bc_ 0 r_ (bc_ 0 r_ (bc_ 0 r_ (bc_ 0 r_ (bc_ 0 r_ sub_end))))))
          · (repeat (first | exact True.intro | refine ⟨rfl, ?_⟩))
        | false =>
          have e := rz_okF (fun a h => lpG_stop h _ _) h e
          refine am_ (R_ (M_ r_ (o_ r_ (bi_ [0] r_ r_ (rskip_zn i0 h) (T_ (ap_ r_ r_ (av_ (ax_ (ax_ (ba_ (al_ (B_ ?_))))))))))))
          simp only [tkE] at e
          refine jc_ownNil 124 2 g_ ?_
          refine jc_loopS (ι := List Clm × Z × Nat × Value) [] (fun i => i.2.1.ok l ∧ mu l i.2.1 ≤ mu l σ ∧ mu l i.2.1 ≤ i.2.2.1 ∧ i.1.length + mu l i.2.1 ≤ l.length + 1 ∧ r = rz (fun b => (lpG l Knever (clG l) i.2.2.1 b i.1).bind fun x b => tkF l nm pe de pr ji l0 l1 l2 l3 x b) i.2.1)
            (fun i => [(0, Ptr b), (2, Ptr bR), (3, Ptr bT)]) (fun i => [RZ b l i.2.1, .blk bR 50 [.val (.string ⟨#[]⟩), .val (.int .i64 0), .val (.int .i64 0), .val (.int .i64 0), .val (.int .i64 0), .val (.slice none 0 0), .val (.slice none 0 0), .val (.slice none 0 0), .val (.slice none 0 0), .val (.slice none 0 0), .val (.slice none 0 0)], .blk bT 50 [.val (.string nm), .val (.int .i64 pe), .val (.int .i64 de), .val (.int .i64 pr), .val (.int .i64 ji), .val (v0), .val (v1), .val (v2), .val (v3), .val (i.2.2.2), .val (.slice none 0 0)], .own i.2.2.2 124 2 (i.1.map ClRow), .own v0 120 3 (l0.map InRow), .own v1 9 1 (l1.map Wrow), .own v2 108 2 (l2.map ArRow), .own v3 122 4 (l3.map MdRow)]) (fun i => mu l i.2.1) ([], z3, l.length + 1, .slice none 0 0) ⟨i0, by dsimp only; omega, by dsimp only; omega, by dsimp only [List.length_nil]; omega, e⟩ ?_ ?_ ?_
          · exact bc_ 1 r_ (bc_ 1 r_ (bc_ 1 r_ (bc_ 0 r_ (bc_ 1 r_ (bc_ 1 r_ (bc_ 1 r_ (bc_ 0 r_ sub_end)))))))
          · (repeat (first | exact True.intro | refine ⟨rfl, ?_⟩))
          clear e h i0 i1 i2 i3
          rintro ⟨l4, z4, n4, v4⟩ ⟨i0, i1, i2, i3, e⟩
          dsimp only at i0 i1 i2 i3 e ⊢
          refine jc_reset [(0, Ptr b), (2, Ptr bR), (3, Ptr bT)] [RZ b l z4, .blk bR 50 [.val (.string ⟨#[]⟩), .val (.int .i64 0), .val (.int .i64 0), .val (.int .i64 0), .val (.int .i64 0), .val (.slice none 0 0), .val (.slice none 0 0), .val (.slice none 0 0), .val (.slice none 0 0), .val (.slice none 0 0), .val (.slice none 0 0)], .blk bT 50 [.val (.string nm), .val (.int .i64 pe), .val (.int .i64 de), .val (.int .i64 pr), .val (.int .i64 ji), .val (v0), .val (v1), .val (v2), .val (v3), .val (v4), .val (.slice none 0 0)], .own v4 124 2 (l4.map ClRow), .own v0 120 3 (l0.map InRow), .own v1 9 1 (l1.map Wrow), .own v2 108 2 (l2.map ArRow), .own v3 122 4 (l3.map MdRow)] ?_ ⟨[0, 0, 0, 0, 0, 0, 0, 0], [], rfl⟩ ?_
          · (repeat (first | exact True.intro | refine ⟨rfl, ?_⟩))
          cases h : isZ l z4 Knever with
          | true =>
            obtain ⟨c, rfl⟩ := isZ_n h
            have hlt := isA_lt h
            have e : r = (lpG l Knever (clG l) n4 c l4).bind _ := e
            have hm : mu l (.n c) = l.length - c + 1 := rfl
            have hm1 : mu l (.n (c + 1)) = l.length - (c + 1) + 1 := rfl
            have h0 : (Z.n (c + 1)).ok l := hlt
            rw [lpG_go h (by omega)] at e
            simp only [clG, R.bind_assoc, bind_okE] at e
            have e := rz_in (g := nuG l) e
            refine am_ (R_ (M_ r_ (o_ r_ (bi_ [0] r_ r_ (rskip_y hl i0 h) (T_ (aq_ r_ r_ (as_ (al_ (au_ (jc_hpV 9 (n := 11) rfl 2 [.string nm, .int .i64 pe, .int .i64 de, .int .i64 pr, .int .i64 ji, v0, v1, v2, v3, v4, .slice none 0 0] k_ rfl rfl (df_ (i := 0) rfl k_ k_ k_ b_ (by (repeat (first | refine pani_then ?_ | refine pani_block ?_)); exact pani_body) (dl_ rfl rfl rfl b_) ?_)))))))))))
            refine df_ (i := 1) rfl k_ k_ k_ b_ (by (repeat (first | refine pani_then ?_ | refine pani_block ?_)); exact pani_body) (dm_ 2 rfl rfl rfl mem0 rfl) ?_
            refine df_ (i := 2) rfl k_ k_ k_ b_ (by (repeat (first | refine pani_then ?_ | refine pani_block ?_)); exact pani_body) (dk_ rfl) ?_
            refine df_ (i := 4) rfl k_ k_ k_ b_ (by (repeat (first | refine pani_then ?_ | refine pani_block ?_)); exact pani_body) (dk_ rfl) ?_
            refine hp_bindZ (i := 3) rfl k_ (nb rfl) [0] rfl rfl (rnum_z hl h0) e ?_
            clear e
            intro x y0 k0 e
            refine ⟨?_, ?_⟩
            exact keep1 2 rfl
            refine hp_bindZ (i := 5) rfl k_ (nb rfl) [0] rfl rfl (rnum_z hl k0.1) e ?_
            clear e
            intro y y1 k1 e
            refine ⟨?_, ?_⟩
            exact keep1 2 rfl
            refine dg_ (i := 6) r_ k_ b_ (bu_ r_ r_ r_ r_ r_ ⟨?_, ?_⟩)
            exact keep1 2 rfl
            refine dg_ (i := 7) r_ k_ b_ (bq_ r_ r_ b_ r_ r_ b_ ⟨?_, ?_⟩)
            exact keep1 2 rfl
            refine dg_ (i := 8) rfl k_ b_ (ow_apR 3 ((x, y) : Clm) (f := ClRow) rfl rfl rfl rfl rfl rfl rfl (fun _ => rfl) g_ b_ (fun v2 hv2 => ⟨?_, ?_⟩))
            exact keep1 3 rfl
            refine df_ (i := 9) rfl k_ k_ k_ b_ (by (repeat (first | refine pani_then ?_ | refine pani_block ?_)); exact pani_body) (dl_ rfl rfl rfl b_) ?_
            refine hp_tail (dj_ (i := 10) rfl k_ (by decide) (ca_ 3 rfl rfl rfl rfl b_ (ht_done k_ (ay_ (jq_againS (i := (l4, Z.n c, n4, v4)) ((l4 ++ [(x, y)], y1, n4 - 1, v2) : List Clm × Z × Nat × Value) ⟨k1.1, by dsimp only; omega, by dsimp only; omega, by dsimp only; simp only [List.length_append, List.length_singleton]; omega, e⟩ (by dsimp only; omega) ?_ ?_)))))
            · exact bc_ 2 r_ (bc_ 2 r_ (bc_ 0 r_ (bc_ 0 r_ (bc_ 0 r_ (bc_ 0 r_ (bc_ 0 r_ (bc_ 0 r_ sub_end)))))))
            · (repeat (first | exact True.intro | refine ⟨rfl, ?_⟩))
          | false =>
            have e := rz_okF (fun a h => lpG_stop h _ _) h e
            refine am_ (R_ (M_ r_ (o_ r_ (bi_ [0] r_ r_ (rskip_zn i0 h) (T_ (ap_ r_ r_ (av_ (ax_ (ax_ (ba_ (al_ (am_ ?_))))))))))))
            simp only [tkF, bodyG, R.bind_assoc, bind_okE] at e
            refine an_ (M_ r_ (jl_bindZ [0] rfl rfl (rneed_z hl i0 Kbody) e (nb rfl) ?_))
            clear e
            intro u5 x1 f1 e
            refine T_ (R_ (M_ r_ (jl_bindZO [0] rfl rfl (hS x1 f1.1 g_) e (nb rfl) ?_)))
            clear e
            intro o k ss x2 f2 hv e
            refine F_ r_ (W_ 2 r_ (T_ (R_ (M_ r_ (jl_bindZ [1] rfl rfl (rneed_z hl f2.1 Kend) e (nb rfl) ?_)))))
            clear e
            intro u6 x3 f3 e
            refine T_ (R_ (A_ 1 r_ (S_ 2 r_ (T_ (ar_ (jq_freezeBi 4 0 5 rfl rfl rfl (by rw [hc]; simp [hb, rz_bs]) (jq_freezeBi 4 0 6 rfl rfl rfl (by rw [hc]; simp [hb, rz_bs]) (jq_freezeBi 4 0 7 rfl rfl rfl (by rw [hc]; simp [hb, rz_bs]) (jq_freezeBi 4 0 8 rfl rfl rfl (by rw [hc]; simp [hb, rz_bs]) (jq_freezeBi 3 0 9 rfl rfl rfl (by rw [hc]; simp [hb, rz_bs]) ?_))))))))))
            by_cases hm : 0 < mu l x3
            · obtain rfl := hv (by omega)
              exact jq_retRowS rfl rfl rfl rfl 0 rfl (fun K h => h ((some ⟨nm, pe, de, pr, ji, l0, l1, l2, l3, l4, ss⟩, 0), x3) ⟨_, tr_end hr e ⟨f3.1, by dsimp only; omega⟩, fun _ => rfl⟩) (bc_ 1 r_ sub_end)
            · refine jq_row 0 (oTk none) rfl ?_ ?_
              · (repeat (first | exact RowLe.nil | refine RowLe.cons (CLe.any _) ?_))
              exact jq_retRowS rfl rfl rfl rfl 0 rfl (fun K h => h ((none, 0), x3) ⟨_, tr_end hr e ⟨f3.1, by dsimp only; omega⟩, fun h => absurd h hm⟩) (bc_ 1 r_ sub_end)
end
end Go.Proofs.YtamajcgdfjeehaaDoor
end

section
namespace Go.Proofs.YtamajcgdfjeehaaDoor
open Go.Vc
attribute [local irreducible] JL JC JQ OpWp Con ConN

/-- Whether a text is a name. -/
def isName (s : ByteArray) : Bool := decide (0 < s.size) && decide (s.size ≤ 12) && decide (nameLen s = s.size)
theorem empty_iff (s : ByteArray) : s = ⟨#[]⟩ ↔ s.size = 0 := by
  constructor
  · rintro rfl; rfl
  · intro h; cases s; rename_i d; have : d = #[] := Array.eq_empty_of_size_eq_zero h; rw [this]
theorem Name_c (s : ByteArray) : Con Tryd.prog 37 [Str s] [] (fun K => K (Bl (isName s)) []) := by
  refine con_intro Tryd.func37 rfl rfl (Nat.le_of_ble_eq_true rfl) (fun c hc => ?_)
  by_cases h0 : s = ⟨#[]⟩
  · have e : isName s = false := by simp [isName, (empty_iff s).1 h0]
    have h0n : ¬ ¬ s = ⟨#[]⟩ := fun h => h h0
    refine R_ (E_ r_ (T_ (R_ (M_ r_ (o_ r_ (ct_ r_ r_ (M_ r_ (ai_ r_ w_ b_ (ai_ r_ w_ b_ (ai_ r_ w_ b_ (o_ r_ (bv_ r_ w_ r_ (M_ r_ (ai_ r_ r_ b_ (ai_ r_ r_ b_ (ai_ r_ r_ b_ (ai_ r_ r_ b_ ?_)))))))))))))))))
    refine ai_ r_ r_ b_ (o_ r_ (bv_ r_ r_ r_ (E_ r_ (T_ (ar_ (jq_ret1 rfl rfl [] rfl (fun K h => by rw [e] at h; exact h)))))))
  · have hp : 0 < s.size := by have := mt (empty_iff s).2 h0; omega
    by_cases h12 : (s.size : Int) ≤ 12
    · have e : isName s = decide ((nameLen s : Int) = (s.size : Int)) := by
        unfold isName
        rw [decide_eq_true hp, decide_eq_true (show s.size ≤ 12 by omega)]
        simp only [Bool.true_and, Int.ofNat_inj]
      refine R_ (E_ r_ (T_ (R_ (M_ r_ (o_ r_ (ct_ r_ r_ (M_ r_ (ah_ r_ u_ b_ (bd_ r_ (ah_ r_ u_ b_ (co_ r_ r_ (ah_ r_ u_ b_ (cu_ r_ r_ (o_ r_ (bp_ r_ u_ r_ (M_ r_ (ah_ r_ u_ b_ (bd_ r_ (ah_ r_ u_ b_ (bm_ r_ (name_c s g_) (ah_ r_ u_ b_ (bd_ r_ (ah_ r_ u_ b_ (co_ r_ r_ ?_))))))))))))))))))))))))
      refine ah_ r_ u_ b_ (bn_ r_ r_ (o_ r_ (bp_ r_ u_ r_ (E_ r_ (T_ (ar_ (jq_ret1 rfl rfl [] rfl (fun K h => by rw [e] at h; exact h))))))))
    · have e : isName s = false := by
        unfold isName
        rw [decide_eq_false (show ¬ s.size ≤ 12 by omega)]
        simp
      refine R_ (E_ r_ (T_ (R_ (M_ r_ (o_ r_ (ct_ r_ r_ (M_ r_ (ah_ r_ u_ b_ (bd_ r_ (ah_ r_ u_ b_ (co_ r_ r_ (ah_ r_ u_ b_ (cu_ r_ r_ (o_ r_ (bp_ r_ u_ r_ (M_ r_ (ai_ r_ w_ b_ (ai_ r_ w_ b_ (ai_ r_ w_ b_ (ai_ r_ w_ b_ ?_))))))))))))))))))))
      refine ai_ r_ w_ b_ (o_ r_ (bv_ r_ w_ r_ (E_ r_ (T_ (ar_ (jq_ret1 rfl rfl [] rfl (fun K h => by rw [e] at h; exact h)))))))

/-! The reference -/
theorem rletter_c (n : Int) : Con Tryd.prog 33 [In .u8 n] [] (fun K => K (Bl (isL n)) []) := by
  by_cases h : (97 : Int) ≤ n
  · refine con_intro Tryd.func33 rfl rfl (Nat.le_of_ble_eq_true rfl) (fun c hc => R_ (E_ r_ (T_ (R_ (M_ r_ (o_ r_ (cn_ r_ r_ (M_ r_ (ah_ r_ u_ b_ (bd_ r_ (ah_ r_ u_ b_ (cu_ r_ r_ (o_ r_ (bp_ r_ u_ r_ (E_ r_ (T_ (ar_ (jq_ret1 rfl rfl [] rfl (fun K h' => by rw [show isL n = decide (n ≤ 122) by simp [isL, h]] at h'; exact h')))))))))))))))))))
  · refine con_intro Tryd.func33 rfl rfl (Nat.le_of_ble_eq_true rfl) (fun c hc => R_ (E_ r_ (T_ (R_ (M_ r_ (o_ r_ (cn_ r_ r_ (M_ r_ (ai_ r_ w_ b_ (ai_ r_ w_ b_ (o_ r_ (bv_ r_ w_ r_ (E_ r_ (T_ (ar_ (jq_ret1 rfl rfl [] rfl (fun K h' => by rw [show isL n = false by simp [isL, h]] at h'; exact h')))))))))))))))))
theorem rdigit_c (n : Int) : Con Tryd.prog 34 [In .u8 n] [] (fun K => K (Bl (isD n)) []) := by
  by_cases h : (48 : Int) ≤ n
  · refine con_intro Tryd.func34 rfl rfl (Nat.le_of_ble_eq_true rfl) (fun c hc => R_ (E_ r_ (T_ (R_ (M_ r_ (o_ r_ (cn_ r_ r_ (M_ r_ (ah_ r_ u_ b_ (bd_ r_ (ah_ r_ u_ b_ (cu_ r_ r_ (o_ r_ (bp_ r_ u_ r_ (E_ r_ (T_ (ar_ (jq_ret1 rfl rfl [] rfl (fun K h' => by rw [show isD n = decide (n ≤ 57) by simp [isD, h]] at h'; exact h')))))))))))))))))))
  · refine con_intro Tryd.func34 rfl rfl (Nat.le_of_ble_eq_true rfl) (fun c hc => R_ (E_ r_ (T_ (R_ (M_ r_ (o_ r_ (cn_ r_ r_ (M_ r_ (ai_ r_ w_ b_ (ai_ r_ w_ b_ (o_ r_ (bv_ r_ w_ r_ (E_ r_ (T_ (ar_ (jq_ret1 rfl rfl [] rfl (fun K h' => by rw [show isD n = false by simp [isD, h]] at h'; exact h')))))))))))))))))
theorem numVal_bigF : ∀ (l : List Int) (n : Int), (∀ c ∈ l, isD c = true) → 2147483648 ≤ n → 2147483648 ≤ l.foldl (fun n c => min (10 * n + (c - 48)) 2147483648) n := by
  intro l
  induction l with
  | nil => intro n _ h; exact h
  | cons c l ih =>
    intro n hd hn
    have h2 : isD c = true := hd c (by simp)
    simp only [isD, Bool.and_eq_true, decide_eq_true_eq] at h2
    rw [List.foldl_cons]
    exact ih _ (fun x hx => hd x (by simp [hx])) g_
theorem numVal_big {l : List Int} (hd : ∀ c ∈ l, isD c = true) (k : Nat) (h : 2147483648 ≤ numVal (l.take (k + 1))) : 2147483648 ≤ numVal l := by
  have e : numVal l = (l.drop (k + 1)).foldl (fun n c => min (10 * n + (c - 48)) 2147483648) (numVal (l.take (k + 1))) := by
    unfold numVal
    rw [← List.foldl_append, List.take_append_drop]
  rw [e]
  exact numVal_bigF _ _ (fun c hc => hd c (List.mem_of_mem_drop hc)) h
theorem value_c (s : ByteArray) (hs : s.size ≤ 1000000) (hd : ∀ c ∈ bytesI s, isD c = true) : Con Tryd.prog 35 [Str s] [] (fun K => K (In .i64 (if 2147483648 ≤ numVal (bytesI s) then -1 else numVal (bytesI s))) []) := by
  refine con_intro Tryd.func35 rfl rfl (Nat.le_of_ble_eq_true rfl) (fun c hc => R_ (E_ r_ (T_ (R_ (E_ r_ (T_ (am_ (R_ (E_ r_ (T_ (au_ (jc_loopS [] (fun k : Nat => k ≤ s.size ∧ numVal ((bytesI s).take k) < 2147483648) (fun k => [(0, Str s), (3, In .i64 (numVal ((bytesI s).take k))), (4, In .i64 (k : Int))]) (fun _ => []) (fun k => s.size - k) 0 ⟨Nat.zero_le _, by simp [numVal]⟩ ?_ ?_ ?_))))))))))))
  · exact sub_end
  · (repeat (first | exact True.intro | refine ⟨rfl, ?_⟩))
  · rintro k ⟨hk, hv⟩
    refine am_ (R_ (M_ r_ (M_ r_ (o_ r_ (co_ r_ r_ (o_ r_ (bw_ r_ r_ (T_ (jc_condd rfl (fun hlt => ?_) (fun hge => ?_))))))))))
    · have hlt' : k < (bytesI s).length := by rw [bytesI_len]; omega
      have h1 := hd (bytesI s)[k] (List.getElem_mem hlt')
      have h3 : (bytesI s)[k] = byteAt s k := bytesI_get s k (by omega)
      simp only [isD, Bool.and_eq_true, decide_eq_true_eq] at h1
      have h2 := numVal_bd ((bytesI s).take k) (fun c hc => hd c (List.mem_of_mem_take hc))
      have e : numVal ((bytesI s).take (k + 1)) = min (10 * numVal ((bytesI s).take k) + ((bytesI s)[k] - 48)) 2147483648 := by rw [List.take_succ_eq_append_getElem hlt', numVal_snoc]
      have h4 : byteAt s (k : Int).toNat = byteAt s k := rfl
      rw [h3] at h1 e
      refine as_ (al_ (B_ (R_ (M_ r_ (o_ r_ (cz_ r_ r_ g_ (M_ r_ (M_ r_ (o_ r_ (ow_indexStr r_ r_ r_ g_ g_ (o_ r_ (ow_subU8 r_ r_ g_ (o_ r_ (ow_convI64 r_ r_ r_ g_ (o_ r_ (bj_ r_ r_ g_ (E_ r_ (T_ (R_ (M_ r_ ?_))))))))))))))))))))
      refine o_ r_ (cn_ r_ r_ (T_ (jc_condd rfl (fun hg => ?_) (fun hg => ?_))))
      · have e2 : (2147483648 : Int) ≤ numVal (bytesI s) := numVal_big hd k (by rw [e]; omega)
        refine R_ (E_ r_ (T_ (ar_ (az_ (aw_ (aw_ (az_ (aw_ (jq_ret1 rfl rfl [] rfl (fun K h => by rw [if_pos e2] at h; exact h))))))))))
      · refine as_ (ay_ (al_ (an_ (M_ r_ (o_ r_ (bj_ r_ r_ g_ (E_ r_ (ak_ ?_))))))))
        have e3 : numVal ((bytesI s).take (k + 1)) = numVal ((bytesI s).take k) * 10 + (byteAt s (k : Int).toNat - 48) := by omega
        refine jq_againS (k + 1) ⟨by omega, by omega⟩ g_ ?_ ?_
        · exact sub_end
        · rw [e3]
          (repeat (first | exact True.intro | refine ⟨rfl, ?_⟩))
    · have e2 : (bytesI s).take k = bytesI s := List.take_of_length_le (by rw [bytesI_len]; omega)
      rw [e2] at hv
      refine av_ (ax_ (ax_ (ba_ (al_ (R_ (M_ r_ (E_ r_ (T_ (ar_ (jq_ret1 rfl rfl [] rfl (fun K h => by rw [if_neg g_] at h; rw [e2]; exact h)))))))))))
end Go.Proofs.YtamajcgdfjeehaaDoor
end

section
namespace Go.Proofs.YtamajcgdfjeehaaDoor
open Go.Vc
attribute [local irreducible] JL JC JQ OpWp Con ConN

/-- A text's row. -/
def Trow (s : ByteArray) : List C := [.val (.string s)]
/-- All signs, longer ones first. -/
def SL2 : List ByteArray := [⟨#[60, 60]⟩, ⟨#[62, 62]⟩, ⟨#[60, 61]⟩, ⟨#[61, 61]⟩, ⟨#[33, 61]⟩]
def SL1 : List ByteArray := [⟨#[43]⟩, ⟨#[45]⟩, ⟨#[42]⟩, ⟨#[47]⟩, ⟨#[37]⟩, ⟨#[38]⟩, ⟨#[124]⟩, ⟨#[94]⟩, ⟨#[60]⟩, ⟨#[61]⟩, ⟨#[40]⟩, ⟨#[41]⟩, ⟨#[91]⟩, ⟨#[93]⟩, ⟨#[123]⟩, ⟨#[125]⟩]
theorem Signs_c : Con Tryd.prog 56 [] [] (fun K => K (.cell (.list ((SL2 ++ SL1).map Trow))) []) := by
  refine con_intro Tryd.func56 rfl rfl (Nat.le_of_ble_eq_true rfl) (fun c hc => R_ (E_ r_ (T_ (R_ (o_ r_ (bq_ r_ r_ b_ r_ r_ b_ (E_ r_ (T_ (ar_ (jq_ret1 rfl rfl [] rfl (fun K h => h)))))))))))
/-- Whether a text begins with another. -/
def begins (s t : ByteArray) : Bool := decide (t.size ≤ s.size) && decide (s.extract 0 t.size = t)
def rsign (s : ByteArray) : ByteArray := ((SL2 ++ SL1).find? (begins s)).getD ⟨#[]⟩
theorem rsign_c (s : ByteArray) (hs : s.size ≤ 1000000) : Con Tryd.prog 36 [Str s] [] (fun K => K (Str (rsign s)) []) := by
  refine con_intro Tryd.func36 rfl rfl (Nat.le_of_ble_eq_true rfl) (fun c hc => ?_)
  have hS := Signs_c
  have hr : rsign s = ((SL2 ++ SL1).find? (begins s)).getD ⟨#[]⟩ := rfl
  have hlen : (SL2 ++ SL1).length = 21 := rfl
  have hall : ∀ t ∈ SL2 ++ SL1, t.size ≤ 2 := by
    intro t ht
    rcases List.mem_append.1 ht with h | h <;> simp only [SL2, SL1, List.mem_cons, List.not_mem_nil, or_false] at h
    · rcases h with rfl | rfl | rfl | rfl | rfl <;> decide
    · rcases h with rfl | rfl | rfl | rfl | rfl | rfl | rfl | rfl | rfl | rfl | rfl | rfl | rfl | rfl | rfl | rfl <;> decide
  revert hS hr hlen hall
  generalize SL2 ++ SL1 = L
  intro hS hr hlen hall
  have eL : (L.map Trow).length = L.length := List.length_map _
  refine R_ (E_ r_ (T_ (R_ (o_ r_ (bm_ r_ (hS) (E_ r_ (T_ (am_ (R_ (E_ r_ (T_ (au_ (jc_loopS [] (fun k : Nat => k ≤ L.length ∧ ∀ j (h : j < L.length), j < k → begins s L[j] = false) (fun k => [(0, Str s), (3, .cell (.list (L.map Trow))), (4, In .i64 (k : Int))]) (fun _ => []) (fun k => L.length - k) 0 ⟨Nat.zero_le _, fun j _ h => by omega⟩ ?_ ?_ ?_)))))))))))))
  · exact sub_end
  · (repeat (first | exact True.intro | refine ⟨rfl, ?_⟩))
  · rintro k ⟨hk, hno⟩
    refine jc_reset [(0, Str s), (3, .cell (.list (L.map Trow))), (4, In .i64 (k : Int))] [] ?_ ⟨[], [], rfl⟩ ?_
    · (repeat (first | exact True.intro | refine ⟨rfl, ?_⟩))
    refine am_ (R_ (M_ r_ (M_ r_ (o_ r_ (br_ r_ (fun hlen => o_ r_ (bw_ r_ r_ (T_ (jc_condd rfl (fun hlt => ?_) (fun hge => ?_))))))))))
    · have hlt' : k < L.length := by omega
      have h2 := hall L[k] (List.getElem_mem hlt')
      by_cases hsz : (L[k].size : Int) ≤ (s.size : Int)
      · refine as_ (al_ (B_ (am_ (ao_ r_ r_ k_ k_ (yM_ r_ (aa_ (fun c => co_ r_ r_ p_) (yM_ r_ (yM_ r_ (aa_ (fun c => cc_ r_ r_ g_ r_ r_ b_ p_) (aa_ (fun c => cb_ r_ r_ p_) (aa_ (fun c => co_ r_ r_ p_) (aa_ (fun c => cn_ r_ r_ p_) (yM_ r_ (ab_ r_ u_ (fun c => bd_ r_ p_) (ab_ r_ u_ (fun c => bd_ r_ p_) ?_)))))))))))))))
        refine ab_ r_ u_ (fun c => bd_ r_ p_) (ab_ r_ u_ (fun c => cc_ r_ r_ g_ r_ r_ b_ p_) (ab_ r_ u_ (fun c => cb_ r_ r_ p_) (ab_ r_ u_ (fun c => co_ r_ r_ p_) (ab_ r_ u_ (fun c => ow_substrHi r_ r_ r_ g_ g_ p_) (ab_ r_ u_ (fun c => bd_ r_ p_) (ab_ r_ u_ (fun c => bd_ r_ p_) (ab_ r_ u_ (fun c => cc_ r_ r_ g_ r_ r_ b_ p_) (ab_ r_ u_ (fun c => cb_ r_ r_ p_) (ab_ r_ u_ (fun c => cs_ r_ r_ p_) ?_)))))))))
        refine aa_ (fun c => bp_ r_ u_ r_ p_) (ae_ (al_ (jc_condd rfl (fun hb => ?_) (fun hb => ?_))))
        · have hb' : begins s L[k] = true := by
            unfold begins
            rw [decide_eq_true (show L[k].size ≤ s.size by omega), decide_eq_true (show s.extract 0 L[k].size = L[k] from hb)]
            rfl
          have e : rsign s = L[k] := by
            rw [hr, (List.find?_eq_some_iff_getElem).2 ⟨hb', k, hlt', rfl, fun j hj => by rw [hno j (by omega) hj]; rfl⟩]
            rfl
          refine R_ (M_ r_ (M_ r_ (o_ r_ (cc_ r_ r_ g_ r_ r_ b_ (o_ r_ (cb_ r_ r_ (E_ r_ (T_ (ar_ (az_ (aw_ (aw_ (az_ (aw_ (jq_ret1 rfl rfl [] rfl (fun K h => by rw [e] at h; exact h))))))))))))))))
        · have hf : begins s L[k] = false := by
            unfold begins
            rw [decide_eq_false (show ¬ s.extract 0 L[k].size = L[k] from hb), Bool.and_false]
          refine as_ (ay_ (al_ (an_ (M_ r_ (o_ r_ (bj_ r_ r_ g_ (E_ r_ (ak_ ?_))))))))
          refine jq_againS (k + 1) ⟨by omega, fun j hj hjk => by
            by_cases e : j < k
            · exact hno j hj e
            · obtain rfl : j = k := by omega
              exact hf⟩ (by omega) ?_ ?_
          · exact sub_end
          · (repeat (first | exact True.intro | refine ⟨rfl, ?_⟩))
      · have hf : begins s L[k] = false := by
          unfold begins
          rw [decide_eq_false (show ¬ L[k].size ≤ s.size by omega), Bool.false_and]
        refine as_ (al_ (B_ (am_ (ao_ r_ r_ k_ k_ (yM_ r_ (aa_ (fun c => co_ r_ r_ p_) (yM_ r_ (yM_ r_ (aa_ (fun c => cc_ r_ r_ g_ r_ r_ b_ p_) (aa_ (fun c => cb_ r_ r_ p_) (aa_ (fun c => co_ r_ r_ p_) (aa_ (fun c => cn_ r_ r_ p_) (yM_ r_ (ac_ r_ w_ (ac_ r_ w_ ?_)))))))))))))))
        refine ac_ r_ w_ (ac_ r_ w_ (ac_ r_ w_ (ac_ r_ w_ (ac_ r_ w_ (ac_ r_ w_ (ac_ r_ w_ (ac_ r_ w_ (ac_ r_ w_ (ac_ r_ w_ (aa_ (fun c => bv_ r_ w_ r_ p_) (ae_ (al_ (jc_cond rfl (fun h => by cases h) (fun _ => as_ (ay_ ?_)))))))))))))))
        refine al_ (an_ (M_ r_ (o_ r_ (bj_ r_ r_ g_ (E_ r_ (ak_ ?_))))))
        refine jq_againS (k + 1) ⟨by omega, fun j hj hjk => by
          by_cases e : j < k
          · exact hno j hj e
          · obtain rfl : j = k := by omega
            exact hf⟩ (by omega) ?_ ?_
        · exact sub_end
        · (repeat (first | exact True.intro | refine ⟨rfl, ?_⟩))
    · have e : rsign s = ⟨#[]⟩ := by
        rw [hr, List.find?_eq_none.2 (fun x hx => by obtain ⟨j, hj, rfl⟩ := List.mem_iff_getElem.1 hx; rw [hno j hj (by omega)]; simp)]
        rfl
      refine av_ (ax_ (ax_ (ba_ (al_ (R_ (E_ r_ (T_ (ar_ (jq_ret1 rfl rfl [] rfl (fun K h => by rw [e] at h; exact h))))))))))
end Go.Proofs.YtamajcgdfjeehaaDoor
end

section
namespace Go.Proofs.YtamajcgdfjeehaaDoor
open Go.Vc
attribute [local irreducible] JL JC JQ OpWp Con ConN

theorem byteAt_getD (s : ByteArray) (n : Nat) : byteAt s n = (bytesI s).getD n 0 := by
  by_cases h : n < s.size
  · rw [← bytesI_get s n h, List.getD_eq_getElem?_getD, List.getElem?_eq_getElem (by simpa using h)]
    rfl
  · unfold byteAt
    rw [List.getD_eq_getElem?_getD, List.getD_eq_getElem?_getD, List.getElem?_eq_none (by simpa using h), List.getElem?_eq_none (by simpa using h)]
    rfl
theorem byteAt_extract (s : ByteArray) (a j : Nat) : byteAt (s.extract a s.size) j = byteAt s (a + j) := by
  rw [byteAt_getD, byteAt_getD, extract_bytes, List.take_of_length_le (by simp), List.getD_eq_getElem?_getD, List.getD_eq_getElem?_getD, List.getElem?_drop]
theorem extract_extract (s : ByteArray) (a n : Nat) (h : a + n ≤ s.size) : (s.extract a s.size).extract 0 n = s.extract a (a + n) := by
  apply bytesI_inj
  rw [extract_bytes, extract_bytes, extract_bytes, List.drop_zero, List.take_take]
  congr 1
  omega
theorem begins_iff {s t : ByteArray} : begins s t = true ↔ t.size ≤ s.size ∧ s.extract 0 t.size = t := by simp [begins]
theorem SL2_size : ∀ t ∈ SL2, t.size = 2 := by decide
theorem SL1_size : ∀ t ∈ SL1, t.size = 1 := by decide
theorem SG_iff1 : ∀ t ∈ SG, (hasS SL2 t || hasS SL1 t) = true := by decide
theorem SG_iff2 : ∀ t ∈ SL2, hasS SG t = true := by decide
theorem SG_iff3 : ∀ t ∈ SL1, hasS SG t = true := by decide
theorem SG_iff (t : ByteArray) : t ∈ SG ↔ t ∈ SL2 ∨ t ∈ SL1 := by
  constructor
  · intro h
    rcases Bool.or_eq_true_iff.1 (SG_iff1 t h) with h | h
    · exact .inl (hasS_iff.1 h)
    · exact .inr (hasS_iff.1 h)
  · rintro (h | h)
    · exact hasS_iff.1 (SG_iff2 t h)
    · exact hasS_iff.1 (SG_iff3 t h)
theorem rsign_eq (s : ByteArray) : rsign s = s.extract 0 (signLen s) := by
  unfold rsign signLen
  rw [List.find?_append]
  cases h2 : SL2.find? (begins s) with
  | some t =>
    have ht := List.mem_of_find?_eq_some h2
    have hb := begins_iff.1 (List.find?_some h2)
    rw [SL2_size t ht] at hb
    rw [if_pos ⟨hb.1, hasS_iff.2 ((SG_iff _).2 (.inl (by rw [hb.2]; exact ht)))⟩]
    exact hb.2.symm
  | none =>
    have hn2 : ¬ (2 ≤ s.size ∧ hasS SG (s.extract 0 2) = true) := by
      rintro ⟨a, b⟩
      rcases (SG_iff _).1 (hasS_iff.1 b) with h | h
      · have := List.find?_eq_none.1 h2 _ h
        exact this (begins_iff.2 ⟨by rw [SL2_size _ h]; exact a, by rw [SL2_size _ h]⟩)
      · have := SL1_size _ h
        rw [extract_size _ _ _ a] at this
        omega
    rw [if_neg hn2]
    cases h1 : SL1.find? (begins s) with
    | some t =>
      have ht := List.mem_of_find?_eq_some h1
      have hb := begins_iff.1 (List.find?_some h1)
      rw [SL1_size t ht] at hb
      rw [if_pos ⟨hb.1, hasS_iff.2 ((SG_iff _).2 (.inr (by rw [hb.2]; exact ht)))⟩]
      exact hb.2.symm
    | none =>
      have hn1 : ¬ (1 ≤ s.size ∧ hasS SG (s.extract 0 1) = true) := by
        rintro ⟨a, b⟩
        rcases (SG_iff _).1 (hasS_iff.1 b) with h | h
        · have := SL2_size _ h
          rw [extract_size _ _ _ a] at this
          omega
        · have := List.find?_eq_none.1 h1 _ h
          exact this (begins_iff.2 ⟨by rw [SL1_size _ h]; exact a, by rw [SL1_size _ h]⟩)
      rw [if_neg hn1]
      show (⟨#[]⟩ : ByteArray) = s.extract 0 0
      exact ((empty_iff _).2 (by rw [extract_size _ _ _ (Nat.zero_le _)])).symm
end Go.Proofs.YtamajcgdfjeehaaDoor
end

section
namespace Go.Proofs.YtamajcgdfjeehaaDoor
open Go.Vc
attribute [local irreducible] JL JC JQ OpWp Con ConN
attribute [local irreducible] nextT scan byteAt rsign runLen nameLen signLen numVal

theorem rScan_c (s : ByteArray) : Con Tryd.prog 18 [Str s] [] (fun K => K (.tup [.cell (.list ((scan s).1.map Tok.row)), In .i64 (scan s).2.1, In .i64 (scan s).2.2]) []) := by
  refine con_intro Tryd.func18 rfl rfl (Nat.le_of_ble_eq_true rfl) (fun c hc => R_ (E_ r_ (E_ r_ (E_ r_ (T_ (am_ (R_ (M_ r_ (o_ r_ (co_ r_ r_ (o_ r_ (bz_ r_ r_ (T_ (jc_condd rfl (fun hn => ?_) (fun hn => ?_)))))))))))))))
  · refine R_ (E_ r_ (E_ r_ (E_ r_ (T_ (ar_ (aw_ ?_))))))
    have e : scan s = ([], 0, 4) := by unfold scan; rw [if_pos (by omega)]
    exact jq_ownNil 76 4 g_ (jq_freeze 2 0 rfl rfl (by rw [hc]; simp [hb]) (jq_ret3 rfl rfl rfl rfl (fun K h => by rw [e] at h; exact h) sub_end))
  · have hsz : s.size ≤ 8192 := by omega
    refine as_ (al_ (R_ (E_ r_ (T_ (R_ (E_ r_ (T_ (am_ (R_ (E_ r_ (T_ (au_ (jc_ownNil 76 4 g_ ?_)))))))))))))
    refine jc_loopS (ι := Nat × Int × Value × List Tok) [] (fun i => scanGo s i.1 i.2.1 i.2.2.2 = scan s ∧ i.1 ≤ s.size ∧ 1 ≤ i.2.1 ∧ i.2.1 ≤ 1 + i.1 ∧ i.2.2.2.length ≤ i.1) (fun i => [(0, Str s), (2, S.cell (C.val (.slice none 0 0))), (5, .cell (.val i.2.2.1)), (6, In .i64 i.2.1), (7, In .i64 (i.1 : Int))]) (fun i => [.own i.2.2.1 76 4 (i.2.2.2.map Tok.row)]) (fun i => s.size - i.1) (0, 1, .slice none 0 0, []) ⟨by unfold scan; rw [if_neg g_], by omega, by dsimp only; omega, by dsimp only; omega, by simp⟩ ?_ ?_ ?_
    · exact bc_ 0 r_ sub_end
    · (repeat (first | exact True.intro | refine ⟨rfl, ?_⟩))
    · rintro ⟨k, line, v, out⟩ ⟨hsc, hk, hl1, hl2, hlen⟩
      dsimp only at hsc hk hl1 hl2 hlen ⊢
      refine jc_reset [(0, Str s), (2, S.cell (C.val (.slice none 0 0))), (5, .cell (.val v)), (6, In .i64 line), (7, In .i64 (k : Int))] [.own v 76 4 (out.map Tok.row)] ?_ ⟨[0], [], rfl⟩ ?_
      · (repeat (first | exact True.intro | refine ⟨rfl, ?_⟩))
      refine am_ (R_ (M_ r_ (M_ r_ (o_ r_ (co_ r_ r_ (o_ r_ (bw_ r_ r_ (T_ (jc_condd rfl (fun hlt => ?_) (fun hge => ?_))))))))))
      · have hlt' : k < s.size := by omega
        rw [scanGo, dif_pos hlt'] at hsc
        have hx : (s.extract k s.size).size = s.size - k := by rw [extract_size _ _ _ (Nat.le_refl _)]
        have hnl := nextT_le (s.extract k s.size)
        refine as_ (al_ (au_ (R_ (M_ r_ (M_ r_ (o_ r_ (ow_indexStr r_ r_ r_ g_ g_ (E_ r_ (T_ (R_ (M_ r_ (E_ r_ (T_ (B_ (R_ (M_ r_ ?_))))))))))))))))
        refine o_ r_ (bn_ r_ r_ (E_ r_ (T_ (jc_condd rfl (fun h10 => ?_) (fun h10 => ?_)))))
        · rw [if_pos (show byteAt s k = 10 from h10)] at hsc
          refine R_ (M_ r_ (o_ r_ (bj_ r_ r_ g_ (E_ r_ (T_ (R_ (M_ r_ (o_ r_ (bj_ r_ r_ g_ (E_ r_ (T_ (av_ (bb_ r_ (ax_ (ba_ (jq_againS (i := (k, line, v, out)) (k + 1, line + 1, v, out) ⟨hsc, by dsimp only; omega, by dsimp only; omega, by dsimp only; omega, by dsimp only; omega⟩ (by dsimp only; omega) ?_ ?_))))))))))))))))
          · exact bc_ 0 r_ sub_end
          · (repeat (first | exact True.intro | refine ⟨rfl, ?_⟩))
        · rw [if_neg (show ¬ byteAt s k = 10 from h10)] at hsc
          by_cases hw : byteAt s k = 32 ∨ byteAt s k = 9
          · rw [if_pos hw] at hsc
            have hw' : (decide (byteAt s (k : Int).toNat = 32) || decide (byteAt s (k : Int).toNat = 9)) = true := by simpa using hw
            by_cases h32 : byteAt s (k : Int).toNat = 32
            · refine R_ (M_ r_ (o_ r_ (bn_ r_ r_ (M_ r_ (ai_ r_ u_ b_ (ai_ r_ u_ b_ (o_ r_ (bp_ r_ u_ r_ (E_ r_ (T_ (jc_cond rfl (fun _ => R_ (M_ r_ (o_ r_ (bj_ r_ r_ g_ (E_ r_ (T_ (av_ ?_))))))) (fun h => by cases h))))))))))))
              refine bb_ r_ (ax_ (ba_ (jq_againS (i := (k, line, v, out)) (k + 1, line, v, out) ⟨hsc, by dsimp only; omega, by dsimp only; omega, by dsimp only; omega, by dsimp only; omega⟩ (by dsimp only; omega) ?_ ?_)))
              · exact bc_ 0 r_ sub_end
              · (repeat (first | exact True.intro | refine ⟨rfl, ?_⟩))
            · have h9 : byteAt s (k : Int).toNat = 9 := hw.resolve_left h32
              refine R_ (M_ r_ (o_ r_ (bn_ r_ r_ (M_ r_ (ah_ r_ w_ b_ (bd_ r_ (ah_ r_ w_ b_ (bn_ r_ r_ (o_ r_ (bv_ r_ w_ r_ (E_ r_ (T_ (jc_condd rfl (fun _ => R_ (M_ r_ (o_ r_ (bj_ r_ r_ g_ (E_ r_ (T_ (av_ ?_))))))) (fun h => absurd h9 h))))))))))))))
              refine bb_ r_ (ax_ (ba_ (jq_againS (i := (k, line, v, out)) (k + 1, line, v, out) ⟨hsc, by dsimp only; omega, by dsimp only; omega, by dsimp only; omega, by dsimp only; omega⟩ (by dsimp only; omega) ?_ ?_)))
              · exact bc_ 0 r_ sub_end
              · (repeat (first | exact True.intro | refine ⟨rfl, ?_⟩))
          · rw [if_neg hw] at hsc
            have h32 : ¬ byteAt s (k : Int).toNat = 32 := fun h => hw (.inl h)
            have h9 : ¬ byteAt s (k : Int).toNat = 9 := fun h => hw (.inr h)
            refine R_ (M_ r_ (o_ r_ (bn_ r_ r_ (M_ r_ (ah_ r_ w_ b_ (bd_ r_ (ah_ r_ w_ b_ (bn_ r_ r_ (o_ r_ (bv_ r_ w_ r_ (E_ r_ (T_ (jc_condd rfl (fun h => absurd h h9) (fun _ => jc_reset [(0, Str s), (2, S.cell (C.val (.slice none 0 0))), (5, .cell (.val v)), (6, In .i64 line), (7, In .i64 (k : Int)), (8, In .u8 (byteAt s k)), (9, In .i64 (k : Int))] [.own v 76 4 (out.map Tok.row)] ?_ ⟨[0], [], rfl⟩ ?_))))))))))))))
            · (repeat (first | exact True.intro | refine ⟨rfl, ?_⟩))
            refine R_ (M_ r_ (o_ r_ (bm_ r_ (rletter_c _) (E_ r_ (T_ (jc_cond rfl (fun hL => ?_) (fun hL => ?_)))))))
            · refine B_ (jc_loopS [] (fun j : Nat => k + j ≤ s.size ∧ ∀ i, i < j → isLD (byteAt s (k + i)) = true) (fun j => [(0, Str s), (2, S.cell (C.val (.slice none 0 0))), (5, .cell (.val v)), (6, In .i64 line), (7, In .i64 (k : Int)), (9, In .i64 ((k + j : Nat) : Int))]) (fun _ => [.own v 76 4 (out.map Tok.row)]) (fun j => s.size - (k + j)) 0 ⟨by omega, fun j h => by omega⟩ ?_ ?_ ?_)
              · exact bc_ 0 r_ sub_end
              · (repeat (first | exact True.intro | refine ⟨rfl, ?_⟩))
              · rintro j ⟨hkj, hall⟩
                refine jc_reset [(0, Str s), (2, S.cell (C.val (.slice none 0 0))), (5, .cell (.val v)), (6, In .i64 line), (7, In .i64 (k : Int)), (9, In .i64 ((k + j : Nat) : Int))] [.own v 76 4 (out.map Tok.row)] ?_ ⟨[0], [], rfl⟩ ?_
                · (repeat (first | exact True.intro | refine ⟨rfl, ?_⟩))
                by_cases hlt2 : ((k + j : Nat) : Int) < (s.size : Int)
                · cases hl0 : isL (byteAt s ((k + j : Nat) : Int).toNat) with
                  | true =>
                    refine am_ (R_ (M_ r_ (M_ r_ (o_ r_ (co_ r_ r_ (o_ r_ (bw_ r_ r_ (M_ r_ (ah_ r_ u_ b_ (bd_ r_ (ah_ r_ u_ b_ (bd_ r_ (ah_ r_ u_ b_ (ow_indexStr r_ r_ r_ g_ g_ (ah_ r_ u_ b_ (bm_ r_ (rletter_c _) (ah_ r_ u_ b_ (bd_ r_ (ai_ r_ h_ b_ (ai_ r_ h_ b_ (ai_ r_ h_ b_ (ai_ r_ h_ b_ ?_))))))))))))))))))))))
                    refine ah_ r_ u_ b_ (bp_ r_ h_ r_ (o_ r_ (bp_ r_ u_ r_ (T_ (jc_cond rfl (fun _ => as_ (al_ (au_ (an_ (M_ r_ (o_ r_ (bj_ r_ r_ g_ (E_ r_ (ak_ (ay_ (jq_againS (j + 1) ⟨by omega, fun i hi => ?_⟩ g_ ?_ ?_))))))))))) (fun h => by cases h))))))
                    · by_cases hij : i < j
                      · exact hall i hij
                      · obtain rfl : i = j := by omega
                        unfold isLD
                        rw [show isL (byteAt s (k + i)) = true from hl0]; rfl
                    · exact bc_ 0 r_ sub_end
                    · (repeat (first | exact True.intro | refine ⟨rfl, ?_⟩))
                  | false =>
                    refine am_ (R_ (M_ r_ (M_ r_ (o_ r_ (co_ r_ r_ (o_ r_ (bw_ r_ r_ (M_ r_ (ah_ r_ u_ b_ (bd_ r_ (ah_ r_ u_ b_ (bd_ r_ (ah_ r_ u_ b_ (ow_indexStr r_ r_ r_ g_ g_ (ah_ r_ u_ b_ (bm_ r_ (rletter_c _) (ah_ r_ u_ b_ (bd_ r_ (ah_ r_ h_ b_ (bd_ r_ (ah_ r_ h_ b_ (bd_ r_ (ah_ r_ h_ b_ (ow_indexStr r_ r_ r_ g_ g_ (ah_ r_ h_ b_ (bm_ r_ (rdigit_c _) ?_))))))))))))))))))))))))))
                    refine ah_ r_ u_ b_ (bv_ r_ h_ r_ (o_ r_ (bp_ r_ u_ r_ (T_ (jc_cond rfl (fun hb => ?_) (fun hb => ?_))))))
                    · refine as_ (al_ (au_ (an_ (M_ r_ (o_ r_ (bj_ r_ r_ g_ (E_ r_ (ak_ (ay_ (jq_againS (j + 1) ⟨by omega, fun i hi => ?_⟩ g_ ?_ ?_))))))))))
                      · by_cases hij : i < j
                        · exact hall i hij
                        · obtain rfl : i = j := by omega
                          unfold isLD
                          rw [show isD (byteAt s (k + i)) = true from hb, Bool.or_true]
                      · exact bc_ 0 r_ sub_end
                      · (repeat (first | exact True.intro | refine ⟨rfl, ?_⟩))
                    · have hf : isLD (byteAt s (k + j)) = false := by
                        unfold isLD
                        rw [show isL (byteAt s (k + j)) = false from hl0, show isD (byteAt s (k + j)) = false from hb]
                        rfl
                      have hjp : 0 < j := by
                        rcases Nat.eq_zero_or_pos j with h | h
                        · subst h
                          exact absurd (show isL (byteAt s k) = true from hL) (by rw [show isL (byteAt s k) = false from hl0]; simp)
                        · exact h
                      have hj : runLen isLD (s.extract k s.size) = j := runLen_eq (fun i hi => by rw [byteAt_extract]; exact hall i hi) (by omega) (fun _ => by rw [byteAt_extract]; exact hf)
                      have hnl0 : nameLen (s.extract k s.size) = j := by
                        unfold nameLen
                        rw [if_pos ⟨by omega, by rw [byteAt_extract, Nat.add_zero]; exact hL⟩]
                        exact hj
                      have hnx : nextT (s.extract k s.size) = if 12 < j then ((0, 0, ⟨#[]⟩), 0) else ((1, 0, s.extract k (k + j)), j) := by
                        unfold nextT
                        rw [hnl0, if_pos (by omega), extract_extract s k j (by omega)]
                      have hsub : ((k + j : Nat) : Int) - (k : Int) = (j : Int) := by omega
                      refine av_ (ax_ (ax_ (ba_ (al_ (am_ (R_ (M_ r_ (M_ r_ (o_ r_ (cg_ r_ r_ g_ (o_ r_ (bz_ r_ r_ (T_ (jc_condd rfl (fun h12 => ?_) (fun h12 => ?_)))))))))))))))
                      · rw [if_pos (by omega)] at hnx
                        rw [hnx] at hsc
                        refine R_ (M_ r_ (E_ r_ (E_ r_ (E_ r_ (T_ (ar_ (aw_ (az_ (aw_ (az_ (aw_ (az_ (aw_ ?_)))))))))))))
                        have e : scan s = ([], line, 1) := by rw [← hsc, dif_pos rfl]
                        exact jq_ownNil 76 4 g_ (jq_freeze 2 0 rfl rfl (by rw [hc]; simp [Go.Vc.hb]) (jq_ret3 rfl rfl rfl rfl (fun K h => by rw [e] at h; exact h) sub_end))
                      · rw [if_neg (by omega)] at hnx
                        rw [hnx] at hsc
                        dsimp only at hsc
                        rw [dif_neg (by omega)] at hsc
                        refine as_ (al_ (an_ (M_ r_ (M_ r_ (M_ r_ (M_ r_ (M_ r_ (o_ r_ (ow_substr r_ r_ r_ r_ g_ g_ g_ (o_ r_ (bu_ r_ r_ r_ r_ r_ (o_ r_ (bq_ r_ r_ b_ r_ r_ b_ ?_)))))))))))))
                        refine o_ r_ (ow_append1 0 ((⟨1, 0, line, s.extract k (k + j)⟩ : Tok)) rfl rfl rfl rfl rfl rfl rfl (fun _ => rfl) (by show (_ + _) * 40 ≤ _; first | omega | (simp only [List.length_append]; omega)) (by first | omega | (simp only [List.length_append]; omega)) (fun v1 hv1 => E_ r_ (ak_ (ay_ (al_ (an_ (M_ r_ (E_ r_ (ak_ (ay_ ?_))))))))))
                        refine jq_againS (i := (k, line, v, out)) (k + j, line, v1, out ++ [(⟨1, 0, line, s.extract k (k + j)⟩ : Tok)]) ⟨hsc, by dsimp only; omega, hl1, by dsimp only; omega, by dsimp only; rw [List.length_append, List.length_singleton]; omega⟩ (by dsimp only; omega) ?_ ?_
                        · exact bc_ 0 r_ sub_end
                        · (repeat (first | exact True.intro | refine ⟨rfl, ?_⟩))
                · refine am_ (R_ (M_ r_ (M_ r_ (o_ r_ (co_ r_ r_ (o_ r_ (bw_ r_ r_ (M_ r_ (ai_ r_ w_ b_ (ai_ r_ w_ b_ (ai_ r_ w_ b_ (ai_ r_ w_ b_ (ai_ r_ w_ b_ (aj_ r_ b_ (aj_ r_ b_ (aj_ r_ b_ (aj_ r_ b_ ?_)))))))))))))))))
                  refine ai_ r_ w_ b_ (o_ r_ (bv_ r_ w_ r_ (T_ (jc_cond rfl (fun h => by cases h) (fun _ => ?_)))))
                  have hjp : 0 < j := by omega
                  have hj : runLen isLD (s.extract k s.size) = j := runLen_eq (fun i hi => by rw [byteAt_extract]; exact hall i hi) (by omega) (fun h => by omega)
                  have hnl0 : nameLen (s.extract k s.size) = j := by
                    unfold nameLen
                    rw [if_pos ⟨by omega, by rw [byteAt_extract, Nat.add_zero]; exact hL⟩]
                    exact hj
                  have hnx : nextT (s.extract k s.size) = if 12 < j then ((0, 0, ⟨#[]⟩), 0) else ((1, 0, s.extract k (k + j)), j) := by
                    unfold nextT
                    rw [hnl0, if_pos (by omega), extract_extract s k j (by omega)]
                  have hsub : ((k + j : Nat) : Int) - (k : Int) = (j : Int) := by omega
                  refine av_ (ax_ (ax_ (ba_ (al_ (am_ (R_ (M_ r_ (M_ r_ (o_ r_ (cg_ r_ r_ g_ (o_ r_ (bz_ r_ r_ (T_ (jc_condd rfl (fun h12 => ?_) (fun h12 => ?_)))))))))))))))
                  · rw [if_pos (by omega)] at hnx
                    rw [hnx] at hsc
                    refine R_ (M_ r_ (E_ r_ (E_ r_ (E_ r_ (T_ (ar_ (aw_ (az_ (aw_ (az_ (aw_ (az_ (aw_ ?_)))))))))))))
                    have e : scan s = ([], line, 1) := by rw [← hsc, dif_pos rfl]
                    exact jq_ownNil 76 4 g_ (jq_freeze 2 0 rfl rfl (by rw [hc]; simp [Go.Vc.hb]) (jq_ret3 rfl rfl rfl rfl (fun K h => by rw [e] at h; exact h) sub_end))
                  · rw [if_neg (by omega)] at hnx
                    rw [hnx] at hsc
                    dsimp only at hsc
                    rw [dif_neg (by omega)] at hsc
                    refine as_ (al_ (an_ (M_ r_ (M_ r_ (M_ r_ (M_ r_ (M_ r_ (o_ r_ (ow_substr r_ r_ r_ r_ g_ g_ g_ (o_ r_ (bu_ r_ r_ r_ r_ r_ (o_ r_ (bq_ r_ r_ b_ r_ r_ b_ ?_)))))))))))))
                    refine o_ r_ (ow_append1 0 ((⟨1, 0, line, s.extract k (k + j)⟩ : Tok)) rfl rfl rfl rfl rfl rfl rfl (fun _ => rfl) (by show (_ + _) * 40 ≤ _; first | omega | (simp only [List.length_append]; omega)) (by first | omega | (simp only [List.length_append]; omega)) (fun v1 hv1 => E_ r_ (ak_ (ay_ (al_ (an_ (M_ r_ (E_ r_ (ak_ (ay_ ?_))))))))))
                    refine jq_againS (i := (k, line, v, out)) (k + j, line, v1, out ++ [(⟨1, 0, line, s.extract k (k + j)⟩ : Tok)]) ⟨hsc, by dsimp only; omega, hl1, by dsimp only; omega, by dsimp only; rw [List.length_append, List.length_singleton]; omega⟩ (by dsimp only; omega) ?_ ?_
                    · exact bc_ 0 r_ sub_end
                    · (repeat (first | exact True.intro | refine ⟨rfl, ?_⟩))
            · refine R_ (M_ r_ (o_ r_ (bm_ r_ (rdigit_c _) (E_ r_ (T_ (jc_cond rfl (fun hD => ?_) (fun hD => ?_)))))))
              · have hn0 : nameLen (s.extract k s.size) = 0 := by
                  unfold nameLen
                  rw [if_neg]
                  rintro ⟨_, h⟩
                  rw [byteAt_extract, Nat.add_zero, hL] at h
                  cases h
                refine B_ (jc_loopS [] (fun j : Nat => k + j ≤ s.size ∧ ∀ i, i < j → isD (byteAt s (k + i)) = true) (fun j => [(0, Str s), (2, S.cell (C.val (.slice none 0 0))), (5, .cell (.val v)), (6, In .i64 line), (7, In .i64 (k : Int)), (9, In .i64 ((k + j : Nat) : Int))]) (fun _ => [.own v 76 4 (out.map Tok.row)]) (fun j => s.size - (k + j)) 0 ⟨by omega, fun j h => by omega⟩ ?_ ?_ ?_)
                · exact bc_ 0 r_ sub_end
                · (repeat (first | exact True.intro | refine ⟨rfl, ?_⟩))
                · rintro j ⟨hkj, hall⟩
                  refine jc_reset [(0, Str s), (2, S.cell (C.val (.slice none 0 0))), (5, .cell (.val v)), (6, In .i64 line), (7, In .i64 (k : Int)), (9, In .i64 ((k + j : Nat) : Int))] [.own v 76 4 (out.map Tok.row)] ?_ ⟨[0], [], rfl⟩ ?_
                  · (repeat (first | exact True.intro | refine ⟨rfl, ?_⟩))
                  by_cases hlt2 : ((k + j : Nat) : Int) < (s.size : Int)
                  · refine am_ (R_ (M_ r_ (M_ r_ (o_ r_ (co_ r_ r_ (o_ r_ (bw_ r_ r_ (M_ r_ (ah_ r_ u_ b_ (bd_ r_ (ah_ r_ u_ b_ (bd_ r_ (ah_ r_ u_ b_ (ow_indexStr r_ r_ r_ g_ g_ (ah_ r_ u_ b_ (bm_ r_ (rdigit_c _) (o_ r_ (bp_ r_ u_ r_ (T_ (jc_cond rfl (fun hb => ?_) (fun hb => ?_)))))))))))))))))))))
                    · refine as_ (al_ (au_ (an_ (M_ r_ (o_ r_ (bj_ r_ r_ g_ (E_ r_ (ak_ (ay_ (jq_againS (j + 1) ⟨by omega, fun i hi => ?_⟩ g_ ?_ ?_))))))))))
                      · by_cases hij : i < j
                        · exact hall i hij
                        · obtain rfl : i = j := by omega
                          exact hb
                      · exact bc_ 0 r_ sub_end
                      · (repeat (first | exact True.intro | refine ⟨rfl, ?_⟩))
                    · have hjp : 0 < j := by
                        rcases Nat.eq_zero_or_pos j with h | h
                        · subst h
                          exact absurd (show isD (byteAt s k) = true from hD) (by rw [show isD (byteAt s k) = false from hb]; simp)
                        · exact h
                      have hj : runLen isD (s.extract k s.size) = j := runLen_eq (fun i hi => by rw [byteAt_extract]; exact hall i hi) (by omega) (fun _ => by rw [byteAt_extract]; exact hb)
                      have hdig := run_dig (s.extract k s.size)
                      rw [hj, extract_extract s k j (by omega)] at hdig
                      have hzz : (s.extract k (k + j)).size ≤ 1000000 := by rw [extract_size _ _ _ (by omega)]; omega
                      have hv := value_c (s.extract k (k + j)) hzz hdig
                      have hvb := numVal_bd _ hdig
                      have hnx : nextT (s.extract k s.size) = if 2147483647 < numVal (bytesI (s.extract k (k + j))) then ((0, 0, ⟨#[]⟩), 0) else ((2, numVal (bytesI (s.extract k (k + j))), ⟨#[]⟩), j) := by
                        unfold nextT
                        rw [if_neg (by omega), if_pos (by omega), hj, extract_extract s k j (by omega)]
                      by_cases hbig : 2147483648 ≤ numVal (bytesI (s.extract k (k + j)))
                      · rw [if_pos hbig] at hv
                        rw [if_pos (by omega)] at hnx
                        rw [hnx] at hsc
                        refine av_ (ax_ (ax_ (ba_ (al_ (R_ (M_ r_ (M_ r_ (M_ r_ (o_ r_ (ow_substr r_ r_ r_ r_ g_ g_ g_ (o_ r_ (bm_ r_ (hv) (E_ r_ (T_ (am_ (R_ (M_ r_ ?_)))))))))))))))))
                        refine o_ r_ (bw_ r_ r_ (T_ (jc_condd rfl (fun _ => R_ (M_ r_ (E_ r_ (E_ r_ (E_ r_ (T_ (ar_ (aw_ (az_ (aw_ (az_ (aw_ (az_ ?_))))))))))))) (fun h => absurd (by decide) h))))
                        refine aw_ ?_
                        have e : scan s = ([], line, 1) := by rw [← hsc, dif_pos rfl]
                        exact jq_ownNil 76 4 g_ (jq_freeze 2 0 rfl rfl (by rw [hc]; simp [Go.Vc.hb]) (jq_ret3 rfl rfl rfl rfl (fun K h => by rw [e] at h; exact h) sub_end))
                      · rw [if_neg hbig] at hv
                        rw [if_neg (by omega)] at hnx
                        rw [hnx] at hsc
                        dsimp only at hsc
                        rw [dif_neg (by omega)] at hsc
                        refine av_ (ax_ (ax_ (ba_ (al_ (R_ (M_ r_ (M_ r_ (M_ r_ (o_ r_ (ow_substr r_ r_ r_ r_ g_ g_ g_ (o_ r_ (bm_ r_ (hv) (E_ r_ (T_ (am_ (R_ (M_ r_ ?_)))))))))))))))))
                        refine o_ r_ (bw_ r_ r_ (T_ (jc_condd rfl (fun h => absurd h g_) (fun _ => as_ (al_ (an_ (M_ r_ (M_ r_ (M_ r_ (o_ r_ (bu_ r_ r_ r_ r_ r_ (o_ r_ (bq_ r_ r_ b_ r_ r_ b_ ?_)))))))))))))
                        refine o_ r_ (ow_append1 0 ((⟨2, numVal (bytesI (s.extract k (k + j))), line, ⟨#[]⟩⟩ : Tok)) rfl rfl rfl rfl rfl rfl rfl (fun _ => rfl) (by show (_ + _) * 40 ≤ _; first | omega | (simp only [List.length_append]; omega)) (by first | omega | (simp only [List.length_append]; omega)) (fun v1 hv1 => E_ r_ (ak_ (ay_ (al_ (an_ (M_ r_ (E_ r_ (ak_ (ay_ ?_))))))))))
                        refine jq_againS (i := (k, line, v, out)) (k + j, line, v1, out ++ [(⟨2, numVal (bytesI (s.extract k (k + j))), line, ⟨#[]⟩⟩ : Tok)]) ⟨hsc, by dsimp only; omega, hl1, by dsimp only; omega, by dsimp only; rw [List.length_append, List.length_singleton]; omega⟩ (by dsimp only; omega) ?_ ?_
                        · exact bc_ 0 r_ sub_end
                        · (repeat (first | exact True.intro | refine ⟨rfl, ?_⟩))
                  · refine am_ (R_ (M_ r_ (M_ r_ (o_ r_ (co_ r_ r_ (o_ r_ (bw_ r_ r_ (M_ r_ (ai_ r_ w_ b_ (ai_ r_ w_ b_ (ai_ r_ w_ b_ (ai_ r_ w_ b_ (o_ r_ (bv_ r_ w_ r_ (T_ (jc_cond rfl (fun h => by cases h) (fun _ => ?_)))))))))))))))))
                    have hjp : 0 < j := by omega
                    have hj : runLen isD (s.extract k s.size) = j := runLen_eq (fun i hi => by rw [byteAt_extract]; exact hall i hi) (by omega) (fun h => by omega)
                    have hdig := run_dig (s.extract k s.size)
                    rw [hj, extract_extract s k j (by omega)] at hdig
                    have hzz : (s.extract k (k + j)).size ≤ 1000000 := by rw [extract_size _ _ _ (by omega)]; omega
                    have hv := value_c (s.extract k (k + j)) hzz hdig
                    have hvb := numVal_bd _ hdig
                    have hnx : nextT (s.extract k s.size) = if 2147483647 < numVal (bytesI (s.extract k (k + j))) then ((0, 0, ⟨#[]⟩), 0) else ((2, numVal (bytesI (s.extract k (k + j))), ⟨#[]⟩), j) := by
                      unfold nextT
                      rw [if_neg (by omega), if_pos (by omega), hj, extract_extract s k j (by omega)]
                    by_cases hbig : 2147483648 ≤ numVal (bytesI (s.extract k (k + j)))
                    · rw [if_pos hbig] at hv
                      rw [if_pos (by omega)] at hnx
                      rw [hnx] at hsc
                      refine av_ (ax_ (ax_ (ba_ (al_ (R_ (M_ r_ (M_ r_ (M_ r_ (o_ r_ (ow_substr r_ r_ r_ r_ g_ g_ g_ (o_ r_ (bm_ r_ (hv) (E_ r_ (T_ (am_ (R_ (M_ r_ ?_)))))))))))))))))
                      refine o_ r_ (bw_ r_ r_ (T_ (jc_condd rfl (fun _ => R_ (M_ r_ (E_ r_ (E_ r_ (E_ r_ (T_ (ar_ (aw_ (az_ (aw_ (az_ (aw_ (az_ ?_))))))))))))) (fun h => absurd (by decide) h))))
                      refine aw_ ?_
                      have e : scan s = ([], line, 1) := by rw [← hsc, dif_pos rfl]
                      exact jq_ownNil 76 4 g_ (jq_freeze 2 0 rfl rfl (by rw [hc]; simp [Go.Vc.hb]) (jq_ret3 rfl rfl rfl rfl (fun K h => by rw [e] at h; exact h) sub_end))
                    · rw [if_neg hbig] at hv
                      rw [if_neg (by omega)] at hnx
                      rw [hnx] at hsc
                      dsimp only at hsc
                      rw [dif_neg (by omega)] at hsc
                      refine av_ (ax_ (ax_ (ba_ (al_ (R_ (M_ r_ (M_ r_ (M_ r_ (o_ r_ (ow_substr r_ r_ r_ r_ g_ g_ g_ (o_ r_ (bm_ r_ (hv) (E_ r_ (T_ (am_ (R_ (M_ r_ ?_)))))))))))))))))
                      refine o_ r_ (bw_ r_ r_ (T_ (jc_condd rfl (fun h => absurd h g_) (fun _ => as_ (al_ (an_ (M_ r_ (M_ r_ (M_ r_ (o_ r_ (bu_ r_ r_ r_ r_ r_ (o_ r_ (bq_ r_ r_ b_ r_ r_ b_ ?_)))))))))))))
                      refine o_ r_ (ow_append1 0 ((⟨2, numVal (bytesI (s.extract k (k + j))), line, ⟨#[]⟩⟩ : Tok)) rfl rfl rfl rfl rfl rfl rfl (fun _ => rfl) (by show (_ + _) * 40 ≤ _; first | omega | (simp only [List.length_append]; omega)) (by first | omega | (simp only [List.length_append]; omega)) (fun v1 hv1 => E_ r_ (ak_ (ay_ (al_ (an_ (M_ r_ (E_ r_ (ak_ (ay_ ?_))))))))))
                      refine jq_againS (i := (k, line, v, out)) (k + j, line, v1, out ++ [(⟨2, numVal (bytesI (s.extract k (k + j))), line, ⟨#[]⟩⟩ : Tok)]) ⟨hsc, by dsimp only; omega, hl1, by dsimp only; omega, by dsimp only; rw [List.length_append, List.length_singleton]; omega⟩ (by dsimp only; omega) ?_ ?_
                      · exact bc_ 0 r_ sub_end
                      · (repeat (first | exact True.intro | refine ⟨rfl, ?_⟩))
              · have hn0 : nameLen (s.extract k s.size) = 0 := by
                  unfold nameLen
                  rw [if_neg]
                  rintro ⟨_, h⟩
                  rw [byteAt_extract, Nat.add_zero, hL] at h
                  cases h
                have hr0 : runLen isD (s.extract k s.size) = 0 := runLen_eq (fun j hj => by omega) (Nat.zero_le _) (fun _ => by rw [byteAt_extract, Nat.add_zero]; exact hD)
                have hnx : nextT (s.extract k s.size) = ((3, 0, (s.extract k s.size).extract 0 (signLen (s.extract k s.size))), signLen (s.extract k s.size)) := by
                  unfold nextT
                  rw [if_neg (by omega), if_neg (by omega)]
                have hxs : (s.extract k s.size).size ≤ 1000000 := by omega
                refine R_ (M_ r_ (M_ r_ (o_ r_ (ow_substrLo r_ r_ r_ g_ g_ (o_ r_ (bm_ r_ (rsign_c _ hxs) (E_ r_ (T_ (am_ (R_ (M_ r_ (o_ r_ (cs_ r_ r_ (T_ ?_))))))))))))))
                have hsl := signLen_le (s.extract k s.size)
                have hrs := rsign_eq (s.extract k s.size)
                have hrz : (rsign (s.extract k s.size)).size = signLen (s.extract k s.size) := by rw [hrs, extract_size _ _ _ hsl]; omega
                have e1 : rsign (s.extract (k : Int).toNat s.size) = rsign (s.extract k s.size) := rfl
                rw [hnx] at hsc
                dsimp only at hsc
                rw [e1]
                refine jc_condd rfl (fun h0 => ?_) (fun h0 => ?_)
                · refine R_ (M_ r_ (E_ r_ (E_ r_ (E_ r_ (T_ (ar_ (aw_ (az_ (aw_ (az_ (aw_ (az_ (aw_ ?_)))))))))))))
                  have e : scan s = ([], line, 1) := by rw [← hsc, dif_pos (by rw [← hrz]; exact (empty_iff _).1 h0)]
                  exact jq_ownNil 76 4 g_ (jq_freeze 2 0 rfl rfl (by rw [hc]; simp [hb]) (jq_ret3 rfl rfl rfl rfl (fun K h => by rw [e] at h; exact h) sub_end))
                · have hz : ¬ signLen (s.extract k s.size) = 0 := by rw [← hrz]; exact fun h => h0 ((empty_iff _).2 h)
                  rw [dif_neg hz] at hsc
                  refine as_ (al_ (R_ (M_ r_ (M_ r_ (o_ r_ (co_ r_ r_ (o_ r_ (bj_ r_ r_ g_ (E_ r_ (T_ (an_ (M_ r_ (M_ r_ (M_ r_ (o_ r_ (bu_ r_ r_ r_ r_ r_ (o_ r_ (bq_ r_ r_ b_ r_ r_ b_ ?_))))))))))))))))))
                  refine o_ r_ (ow_append1 0 ((⟨3, 0, line, rsign (s.extract k s.size)⟩ : Tok)) rfl rfl rfl rfl rfl rfl rfl (fun _ => rfl) (by show (_ + _) * 40 ≤ _; first | omega | (simp only [List.length_append]; omega)) (by first | omega | (simp only [List.length_append]; omega)) (fun v1 hv1 => E_ r_ (ak_ (ay_ (al_ (an_ (M_ r_ (E_ r_ (ak_ (ay_ ?_))))))))))
                  rw [← hrs] at hsc
                  refine jq_againS (i := (k, line, v, out)) (k + signLen (s.extract k s.size), line, v1, out ++ [(⟨3, 0, line, rsign (s.extract k s.size)⟩ : Tok)]) ⟨hsc, by dsimp only; omega, hl1, by dsimp only; omega, by dsimp only; rw [List.length_append, List.length_singleton]; omega⟩ (by dsimp only; omega) ?_ ?_
                  · exact bc_ 0 r_ sub_end
                  · rw [show ((k + signLen (s.extract k s.size) : Nat) : Int) = (k : Int) + ((rsign (s.extract k s.size)).size : Int) by omega]
                    (repeat (first | exact True.intro | refine ⟨rfl, ?_⟩))
      · refine av_ (ax_ (ax_ (ba_ (al_ (R_ (M_ r_ (E_ r_ (E_ r_ (E_ r_ (T_ (ar_ ?_)))))))))))
        have e : scan s = (out, 0, 0) := by rw [← hsc, scanGo, dif_neg (by omega)]
        exact jq_freeze 2 0 rfl rfl (by rw [hc]; simp [hb]) (jq_ret3 rfl rfl rfl rfl (fun K h => by rw [e] at h; exact h) sub_end)
end Go.Proofs.YtamajcgdfjeehaaDoor
end

section
namespace Go.Proofs.YtamajcgdfjeehaaDoor
open Go.Vc
set_option maxHeartbeats 1000000

/-! The tokens of a text: no name is a brace -/
theorem byteAt_pre (s : ByteArray) (n : Nat) (h : 0 < n) : byteAt (s.extract 0 n) 0 = byteAt s 0 := by
  rw [byteAt_getD, byteAt_getD, extract_bytes, List.drop_zero, List.getD_eq_getElem?_getD, List.getD_eq_getElem?_getD, List.getElem?_take_of_lt (by omega)]
theorem nextT_nm {s : ByteArray} (h : (nextT s).1.1 = 1) : ¬ (nextT s).1.2.2 = Kcb := by
  unfold nextT at h ⊢
  by_cases h1 : 0 < nameLen s
  · rw [if_pos h1] at h ⊢
    by_cases h2 : 12 < nameLen s
    · rw [if_pos h2] at h; exact absurd h (by decide)
    · rw [if_neg h2]
      intro e
      have hb := byteAt_pre s (nameLen s) h1
      rw [show s.extract 0 (nameLen s) = Kcb from e] at hb
      have h3 : isL (byteAt s 0) = true := by
        unfold nameLen at h1
        split at h1
        · rename_i h; exact h.2
        · omega
      rw [← hb] at h3
      exact absurd h3 (by decide +kernel)
  · rw [if_neg h1] at h
    split at h
    · split at h
      · exact absurd (show (0 : Int) = 1 from h) (by decide)
      · exact absurd (show (2 : Int) = 1 from h) (by decide)
    · exact absurd (show (3 : Int) = 1 from h) (by decide)
def TokOk (t : Tok) : Prop := t.kind = 1 → ¬ t.text = Kcb
theorem scanGo_toks (s : ByteArray) : ∀ (m k : Nat) (line : Int) (out : List Tok), s.size - k ≤ m → (∀ t ∈ out, TokOk t) → ∀ t ∈ (scanGo s k line out).1, TokOk t
  | 0, k, line, out, h, ho => by
    rw [scanGo, dif_neg (by omega)]
    exact ho
  | m + 1, k, line, out, h, ho => by
    rw [scanGo]
    split
    · split
      · exact scanGo_toks s m _ _ _ (by omega) ho
      · split
        · exact scanGo_toks s m _ _ _ (by omega) ho
        · split
          · intro t ht; cases ht
          · rename_i hn
            refine scanGo_toks s m _ _ _ (by omega) ?_
            intro t ht
            rcases List.mem_append.1 ht with ht | ht
            · exact ho t ht
            · obtain rfl := List.mem_singleton.1 ht
              exact fun hk => nextT_nm hk
    · exact ho
theorem scan_nm (s : ByteArray) : NmOk (scan s).1 := by
  have hq : ∀ t ∈ (scan s).1, TokOk t := by
    unfold scan
    split
    · intro t ht; cases ht
    · exact scanGo_toks s s.size 0 1 [] (by omega) (fun t ht => by cases ht)
  intro a ha
  have hlt := isNm_lt ha
  rw [isNm_get hlt] at ha
  rw [isA_get _ hlt]
  simp only [Bool.and_eq_true, decide_eq_true_eq] at ha
  rw [decide_eq_false (hq _ (List.getElem_mem hlt) ha.1), Bool.and_false]
end Go.Proofs.YtamajcgdfjeehaaDoor
end

section
namespace Go.Proofs.YtamajcgdfjeehaaDoor
open Go.Vc
attribute [local irreducible] JL JC JQ OpWp Con ConN Pan ConE OpPan HP HT HOk ConD JLD JCD JQD
set_option maxHeartbeats 4000000

/-! The program's try: what it tells of how a function ended -/
theorem try1_idle (b1 b2 : Nat) : ConD Tryd.prog 73 [Ptr b1, Ptr b2] [] .returning .returning [] := by
  exact cond_intro Tryd.func73 rfl rfl (Nat.le_of_ble_eq_true rfl) (fun c hc c₀ cs hu a w hs => wps_recover (v := .nilIface) hs (nb rfl) (nb rfl) rfl (.inr ⟨by simp [recoverD, hu], rfl, rfl⟩) (R_ (M_ r_ (o_ r_ (ow_neqNilIface r_ r_ (T_ (ap_ r_ r_ (as_ (jq_retD rfl (by rw [← hu]) sub_end)))))))))
theorem try1_pan (b1 b2 : Nat) (n code : Int) : ConD Tryd.prog 73 [Ptr b1, Ptr b2] [.blk b1 96 [.val (.int .i64 0), .val (.int .i64 0)], .blk b2 4 [.val (.bool false)]]
    (.panicking [{ v := .iface 96 (.agg #[.int .i64 n, .int .i64 code]), recovered := false }]) (.panicking [{ v := .iface 96 (.agg #[.int .i64 n, .int .i64 code]), recovered := true }])
    [.blk b1 96 [.val (.int .i64 n), .val (.int .i64 code)], .blk b2 4 [.val (.bool true)]] := by
  refine cond_intro Tryd.func73 rfl rfl (Nat.le_of_ble_eq_true rfl) (fun c hc c₀ cs hu a w hs => wps_recover (v := .iface 96 (.agg #[.int .i64 n, .int .i64 code])) (cs' := { c₀ with mode := .panicking [{ v := .iface 96 (.agg #[.int .i64 n, .int .i64 code]), recovered := true }] } :: cs) hs (nb rfl) (nb rfl) rfl (.inl (by simp [recoverD, hu])) (R_ (M_ r_ (o_ r_ (ow_neqIface r_ r_ (T_ (aq_ r_ r_ (an_ (M_ r_ ?_)))))))))
  exact o_ r_ (ow_typeAssert (vs := [.int .i64 n, .int .i64 code]) r_ r_ r_ (S_ 0 r_ (W_ 1 r_ (ak_ (jq_retD rfl rfl (bc_ 1 r_ (bc_ 0 r_ sub_end)))))))
abbrev Zp : List C := [.val (.slice none 0 0), .val (.slice none 0 0), .val (.slice none 0 0)]
abbrev tfv (bp bo : Nat) : Value := .func (.func 45) #[] #[.pointer (some ⟨bp, 0, none⟩), .pointer (some ⟨bo, 0, none⟩)]
abbrev Tin (l : List Tok) (b bp bo : Nat) : List Ch := [.blk bp 70 [.val (.pointer (some ⟨b, 0, none⟩))], .blk bo 40 Zp, Pz b l 0]
theorem try_ret {l : List Tok} {b bp bo : Nat} {Hout : List Ch} (con : Con Tryd.prog 45 [Ptr bp, Ptr bo] (Tin l b bp bo) (fun K => K (.tup []) Hout)) (hO : ∃ x y z, Hout = [x, y, z]) :
    Con Tryd.prog 44 [.cell (.val (tfv bp bo))] (Tin l b bp bo) (fun K => K (.tup [.row [.val (.int .i64 0), .val (.int .i64 0)], Bl false]) Hout) := by
  obtain ⟨hx, hy, hz, rfl⟩ := hO
  refine con_introD Tryd.func44 rfl rfl (Nat.le_of_ble_eq_true rfl) (fun c hc => R_ (o_ r_ (bl_ r_ r_ (fun bl => o_ r_ (bl_ r_ r_ (fun bl => T_ (R_ (o_ r_ (ow_makeFunc r_ ?_)))))))))
  rename_i b1
  refine jl_defer rfl (jld_nil (jq_thenD (jcd_seq (jcd_region (jld_op (bd_ rfl (jld_op (cx_ (cs := [Ptr _, Ptr _]) [2, 2, 2] rfl rfl (fun _ _ => ⟨_, _, rfl, ⟨rfl, rfl⟩, _, _, rfl, ⟨rfl, rfl⟩, rfl⟩) rfl con (jld_nil (jq_thenD (jcd_seq (jcd_region (jld_op (bu_ rfl rfl rfl rfl rfl ?_) (nb rfl) (fun _ _ _ _ _ => nd_build))))))) (nb rfl) (nd_callv rfl))) (nb rfl) (fun _ _ _ _ _ => nd_move))))))
  exact jld_op0 (bk_ 4 rfl rfl rfl rfl rfl rfl (jld_op0 (ca_ 4 rfl rfl rfl rfl (nb rfl) (jld_nil (jq_thenD (jcd_ret (jqd_ret (ss := [Ptr b1, Ptr bl]) [] rfl (fun _ _ => ⟨_, _, rfl, ⟨rfl, rfl⟩, _, _, rfl, ⟨rfl, rfl⟩, rfl⟩) (try1_idle b1 bl) (jq_retRowC rfl rfl rfl rfl rfl rfl 1 0 rfl rfl (fun K h => h) (bc_ 2 r_ (bc_ 2 r_ (bc_ 2 r_ sub_end))))))))) (fun _ _ _ _ _ => nd_store))) (fun _ _ _ _ _ => nd_store)
theorem try_pan {l : List Tok} {b bp bo : Nat} {n code : Int} (con : Pan Tryd.prog 45 [Ptr bp, Ptr bo] (Tin l b bp bo) (.iface 96 (.agg #[.int .i64 n, .int .i64 code]))) :
    Con Tryd.prog 44 [.cell (.val (tfv bp bo))] (Tin l b bp bo) (fun K => K (.tup [.row [.val (.int .i64 n), .val (.int .i64 code)], Bl true]) []) := by
  refine con_introD Tryd.func44 rfl rfl (Nat.le_of_ble_eq_true rfl) (fun c hc => R_ (o_ r_ (bl_ r_ r_ (fun bl => o_ r_ (bl_ r_ r_ (fun bl => T_ (R_ (o_ r_ (ow_makeFunc r_ ?_)))))))))
  rename_i b1
  refine jl_defer rfl (jld_nil (jq_thenD (jcd_seq (jcd_region (jld_op (bd_ rfl (jld_pan (ss := [Ptr b1, Ptr bl]) (cs := [Ptr _, Ptr _]) (is := [2, 2, 2]) (is' := [1, 0]) rfl (fun _ _ => ⟨_, _, rfl, ⟨rfl, rfl⟩, _, _, rfl, ⟨rfl, rfl⟩, rfl⟩) rfl con rfl rfl (fun _ _ => ⟨_, _, rfl, ⟨rfl, rfl⟩, _, _, rfl, ⟨rfl, rfl⟩, rfl⟩) (try1_pan b1 bl n code) (fun _ _ => rfl) ?_)) (nb rfl) (fun _ _ _ _ _ => nd_move))))))
  exact jq_retRowC rfl rfl rfl rfl rfl rfl 0 1 rfl rfl (fun K h => h) sub_end
end Go.Proofs.YtamajcgdfjeehaaDoor
end

section
namespace Go.Proofs.YtamajcgdfjeehaaDoor
open Go.Vc
set_option maxHeartbeats 4000000

/-! Programs -/
def pgB (l : List Tok) (r : List ByteArray) (s : List Shd) (b : Nat) : R Pg := (tasksL l (l.length + 1) b []).bind fun t b => .ok ⟨r, s, t⟩ b
def pgA (l : List Tok) (r : List ByteArray) (b : Nat) : R Pg := (lpG l Kshared (shG l) (l.length + 1) b []).bind fun s b => pgB l r s b
theorem progG_eq (l : List Tok) : progG l = (lpG l Kresource (nmG l) (l.length + 1) 0 []).bind fun r b => pgA l r b := rfl
theorem tasksL_stop {l : List Tok} {a : Nat} (h : ¬ a < l.length) (n : Nat) (acc : List Tk) : tasksL l n a acc = .ok acc a := by
  cases n with
  | zero => rw [tasksL]
  | succ n => rw [tasksL, if_neg h]
theorem tasksL_go {β : Type} {l : List Tok} {a n : Nat} (h : a < l.length) (hn : l.length - a ≤ n) (acc : List Tk) (K : List Tk → Nat → R β) : (tasksL l n a acc).bind K = (wdG l Ktask a).bind fun _ b => (taskG l b).bind fun t c => (tasksL l (n - 1) c (acc ++ [t])).bind K := by
  obtain ⟨n, rfl⟩ : ∃ m, n = m + 1 := ⟨n - 1, by omega⟩
  rw [tasksL, if_pos h]
  simp only [R.bind_assoc]
  rfl
abbrev PgS (p : Pg) : S := .row p.row
theorem scanGo_len (s : ByteArray) : ∀ (m k : Nat) (line : Int) (out : List Tok), s.size - k ≤ m → (scanGo s k line out).1.length ≤ out.length + m
  | 0, k, line, out, h => by
    rw [scanGo, dif_neg (by omega)]
    exact Nat.le_refl _
  | m + 1, k, line, out, h => by
    rw [scanGo]
    split
    · split
      · have := scanGo_len s m (k + 1) (line + 1) out (by omega); omega
      · split
        · have := scanGo_len s m (k + 1) line out (by omega); omega
        · split
          · exact Nat.zero_le _
          · rename_i hn
            refine Nat.le_trans (scanGo_len s m _ _ _ (by omega)) ?_
            simp only [List.length_append, List.length_singleton]
            omega
    · exact Nat.le_add_right _ _
theorem scan_len (s : ByteArray) : (scan s).1.length ≤ 1000000 := by
  unfold scan
  split
  · exact Nat.zero_le _
  · have := scanGo_len s s.size 0 1 [] (by omega)
    simp only [List.length_nil] at this
    omega
def PRow : Option Pg → List C
  | none => Zp
  | some p => p.row
end Go.Proofs.YtamajcgdfjeehaaDoor
end

section
namespace Go.Proofs.YtamajcgdfjeehaaDoor
open Go.Vc
set_option maxHeartbeats 4000000

/-! The reference's programs -/
theorem tasksL_lp {l : List Tok} : ∀ (n a : Nat) (acc : List Tk), a ≤ l.length → l.length - a ≤ n → tasksL l n a acc = (lpG l Ktask (taskG l) n a acc).bind fun ts b => if b < l.length then .er 1 b else .ok ts b
  | 0, a, acc, h1, h2 => by
    rw [tasksL, lpG, bind_okE, if_neg (by omega)]
  | n + 1, a, acc, h1, h2 => by
    rw [tasksL, lpG]
    by_cases hlt : a < l.length
    · rw [if_pos hlt]
      cases h : isA l a Ktask with
      | true =>
        rw [if_pos rfl, wdG_y h, bind_okE]
        cases ht : taskG l (a + 1) with
        | er code p => rfl
        | ok t c =>
          have := taskG_bd _ _ ht
          rw [bind_okE, bind_okE]
          exact tasksL_lp n c _ g_ g_
      | false =>
        rw [if_neg (by decide), wdG_n h, bind_okE, if_pos hlt]; rfl
    · rw [if_neg hlt, if_neg (by rw [isA_end _ hlt]; decide), bind_okE, if_neg hlt]
/-- The end of a program: behind its last task nothing stands. -/
def endG (l : List Tok) (r : List ByteArray) (s : List Shd) (ts : List Tk) (b : Nat) : R Pg := if b < l.length then .er 1 b else .ok ⟨r, s, ts⟩ b
theorem pgB_eq {l : List Tok} {r : List ByteArray} {s : List Shd} {b : Nat} (h : b ≤ l.length) : pgB l r s b = (lpG l Ktask (taskG l) (l.length + 1) b []).bind fun ts b => endG l r s ts b := by
  rw [pgB, tasksL_lp _ _ _ h (by omega), R.bind_assoc]
  congr 1
  funext ts b
  unfold endG
  split <;> rfl
theorem rz_pgB {l : List Tok} {r : List ByteArray} {s : List Shd} {σ : Z} (h : σ.ok l) : rz (fun b => pgB l r s b) σ = rz (fun b => (lpG l Ktask (taskG l) (l.length + 1) b []).bind fun ts b => endG l r s ts b) σ := by
  cases σ with
  | n a => exact pgB_eq h
  | e a q code => rfl
/-- What is left of a program's parsing, at its end. -/
theorem parse_ok {s : ByteArray} {p : Pg} {c : Nat} (h0 : (scan s).2.2 = 0) (h : progG (scan s).1 = .ok p c) : parseF s = (some p, 0, 0) := by unfold parseF; rw [if_pos h0, h]
theorem parse_er {s : ByteArray} {code : Int} {q : Nat} (h0 : (scan s).2.2 = 0) (h : progG (scan s).1 = .er code q) : parseF s = (none, lineAt (scan s).1 q, code) := by unfold parseF; rw [if_pos h0, h]
theorem ot_rows (acc : List Tk) : (acc.map some).map oTk = acc.map Tk.row := by rw [List.map_map]; rfl
attribute [local irreducible] JL JC JQ OpWp Con ConN Pan ConE OpPan HP HT HOk hasW idxW isA isNum isNm numAt txtAt lineAt opAt lx lpx sx sxp exG startA stmtG stmtsL blkG wdG nmG nuG nbG lpG dcG stG taskG tasksL pgA pgB endG scan
theorem rProgram_c (s : ByteArray) : Con Tryd.prog 42 [Str s] [] (fun K => K (.tup [.row (PRow (parseF s).1), In .i64 (parseF s).2.1, In .i64 (parseF s).2.2]) []) := by
  have hl := scan_len s
  have hS := rScan_c s
  have hO := fun p c => parse_ok (s := s) (p := p) (c := c)
  have hE := fun code q => parse_er (s := s) (code := code) (q := q)
  have hD : ¬ (scan s).2.2 = 0 → parseF s = (none, (scan s).2.1, (scan s).2.2) := fun h => by unfold parseF; rw [if_neg h]
  generalize parseF s = pf at hO hE hD ⊢
  generalize scan s = sc at hl hS hO hE hD
  obtain ⟨l, ln, er⟩ := sc
  dsimp only at hl hS hO hE hD
  generalize hr : progG l = r at hO hE
  refine con_intro Tryd.func42 rfl rfl (Nat.le_of_ble_eq_true rfl) (fun c hc => ?_)
  by_cases he : er = 0
  · have e : r = rz (fun b => (lpG l Kresource (nmG l) (l.length + 1) b []).bind fun x b => pgA l x b) (.n 0) := by rw [← hr, progG_eq]; rfl
    have hO := fun p c => hO p c he
    have hE := fun code q => hE code q he
    have he2 : ¬ ¬ er = 0 := fun h => h he
    clear hD hr
    have eL : (l.map Tok.row).length = l.length := List.length_map _
    refine R_ (o_ r_ (bl_ r_ r_ (fun bl => E_ r_ (E_ r_ (T_ (R_ (M_ r_ (o_ r_ (bm_ r_ (hS) (M_ r_ (X_ r_ (X_ r_ (X_ r_ (E_ r_ (E_ r_ (E_ r_ (T_ ?_)))))))))))))))))
    refine am_ (R_ (M_ r_ (o_ r_ (bx_ r_ r_ (T_ (ap_ r_ w_ (as_ (al_ (R_ (M_ r_ (o_ r_ (bu_ r_ r_ r_ r_ r_ (o_ r_ (ci_ r_ (fun bx => E_ r_ (T_ (R_ (o_ r_ (bl_ r_ r_ (fun bl => ?_))))))))))))))))))))
    refine T_ (B_ ?_)
    rename_i bR
    revert bl
    intro bT
    revert bx
    intro bP
    refine jc_ownNil 9 1 g_ ?_
    refine jc_loopS (ι := List ByteArray × Z × Nat × Value) [] (fun i => i.2.1.ok l ∧ mu l i.2.1 ≤ l.length + 1 ∧ mu l i.2.1 ≤ i.2.2.1 ∧ i.1.length + mu l i.2.1 ≤ l.length + 1 ∧ r = rz (fun b => (lpG l Kresource (nmG l) i.2.2.1 b i.1).bind fun x b => pgA l x b) i.2.1)
      (fun i => [(2, Ptr bR), (5, .cell (.list (l.map Tok.row))), (8, Ptr bP), (9, Ptr bT)]) (fun i => [RZ bP l i.2.1, .blk bR 40 Zp, .blk bT 40 [.val i.2.2.2, .val (.slice none 0 0), .val (.slice none 0 0)], .own i.2.2.2 9 1 (i.1.map Wrow)]) (fun i => mu l i.2.1) ([], .n 0, l.length + 1, .slice none 0 0) ⟨Nat.zero_le _, mu_le _ _, mu_le _ _, by dsimp only [List.length_nil]; have := mu_le l (.n 0); omega, e⟩ ?_ ?_ ?_
    · exact bc_ 2 r_ (bc_ 2 r_ (bc_ 1 r_ (bc_ 0 r_ sub_end)))
    · (repeat (first | exact True.intro | refine ⟨rfl, ?_⟩))
    clear e
    rintro ⟨l0, z0, n0, v0⟩ ⟨i0, i1, i2, i3, e⟩
    dsimp only at i0 i1 i2 i3 e ⊢
    refine jc_reset [(2, Ptr bR), (5, .cell (.list (l.map Tok.row))), (8, Ptr bP), (9, Ptr bT)] [RZ bP l z0, .blk bR 40 Zp, .blk bT 40 [.val v0, .val (.slice none 0 0), .val (.slice none 0 0)], .own v0 9 1 (l0.map Wrow)] ?_ ⟨[0, 0, 0, 0], [], rfl⟩ ?_
    · (repeat (first | exact True.intro | refine ⟨rfl, ?_⟩))
    cases h : isZ l z0 Kresource with
    | true =>
      obtain ⟨c, rfl⟩ := isZ_n h
      have hlt := isA_lt h
      have e : r = (lpG l Kresource (nmG l) n0 c l0).bind _ := e
      have hm : mu l (.n c) = l.length - c + 1 := rfl
      have hm1 : mu l (.n (c + 1)) = l.length - (c + 1) + 1 := rfl
      have h0 : (Z.n (c + 1)).ok l := hlt
      rw [lpG_go h (by omega)] at e
      have e := rz_in (g := nmG l) e
      refine am_ (R_ (M_ r_ (o_ r_ (bi_ [0] r_ r_ (rskip_y hl i0 h) (T_ (aq_ r_ r_ (as_ (al_ (au_ (jc_hpV 6 (n := 8) rfl 2 [v0, .slice none 0 0, .slice none 0 0] k_ rfl rfl (df_ (i := 0) rfl k_ k_ k_ b_ (by (repeat (first | refine pani_then ?_ | refine pani_block ?_)); exact pani_body) (dl_ rfl rfl rfl b_) ?_)))))))))))
      refine df_ (i := 1) rfl k_ k_ k_ b_ (by (repeat (first | refine pani_then ?_ | refine pani_block ?_)); exact pani_body) (dm_ 2 rfl rfl rfl mem0 rfl) ?_
      refine df_ (i := 2) rfl k_ k_ k_ b_ (by (repeat (first | refine pani_then ?_ | refine pani_block ?_)); exact pani_body) (dk_ rfl) ?_
      refine hp_bindZ (i := 3) rfl k_ (nb rfl) [0] rfl rfl (rname_z hl h0) e ?_
      clear e
      intro s y0 k0 e
      refine ⟨?_, ?_⟩
      exact keep1 2 rfl
      refine dg_ (i := 4) r_ k_ b_ (bq_ r_ r_ b_ r_ r_ b_ ⟨?_, ?_⟩)
      exact keep1 2 rfl
      refine dg_ (i := 5) rfl k_ b_ (ow_apR 3 (s : ByteArray) (f := Wrow) rfl rfl rfl rfl rfl rfl rfl (fun _ => rfl) g_ b_ (fun v2 hv2 => ⟨?_, ?_⟩))
      exact keep1 3 rfl
      refine df_ (i := 6) rfl k_ k_ k_ b_ (by (repeat (first | refine pani_then ?_ | refine pani_block ?_)); exact pani_body) (dl_ rfl rfl rfl b_) ?_
      refine hp_tail (dj_ (i := 7) rfl k_ (by decide) (ca_ 3 rfl rfl rfl rfl b_ (ht_done k_ (ay_ (jq_againS (i := (l0, Z.n c, n0, v0)) ((l0 ++ [s], y0, n0 - 1, v2) : List ByteArray × Z × Nat × Value) ⟨k0.1, by dsimp only; omega, by dsimp only; omega, by dsimp only; simp only [List.length_append, List.length_singleton]; omega, e⟩ (by dsimp only; omega) ?_ ?_)))))
      · exact bc_ 2 r_ (bc_ 2 r_ (bc_ 0 r_ (bc_ 0 r_ sub_end)))
      · (repeat (first | exact True.intro | refine ⟨rfl, ?_⟩))
    | false =>
      have e := rz_okF (fun a h => lpG_stop h _ _) h e
      refine am_ (R_ (M_ r_ (o_ r_ (bi_ [0] r_ r_ (rskip_zn i0 h) (T_ (ap_ r_ r_ (av_ (ax_ (ax_ (ba_ (al_ (B_ ?_))))))))))))
      simp only [pgA] at e
      refine jc_ownNil 110 3 g_ ?_
      refine jc_loopS (ι := List Shd × Z × Nat × Value) [] (fun i => i.2.1.ok l ∧ mu l i.2.1 ≤ l.length + 1 ∧ mu l i.2.1 ≤ i.2.2.1 ∧ i.1.length + mu l i.2.1 ≤ l.length + 1 ∧ r = rz (fun b => (lpG l Kshared (shG l) i.2.2.1 b i.1).bind fun x b => pgB l l0 x b) i.2.1)
        (fun i => [(2, Ptr bR), (5, .cell (.list (l.map Tok.row))), (8, Ptr bP), (9, Ptr bT)]) (fun i => [RZ bP l i.2.1, .blk bR 40 Zp, .blk bT 40 [.val v0, .val i.2.2.2, .val (.slice none 0 0)], .own i.2.2.2 110 3 (i.1.map ShRow), .own v0 9 1 (l0.map Wrow)]) (fun i => mu l i.2.1) ([], z0, l.length + 1, .slice none 0 0) ⟨i0, i1, i1, by dsimp only [List.length_nil]; omega, e⟩ ?_ ?_ ?_
      · exact bc_ 1 r_ (bc_ 1 r_ (bc_ 1 r_ (bc_ 0 r_ (bc_ 0 r_ sub_end))))
      · (repeat (first | exact True.intro | refine ⟨rfl, ?_⟩))
      clear e
      rintro ⟨l1, z1, n1, v1⟩ ⟨i0, i1, i2, i3, e⟩
      dsimp only at i0 i1 i2 i3 e ⊢
      refine jc_reset [(2, Ptr bR), (5, .cell (.list (l.map Tok.row))), (8, Ptr bP), (9, Ptr bT)] [RZ bP l z1, .blk bR 40 Zp, .blk bT 40 [.val v0, .val v1, .val (.slice none 0 0)], .own v1 110 3 (l1.map ShRow), .own v0 9 1 (l0.map Wrow)] ?_ ⟨[0, 0, 0, 0, 0], [], rfl⟩ ?_
      · (repeat (first | exact True.intro | refine ⟨rfl, ?_⟩))
      cases h : isZ l z1 Kshared with
      | true =>
        obtain ⟨c, rfl⟩ := isZ_n h
        have hlt := isA_lt h
        have e : r = (lpG l Kshared (shG l) n1 c l1).bind _ := e
        have hm : mu l (.n c) = l.length - c + 1 := rfl
        have hm1 : mu l (.n (c + 1)) = l.length - (c + 1) + 1 := rfl
        have h0 : (Z.n (c + 1)).ok l := hlt
        rw [lpG_go h (by omega)] at e
        simp only [shG, R.bind_assoc, bind_okE] at e
        have e := rz_in (g := nmG l) e
        refine am_ (R_ (M_ r_ (o_ r_ (bi_ [0] r_ r_ (rskip_y hl i0 h) (T_ (aq_ r_ r_ (as_ (al_ (au_ (R_ (M_ r_ (jl_bindZ [0] rfl rfl (rname_z hl h0) e (nb rfl) ?_))))))))))))
        clear e
        intro s y0 k0 e
        refine M_ r_ (jl_bindZ [0] rfl rfl (rnum_z hl k0.1) e (nb rfl) ?_)
        clear e
        intro n y1 k1 e
        refine o_ r_ (bu_ r_ r_ r_ r_ r_ (o_ r_ (bl_ r_ r_ (fun bl => S_ 0 r_ (T_ (jc_hpV2 8 (n := 10) rfl 3 0 [v0, v1, .slice none 0 0] [.string s, .int .i64 n] k_ rfl rfl rfl (df_ (i := 0) rfl k_ k_ k_ b_ (by (repeat (first | refine pani_then ?_ | refine pani_block ?_)); exact pani_body) (dl_ rfl rfl rfl b_) ?_)))))))
        refine df_ (i := 1) rfl k_ k_ k_ b_ (by (repeat (first | refine pani_then ?_ | refine pani_block ?_)); exact pani_body) (dm_ 3 rfl rfl rfl mem0 rfl) ?_
        refine df_ (i := 2) rfl k_ k_ k_ b_ (by (repeat (first | refine pani_then ?_ | refine pani_block ?_)); exact pani_body) (dn_ 0 rfl rfl rfl mem1 rfl) ?_
        refine df_ (i := 3) rfl k_ k_ k_ b_ (by (repeat (first | refine pani_then ?_ | refine pani_block ?_)); exact pani_body) (dk_ rfl) ?_
        refine hp_bindZ (i := 4) rfl k_ (nb rfl) [1] rfl rfl (rname_z hl k1.1) e ?_
        clear e
        intro rs y2 k2 e
        refine ⟨?_, ?_⟩
        exact keep2 3 1 rfl rfl
        refine dg_ (i := 5) r_ k_ b_ (bu_ r_ r_ r_ r_ r_ ⟨?_, ?_⟩)
        exact keep2 3 1 rfl rfl
        refine dg_ (i := 6) r_ k_ b_ (bq_ r_ r_ b_ r_ r_ b_ ⟨?_, ?_⟩)
        exact keep2 3 1 rfl rfl
        refine dg_ (i := 7) rfl k_ b_ (ow_apR 4 ((s, n, rs) : Shd) (f := ShRow) rfl rfl rfl rfl rfl rfl rfl (fun _ => rfl) g_ b_ (fun v2 hv2 => ⟨?_, ?_⟩))
        exact keep2 4 2 rfl rfl
        refine df_ (i := 8) rfl k_ k_ k_ b_ (by (repeat (first | refine pani_then ?_ | refine pani_block ?_)); exact pani_body) (dl_ rfl rfl rfl b_) ?_
        refine hp_tail (dj_ (i := 9) rfl k_ (by decide) (ca_ 4 rfl rfl rfl rfl b_ (ht_done k_ (ay_ (jq_againS (i := (l1, Z.n c, n1, v1)) ((l1 ++ [(s, n, rs)], y2, n1 - 1, v2) : List Shd × Z × Nat × Value) ⟨k2.1, by dsimp only; omega, by dsimp only; omega, by dsimp only; simp only [List.length_append, List.length_singleton]; omega, e⟩ (by dsimp only; omega) ?_ ?_)))))
        · exact bc_ 2 r_ (bc_ 3 r_ (bc_ 0 r_ (bc_ 0 r_ (bc_ 1 r_ sub_end))))
        · (repeat (first | exact True.intro | refine ⟨rfl, ?_⟩))
      | false =>
        have e := rz_okF (fun a h => lpG_stop h _ _) h e
        have e := e.trans (rz_pgB i0)
        refine am_ (R_ (M_ r_ (o_ r_ (bi_ [0] r_ r_ (rskip_zn i0 h) (T_ (ap_ r_ r_ (av_ (ax_ (ax_ (ba_ (al_ (B_ (jc_ownNil 50 11 g_ ?_)))))))))))))
        refine jc_loopS (ι := List (Option Tk) × Z × Nat × Value × List Tk) [] (fun i => i.2.1.ok l ∧ mu l i.2.1 ≤ l.length + 1 ∧ mu l i.2.1 ≤ i.2.2.1 ∧ i.1.length + mu l i.2.1 ≤ l.length + 1 ∧ (0 < mu l i.2.1 → i.1 = i.2.2.2.2.map some) ∧ r = rz (fun b => (lpG l Ktask (taskG l) i.2.2.1 b i.2.2.2.2).bind fun x b => endG l l0 l1 x b) i.2.1)
          (fun i => [(2, Ptr bR), (5, .cell (.list (l.map Tok.row))), (8, Ptr bP), (9, Ptr bT)]) (fun i => [RZ bP l i.2.1, .blk bR 40 Zp, .blk bT 40 [.val v0, .val v1, .val i.2.2.2.1], .own i.2.2.2.1 50 11 (i.1.map oTk), .own v0 9 1 (l0.map Wrow), .own v1 110 3 (l1.map ShRow)]) (fun i => mu l i.2.1) ([], z1, l.length + 1, .slice none 0 0, []) ⟨i0, i1, i1, by dsimp only [List.length_nil]; omega, fun _ => rfl, e⟩ ?_ ?_ ?_
        · exact bc_ 1 r_ (bc_ 1 r_ (bc_ 1 r_ (bc_ 0 r_ (bc_ 1 r_ (bc_ 0 r_ sub_end)))))
        · (repeat (first | exact True.intro | refine ⟨rfl, ?_⟩))
        clear e
        rintro ⟨os, z2, n2, v2, acc⟩ ⟨i0, i1, i2, i3, i4, e⟩
        dsimp only at i0 i1 i2 i3 i4 e ⊢
        refine jc_reset [(2, Ptr bR), (5, .cell (.list (l.map Tok.row))), (8, Ptr bP), (9, Ptr bT)] [RZ bP l z2, .blk bR 40 Zp, .blk bT 40 [.val v0, .val v1, .val v2], .own v2 50 11 (os.map oTk), .own v0 9 1 (l0.map Wrow), .own v1 110 3 (l1.map ShRow)] ?_ ⟨[0, 0, 0, 0, 0, 0], [], rfl⟩ ?_
        · (repeat (first | exact True.intro | refine ⟨rfl, ?_⟩))
        cases h : isZ l z2 Ktask with
        | true =>
          obtain ⟨c, rfl⟩ := isZ_n h
          have hlt := isA_lt h
          have e : r = (lpG l Ktask (taskG l) n2 c acc).bind _ := e
          have hm : mu l (.n c) = l.length - c + 1 := rfl
          have hm1 : mu l (.n (c + 1)) = l.length - (c + 1) + 1 := rfl
          have h0 : (Z.n (c + 1)).ok l := hlt
          have hos := i4 (by omega)
          rw [lpG_go h (by omega)] at e
          have e := rz_in (g := taskG l) e
          refine am_ (R_ (M_ r_ (o_ r_ (bi_ [0] r_ r_ (rskip_y hl i0 h) (T_ (aq_ r_ r_ (as_ (al_ (au_ (jc_hpV 6 (n := 8) rfl 2 [v0, v1, v2] k_ rfl rfl (df_ (i := 0) rfl k_ k_ k_ b_ (by (repeat (first | refine pani_then ?_ | refine pani_block ?_)); exact pani_body) (dl_ rfl rfl rfl b_) ?_)))))))))))
          refine df_ (i := 1) rfl k_ k_ k_ b_ (by (repeat (first | refine pani_then ?_ | refine pani_block ?_)); exact pani_body) (dm_ 2 rfl rfl rfl mem0 rfl) ?_
          refine df_ (i := 2) rfl k_ k_ k_ b_ (by (repeat (first | refine pani_then ?_ | refine pani_block ?_)); exact pani_body) (dk_ rfl) ?_
          refine hp_bindZO (i := 3) rfl k_ (nb rfl) [0] rfl rfl (rtask_z hl h0) e ?_
          clear e
          intro o ko t y0 k0 hv e
          refine ⟨?_, ?_⟩
          exact keep1 2 rfl
          refine dg_ (i := 4) r_ k_ b_ (bq_ r_ r_ b_ r_ r_ b_ ⟨?_, ?_⟩)
          exact keep1 2 rfl
          refine dg_ (i := 5) rfl k_ b_ (ow_apR 3 (o : Option Tk) (f := oTk) rfl rfl rfl rfl rfl rfl rfl (fun _ => rfl) g_ b_ (fun v3 hv3 => ⟨?_, ?_⟩))
          exact keep1 3 rfl
          refine df_ (i := 6) rfl k_ k_ k_ b_ (by (repeat (first | refine pani_then ?_ | refine pani_block ?_)); exact pani_body) (dl_ rfl rfl rfl b_) ?_
          refine hp_tail (dj_ (i := 7) rfl k_ (by decide) (ca_ 3 rfl rfl rfl rfl b_ (ht_done k_ (ay_ ?_))))
          refine jq_againS (i := (os, Z.n c, n2, v2, acc)) ((os ++ [o], y0, n2 - 1, v3, acc ++ [t]) : List (Option Tk) × Z × Nat × Value × List Tk) ⟨k0.1, by dsimp only; omega, by dsimp only; omega, by dsimp only; simp only [List.length_append, List.length_singleton]; omega, fun h => by dsimp only; rw [hos, hv h]; simp, e⟩ (by dsimp only; omega) ?_ ?_
          · exact bc_ 2 r_ (bc_ 2 r_ (bc_ 0 r_ (bc_ 0 r_ (bc_ 0 r_ (bc_ 0 r_ sub_end)))))
          · (repeat (first | exact True.intro | refine ⟨rfl, ?_⟩))
        | false =>
          have e := rz_okF (fun a h => lpG_stop h _ _) h e
          cases z2 with
          | e a q code =>
            have e : r = .er code q := e
            have hc0 : ¬ code = 0 := i0.2
            refine am_ (R_ (M_ r_ (o_ r_ (bi_ [0] r_ r_ (rskip_zn i0 h) (T_ (ap_ r_ h_ (av_ (ax_ (ax_ (ba_ (al_ (am_ (R_ (M_ r_ (N_ r_ (F_ r_ ?_))))))))))))))))
            refine L_ 0 r_ (o_ r_ (bn_ r_ r_ (M_ r_ (ai_ r_ w_ b_ (ai_ r_ w_ b_ (ai_ r_ w_ b_ (ai_ r_ w_ b_ (ai_ r_ w_ b_ (ai_ r_ w_ b_ (ai_ r_ w_ b_ (o_ r_ (bv_ r_ w_ r_ (T_ (ap_ r_ h_ (as_ (al_ (am_ ?_)))))))))))))))))
            refine R_ (M_ r_ (N_ r_ (F_ r_ (L_ 0 r_ (o_ r_ (bx_ r_ r_ (T_ (aq_ r_ u_ (am_ (jc_hp1 11 (n := 12) rfl 0 k_ rfl (fun cs1 hcs1 => ?_)))))))))))
            obtain ⟨u10, u11, u12, u13, u14, rfl⟩ := len5 hcs1
            refine df_ (i := 1) rfl k_ k_ k_ b_ (by (repeat (first | refine pani_then ?_ | refine pani_block ?_)); exact pani_body) (dk_ rfl) ?_
            refine df_ (i := 2) rfl k_ k_ k_ b_ (by (repeat (first | refine pani_then ?_ | refine pani_block ?_)); exact pani_body) (dr_ rfl) ?_
            refine df_ (i := 3) rfl k_ k_ k_ b_ (by (repeat (first | refine pani_then ?_ | refine pani_block ?_)); exact pani_body) (dl_ rfl rfl rfl b_) ?_
            refine df_ (i := 4) rfl k_ k_ k_ b_ (by (repeat (first | refine pani_then ?_ | refine pani_block ?_)); exact pani_body) (dm_ 0 rfl rfl rfl mem0 rfl) ?_
            refine df_ (i := 5) rfl k_ k_ k_ b_ (by (repeat (first | refine pani_then ?_ | refine pani_block ?_)); exact pani_body) (dk_ rfl) ?_
            refine df_ (i := 6) rfl k_ k_ k_ b_ (by (repeat (first | refine pani_then ?_ | refine pani_block ?_)); exact pani_body) (dr_ rfl) ?_
            refine df_ (i := 7) rfl k_ k_ k_ b_ (by (repeat (first | refine pani_then ?_ | refine pani_block ?_)); exact pani_body) (dl_ rfl rfl rfl b_) ?_
            refine df_ (i := 8) rfl k_ k_ k_ b_ (by (repeat (first | refine pani_then ?_ | refine pani_block ?_)); exact pani_body) (dm_ 0 rfl rfl rfl mem0 rfl) ?_
            refine hp_exact 0 rfl mem0 (dg_ (i := 0) r_ k_ b_ (bu_ r_ r_ r_ r_ r_ ⟨?_, ?_⟩))
            exact keep1 0 rfl
            refine dh_ (i := 9) r_ k_ (bk_ 1 r_ r_ r_ r_ r_ r_ ⟨?_, ?_⟩)
            exact keep1 1 rfl
            refine dg_ (i := 10) r_ k_ b_ (be_ r_ ⟨?_, ?_⟩)
            exact keep1 1 rfl
            exact hp_tail (di_ (i := 11) rfl k_ b_ (by decide) (be_ rfl (ht_done k_ (al_ (ar_ (aw_ (jq_retRow2 rfl rfl rfl rfl rfl rfl 0 rfl (fun K h => by rw [hE _ _ e] at h; exact h) sub_end)))))))
          | n a =>
            have i0 : a ≤ l.length := i0
            have hos := i4 (Nat.succ_pos _)
            subst hos
            have e : r = endG l l0 l1 acc a := e
            by_cases hlt : a < l.length
            · have e : r = .er 1 a := by rw [e]; unfold endG; rw [if_pos hlt]
              refine am_ (R_ (M_ r_ (o_ r_ (bi_ [0] r_ r_ (rskip_zn (σ := .n a) i0 h) (T_ (ap_ r_ r_ (av_ (ax_ (ax_ (ba_ (al_ (am_ (R_ (M_ r_ (N_ r_ (F_ r_ ?_))))))))))))))))
              refine L_ 0 r_ (o_ r_ (bn_ r_ r_ (M_ r_ (ah_ r_ r_ b_ (bd_ r_ (ah_ r_ r_ b_ (bh_ r_ (ah_ r_ r_ b_ (bf_ r_ r_ r_ b_ (ah_ r_ r_ b_ (bg_ 0 r_ r_ r_ r_ (ah_ r_ r_ b_ (bd_ r_ (ah_ r_ r_ b_ (br_ r_ (fun hlen => ah_ r_ r_ b_ (bw_ r_ r_ (o_ r_ (bp_ r_ x_ r_ (T_ (aq_ r_ t_ (an_ (M_ r_ (M_ r_ ?_))))))))))))))))))))))))
              refine N_ r_ (F_ r_ (L_ 0 r_ (o_ r_ (bi_ [0] r_ r_ (rfail_c hl a g_ 1) (T_ (am_ (R_ (M_ r_ (N_ r_ (F_ r_ (L_ 0 r_ (o_ r_ (bx_ r_ r_ (T_ (aq_ r_ r_ (am_ (jc_hp1 11 (n := 12) rfl 0 k_ rfl (fun cs1 hcs1 => ?_))))))))))))))))))
              obtain ⟨u10, u11, u12, u13, u14, rfl⟩ := len5 hcs1
              refine df_ (i := 1) rfl k_ k_ k_ b_ (by (repeat (first | refine pani_then ?_ | refine pani_block ?_)); exact pani_body) (dk_ rfl) ?_
              refine df_ (i := 2) rfl k_ k_ k_ b_ (by (repeat (first | refine pani_then ?_ | refine pani_block ?_)); exact pani_body) (dr_ rfl) ?_
              refine df_ (i := 3) rfl k_ k_ k_ b_ (by (repeat (first | refine pani_then ?_ | refine pani_block ?_)); exact pani_body) (dl_ rfl rfl rfl b_) ?_
              refine df_ (i := 4) rfl k_ k_ k_ b_ (by (repeat (first | refine pani_then ?_ | refine pani_block ?_)); exact pani_body) (dm_ 0 rfl rfl rfl mem0 rfl) ?_
              refine df_ (i := 5) rfl k_ k_ k_ b_ (by (repeat (first | refine pani_then ?_ | refine pani_block ?_)); exact pani_body) (dk_ rfl) ?_
              refine df_ (i := 6) rfl k_ k_ k_ b_ (by (repeat (first | refine pani_then ?_ | refine pani_block ?_)); exact pani_body) (dr_ rfl) ?_
              refine df_ (i := 7) rfl k_ k_ k_ b_ (by (repeat (first | refine pani_then ?_ | refine pani_block ?_)); exact pani_body) (dl_ rfl rfl rfl b_) ?_
              refine df_ (i := 8) rfl k_ k_ k_ b_ (by (repeat (first | refine pani_then ?_ | refine pani_block ?_)); exact pani_body) (dm_ 0 rfl rfl rfl mem0 rfl) ?_
              refine hp_exact 0 rfl mem0 (dg_ (i := 0) r_ k_ b_ (bu_ r_ r_ r_ r_ r_ ⟨?_, ?_⟩))
              exact keep1 0 rfl
              refine dh_ (i := 9) r_ k_ (bk_ 1 r_ r_ r_ r_ r_ r_ ⟨?_, ?_⟩)
              exact keep1 1 rfl
              refine dg_ (i := 10) r_ k_ b_ (be_ r_ ⟨?_, ?_⟩)
              exact keep1 1 rfl
              exact hp_tail (di_ (i := 11) rfl k_ b_ (by decide) (be_ rfl (ht_done k_ (al_ (ar_ (aw_ (jq_retRow2 rfl rfl rfl rfl rfl rfl 0 rfl (fun K h => by rw [hE _ _ e] at h; exact h) sub_end)))))))
            · have e : r = .ok ⟨l0, l1, acc⟩ a := by rw [e]; unfold endG; rw [if_neg hlt]
              refine am_ (R_ (M_ r_ (o_ r_ (bi_ [0] r_ r_ (rskip_zn (σ := .n a) i0 h) (T_ (ap_ r_ r_ (av_ (ax_ (ax_ (ba_ (al_ (am_ (R_ (M_ r_ (N_ r_ (F_ r_ ?_))))))))))))))))
              refine L_ 0 r_ (o_ r_ (bn_ r_ r_ (M_ r_ (ah_ r_ r_ b_ (bd_ r_ (ah_ r_ r_ b_ (bh_ r_ (ah_ r_ r_ b_ (bf_ r_ r_ r_ b_ (ah_ r_ r_ b_ (bg_ 0 r_ r_ r_ r_ (ah_ r_ r_ b_ (bd_ r_ (ah_ r_ r_ b_ (br_ r_ (fun hlen => ah_ r_ r_ b_ (bw_ r_ r_ (o_ r_ (bp_ r_ x_ r_ (T_ (ap_ r_ v_ (as_ (al_ (am_ ?_))))))))))))))))))))))))
              refine R_ (M_ r_ (N_ r_ (F_ r_ (L_ 0 r_ (o_ r_ (bx_ r_ r_ (T_ (ap_ r_ r_ (as_ (al_ (R_ (A_ 2 r_ (S_ 1 r_ (E_ r_ (E_ r_ (T_ ?_))))))))))))))))
              exact ar_ (jq_freezeBi 4 0 0 rfl rfl rfl (by rw [hc]; simp [hb, Ch.bs]) (jq_freezeBi 4 0 1 rfl rfl rfl (by rw [hc]; simp [hb, Ch.bs]) (jq_freezeBi 3 0 2 rfl rfl rfl (by rw [hc]; simp [hb, Ch.bs]) (jq_retRow2 rfl rfl rfl rfl rfl rfl 0 rfl (fun K h => by rw [hO _ _ e] at h; rw [ot_rows]; exact h) sub_end))))
  · have hD := hD he
    refine R_ (o_ r_ (bl_ r_ r_ (fun bl => E_ r_ (E_ r_ (T_ (R_ (M_ r_ (o_ r_ (bm_ r_ (hS) (M_ r_ (X_ r_ (X_ r_ (X_ r_ (E_ r_ (E_ r_ (E_ r_ (T_ ?_)))))))))))))))))
    refine am_ (R_ (M_ r_ (o_ r_ (bx_ r_ r_ (T_ (aq_ r_ u_ (R_ (o_ r_ (bu_ r_ r_ r_ r_ r_ (M_ r_ (M_ r_ (S_ 0 r_ (E_ r_ (E_ r_ (T_ (ar_ (aw_ ?_)))))))))))))))))
    exact jq_retRow2 rfl rfl rfl rfl rfl rfl 0 rfl (fun K h => by rw [hD] at h; exact h) sub_end
end Go.Proofs.YtamajcgdfjeehaaDoor
end

section
namespace Go.Proofs.YtamajcgdfjeehaaDoor
open Go.Vc
set_option maxHeartbeats 4000000
attribute [local irreducible] JL JC JQ OpWp Con ConN Pan ConE OpPan HP HT HOk hasW idxW isA isNum isNm numAt txtAt lineAt opAt lx lpx sx sxp exG startA stmtG stmtsL blkG wdG nmG nuG nbG lpG dcG stG tkA tkB tkC tkD tkE tkF tk1 tk2 tk3 tk4
theorem hp_two_bindE {nt : Nat} {c : Cx Tryd.prog nt} {env : Env} {H Hr : List Ch} {ops : Array Oper} {Q : Exit → Act → World → Prop} {Sw : World → Prop} {m fuel : Nat} {listed : Array Bool} {i j di : Nat} {opi : Op} {ti : TypeId} {pi : String} {afi : Array Edge} {s0 : S} {α β : Type} {gA : α → S} {gB : β → S} {l : List Tok} {b a : Nat} {r : R α} {f : α → Nat → R β} {fin0 : Fin} {fid : FuncId} [FI Tryd.prog fid] {args : List S} {xs : Array Operand} {at_ : Array TypeId} {d : Tmp} {ty : TypeId} {pos : String} {af : Array Edge}
    (hi : ops[i]? = some ⟨some di, opi, ti, pi, afi, none⟩) (hj : ops[j]? = some ⟨some d, .call { callee := .value (.func fid), args := xs, argTypes := at_ }, ty, pos, af, none⟩) (hr : (Region.ready .any ops listed == [i, j] || Region.ready .any ops listed == [j, i]) = true)
    (hri : Region.ready .any ops (listed.setIfInBounds i true) = [j]) (hrj : Region.ready .any ops (listed.setIfInBounds j true) = [i]) (hdi : di < nt) (hd : d < nt) (hne : (di == d) = false) (hno : env.lookup di = none) (hkeep : ∀ w, StW c H w → Sw w)
    (h0 : OpWp c ⟨some di, opi, ti, pi, afi, none⟩ env H (fun s H' => s = s0 ∧ H' = H)) (h1 : ∀ s H', OpWp c ⟨some di, opi, ti, pi, afi, none⟩ ((d, s) :: env) H' (fun s H'' => s = s0 ∧ H'' = H'))
    (is : List Nat) (hx : env.evs xs.toList = some (Ptr b :: args)) (hp : pick is H = some ([Pz b l a], Hr)) (con : PC fid l b args a gA r) (he : fin0 = finR l b gB (r.bind f)) (hq : ∀ v, fin0 = .pan v → PanQ c Q v)
    (h : ∀ x c', r = .ok x c' → a < c' ∧ c' ≤ l.length → fin0 = finR l b gB (f x c') → (∀ w, StW c ([Pz b l c'] ++ Hr) w → Sw w) ∧ HP c ops Q Sw m fuel ((listed.setIfInBounds i true).setIfInBounds j true) ((d, gA x) :: (di, s0) :: env) ([Pz b l c'] ++ Hr)) : HP c ops Q Sw m (fuel + 2) listed env H := by
  obtain ⟨con, bd⟩ := con
  cases r with
  | ok x c' => exact hp_two hi hj hr hri hrj hdi hd hne hno hkeep h0 h1 (ow_call1 is hx hp (finR_con con) (h x c' rfl (bd _ _ rfl) he))
  | er code p => exact hp_two_pan hi hj rfl hr hri hdi hno hkeep h0 (op_pan is hx hp (finR_pan con)) (hq _ he)
section
variable {l : List Tok} (hl : l.length ≤ 1000000)
include hl

theorem ptask_p (hN : NmOk l) {a b : Nat} (ha : a ≤ l.length) : PC 78 l b [] a TkS (taskG l a) := by
  have hS := pstmt_all hl hN (l.length + 1)
  refine ⟨(con_introE Tryd.func78 rfl rfl (Nat.le_of_ble_eq_true rfl) (fun c hc => ?_)), taskG_bd⟩
  generalize hfin : finR l b TkS (taskG l a) = fin0
  have e := hfin.symm
  clear hfin
  rw [taskG_eq] at e
  refine R_ (o_ r_ (bl_ r_ r_ (fun bl => T_ (R_ (M_ r_ (jl_bindE [1] rfl rfl (pname_p hl ha) e (fun v hv => by (repeat (first | refine pq_then ?_ | refine pq_block ?_)); exact pq_fin hv) (nb rfl) ?_))))))
  clear e
  intro nm b1 k1 g1 e
  refine o_ r_ (bu_ r_ r_ r_ r_ r_ (o_ r_ (bl_ r_ r_ (fun bl => S_ 0 r_ (T_ (am_ (am_ ?_)))))))
  rename_i bR
  revert bl
  intro bT
  refine an_ (F_ r_ (o_ r_ (bu_ r_ r_ r_ r_ r_ (F_ r_ (o_ r_ (bu_ r_ r_ r_ r_ r_ (F_ r_ (o_ r_ (bu_ r_ r_ r_ r_ r_ (F_ r_ (o_ r_ (bu_ r_ r_ r_ r_ r_ (o_ r_ (bq_ r_ r_ b_ r_ r_ b_ (o_ r_ (br_ r_ (fun hlen => M_ r_ (T_ (au_ ?_)))))))))))))))))))
  refine jc_loopS (ι := Nat × Nat × Int × Int × Int × Int) [] (fun i => (b1 ≤ i.2.1 ∧ i.2.1 ≤ l.length) ∧ ((i.1 = 0 ∧ i.2.2.1 = 0 ∧ i.2.2.2.1 = 0 ∧ i.2.2.2.2.1 = 0 ∧ i.2.2.2.2.2 = 0 ∧ fin0 = finR l b TkS (tk1 l nm i.2.1)) ∨ (i.1 = 1 ∧ i.2.2.2.1 = 0 ∧ i.2.2.2.2.1 = 0 ∧ i.2.2.2.2.2 = 0 ∧ fin0 = finR l b TkS (tk2 l nm i.2.2.1 i.2.1)) ∨ (i.1 = 2 ∧ i.2.2.2.2.1 = 0 ∧ i.2.2.2.2.2 = 0 ∧ fin0 = finR l b TkS (tk3 l nm i.2.2.1 i.2.2.2.1 i.2.1)) ∨ (i.1 = 3 ∧ i.2.2.2.2.2 = 0 ∧ fin0 = finR l b TkS (tk4 l nm i.2.2.1 i.2.2.2.1 i.2.2.2.2.1 i.2.1)) ∨ (i.1 = 4 ∧ fin0 = finR l b TkS (tkA l nm i.2.2.1 i.2.2.2.1 i.2.2.2.2.1 i.2.2.2.2.2 i.2.1)))) (fun i => [(0, Ptr b), (2, Ptr bR), (3, Ptr bT), (17, .cell (.list [[.val (.string Kperiod), .val (.pointer (some ⟨bT, 1, none⟩))], [.val (.string Kdeadline), .val (.pointer (some ⟨bT, 2, none⟩))], [.val (.string Kpriority), .val (.pointer (some ⟨bT, 3, none⟩))], [.val (.string Kjitter), .val (.pointer (some ⟨bT, 4, none⟩))]])), (18, In .i64 4), (19, In .i64 (i.1 : Int))]) (fun i => [Pz b l i.2.1, .blk bR 50 [.val (.string ⟨#[]⟩), .val (.int .i64 0), .val (.int .i64 0), .val (.int .i64 0), .val (.int .i64 0), .val (.slice none 0 0), .val (.slice none 0 0), .val (.slice none 0 0), .val (.slice none 0 0), .val (.slice none 0 0), .val (.slice none 0 0)], .blk bT 50 [.val (.string nm), .val (.int .i64 i.2.2.1), .val (.int .i64 i.2.2.2.1), .val (.int .i64 i.2.2.2.2.1), .val (.int .i64 i.2.2.2.2.2), .val (.slice none 0 0), .val (.slice none 0 0), .val (.slice none 0 0), .val (.slice none 0 0), .val (.slice none 0 0), .val (.slice none 0 0)]]) (fun i => 4 - i.1) (0, b1, 0, 0, 0, 0) ⟨⟨Nat.le_refl _, g1.2⟩, .inl ⟨rfl, rfl, rfl, rfl, rfl, e⟩⟩ ?_ ?_ ?_
  · exact bc_ 1 r_ (bc_ 1 r_ (bc_ 0 r_ sub_end))
  · (repeat (first | exact True.intro | refine ⟨rfl, ?_⟩))
  clear e
  rintro ⟨KK, c, pe, de, pr, ji⟩ ⟨⟨h1, h2⟩, hk⟩
  dsimp only at h1 h2 hk ⊢
  refine jc_reset [(0, Ptr b), (2, Ptr bR), (3, Ptr bT), (17, .cell (.list [[.val (.string Kperiod), .val (.pointer (some ⟨bT, 1, none⟩))], [.val (.string Kdeadline), .val (.pointer (some ⟨bT, 2, none⟩))], [.val (.string Kpriority), .val (.pointer (some ⟨bT, 3, none⟩))], [.val (.string Kjitter), .val (.pointer (some ⟨bT, 4, none⟩))]])), (18, In .i64 4), (19, In .i64 (KK : Int))] [Pz b l c, .blk bR 50 [.val (.string ⟨#[]⟩), .val (.int .i64 0), .val (.int .i64 0), .val (.int .i64 0), .val (.int .i64 0), .val (.slice none 0 0), .val (.slice none 0 0), .val (.slice none 0 0), .val (.slice none 0 0), .val (.slice none 0 0), .val (.slice none 0 0)], .blk bT 50 [.val (.string nm), .val (.int .i64 pe), .val (.int .i64 de), .val (.int .i64 pr), .val (.int .i64 ji), .val (.slice none 0 0), .val (.slice none 0 0), .val (.slice none 0 0), .val (.slice none 0 0), .val (.slice none 0 0), .val (.slice none 0 0)]] ?_ ⟨[0, 0, 0], [], rfl⟩ ?_
  · (repeat (first | exact True.intro | refine ⟨rfl, ?_⟩))
  rcases hk with ⟨rfl, rfl, rfl, rfl, rfl, e⟩ | ⟨rfl, rfl, rfl, rfl, e⟩ | ⟨rfl, rfl, rfl, e⟩ | ⟨rfl, rfl, e⟩ | ⟨rfl, e⟩
  · rw [tk1, dcG, R.bind_assoc] at e
    refine R_ (o_ r_ (bw_ r_ r_ (T_ (am_ (aq_ r_ r_ (as_ (al_ (B_ (R_ (o_ r_ (ow_indexAddr r_ r_ g_ r_ r_ b_ (o_ r_ (cr_ r_ r_ r_ (o_ r_ (bl_ r_ r_ (fun bl => S_ 0 r_ (T_ (R_ (M_ r_ ?_)))))))))))))))))))
    refine F_ r_ (L_ 0 r_ (jl_bindE [1] rfl rfl (pword_p hl h2 Kperiod) e (fun v hv => by (repeat (first | refine pq_then ?_ | refine pq_block ?_)); exact pq_fin hv) (nb rfl) ?_))
    clear e
    intro u c1 k1 g2 e
    refine T_ (jc_hpV 4 (n := 6) rfl 1 [.string Kperiod, .pointer (some ⟨bT, 1, none⟩)] k_ rfl rfl (df_ (i := 0) rfl k_ k_ k_ b_ (by (repeat (first | refine pani_then ?_ | refine pani_block ?_)); exact pani_body) (dl_ rfl rfl rfl b_) ?_))
    refine df_ (i := 1) rfl k_ k_ k_ b_ (by (repeat (first | refine pani_then ?_ | refine pani_block ?_)); exact pani_body) (dm_ 1 rfl rfl rfl mem0 rfl) ?_
    refine df_ (i := 2) rfl k_ k_ k_ b_ (by (repeat (first | refine pani_then ?_ | refine pani_block ?_)); exact pani_body) (dk_ rfl) ?_
    refine hp_bindE (i := 3) rfl k_ (nb rfl) [0] rfl rfl (pnum_p hl g_) e (fun v hv => by (repeat (first | refine pq_then ?_ | refine pq_block ?_)); exact pq_fin hv) ?_
    clear e
    intro x c2 k2 g3 e
    refine ⟨?_, ?_⟩
    exact keep1 1 rfl
    refine df_ (i := 4) rfl k_ k_ k_ b_ (by (repeat (first | refine pani_then ?_ | refine pani_block ?_)); exact pani_body) (dr_ rfl) ?_
    refine hp_tail (dj_ (i := 5) rfl k_ (by decide) (ca_ 3 rfl rfl rfl rfl b_ (ht_done k_ (ay_ (al_ (an_ (o_ r_ (bj_ r_ r_ g_ (M_ r_ (ak_ (jq_againS (i := (0, c, 0, 0, 0, 0)) ((1, c2, x, 0, 0, 0) : Nat × Nat × Int × Int × Int × Int) ⟨⟨by dsimp only; omega, g3.2⟩, .inr (.inl ⟨rfl, rfl, rfl, rfl, e⟩)⟩ (by dsimp only; omega) ?_ ?_)))))))))))
    · exact bc_ 1 r_ (bc_ 2 r_ (bc_ 0 r_ sub_end))
    · (repeat (first | exact True.intro | refine ⟨rfl, ?_⟩))
  · rw [tk2, dcG, R.bind_assoc] at e
    refine R_ (o_ r_ (bw_ r_ r_ (T_ (am_ (aq_ r_ r_ (as_ (al_ (B_ (R_ (o_ r_ (ow_indexAddr r_ r_ g_ r_ r_ b_ (o_ r_ (cr_ r_ r_ r_ (o_ r_ (bl_ r_ r_ (fun bl => S_ 0 r_ (T_ (R_ (M_ r_ ?_)))))))))))))))))))
    refine F_ r_ (L_ 0 r_ (jl_bindE [1] rfl rfl (pword_p hl h2 Kdeadline) e (fun v hv => by (repeat (first | refine pq_then ?_ | refine pq_block ?_)); exact pq_fin hv) (nb rfl) ?_))
    clear e
    intro u c1 k1 g2 e
    refine T_ (jc_hpV 4 (n := 6) rfl 1 [.string Kdeadline, .pointer (some ⟨bT, 2, none⟩)] k_ rfl rfl (df_ (i := 0) rfl k_ k_ k_ b_ (by (repeat (first | refine pani_then ?_ | refine pani_block ?_)); exact pani_body) (dl_ rfl rfl rfl b_) ?_))
    refine df_ (i := 1) rfl k_ k_ k_ b_ (by (repeat (first | refine pani_then ?_ | refine pani_block ?_)); exact pani_body) (dm_ 1 rfl rfl rfl mem0 rfl) ?_
    refine df_ (i := 2) rfl k_ k_ k_ b_ (by (repeat (first | refine pani_then ?_ | refine pani_block ?_)); exact pani_body) (dk_ rfl) ?_
    refine hp_bindE (i := 3) rfl k_ (nb rfl) [0] rfl rfl (pnum_p hl g_) e (fun v hv => by (repeat (first | refine pq_then ?_ | refine pq_block ?_)); exact pq_fin hv) ?_
    clear e
    intro x c2 k2 g3 e
    refine ⟨?_, ?_⟩
    exact keep1 1 rfl
    refine df_ (i := 4) rfl k_ k_ k_ b_ (by (repeat (first | refine pani_then ?_ | refine pani_block ?_)); exact pani_body) (dr_ rfl) ?_
    refine hp_tail (dj_ (i := 5) rfl k_ (by decide) (ca_ 3 rfl rfl rfl rfl b_ (ht_done k_ (ay_ (al_ (an_ (o_ r_ (bj_ r_ r_ g_ (M_ r_ (ak_ (jq_againS (i := (1, c, pe, 0, 0, 0)) ((2, c2, pe, x, 0, 0) : Nat × Nat × Int × Int × Int × Int) ⟨⟨by dsimp only; omega, g3.2⟩, .inr (.inr (.inl ⟨rfl, rfl, rfl, e⟩))⟩ (by dsimp only; omega) ?_ ?_)))))))))))
    · exact bc_ 1 r_ (bc_ 2 r_ (bc_ 0 r_ sub_end))
    · (repeat (first | exact True.intro | refine ⟨rfl, ?_⟩))
  · rw [tk3, dcG, R.bind_assoc] at e
    refine R_ (o_ r_ (bw_ r_ r_ (T_ (am_ (aq_ r_ r_ (as_ (al_ (B_ (R_ (o_ r_ (ow_indexAddr r_ r_ g_ r_ r_ b_ (o_ r_ (cr_ r_ r_ r_ (o_ r_ (bl_ r_ r_ (fun bl => S_ 0 r_ (T_ (R_ (M_ r_ ?_)))))))))))))))))))
    refine F_ r_ (L_ 0 r_ (jl_bindE [1] rfl rfl (pword_p hl h2 Kpriority) e (fun v hv => by (repeat (first | refine pq_then ?_ | refine pq_block ?_)); exact pq_fin hv) (nb rfl) ?_))
    clear e
    intro u c1 k1 g2 e
    refine T_ (jc_hpV 4 (n := 6) rfl 1 [.string Kpriority, .pointer (some ⟨bT, 3, none⟩)] k_ rfl rfl (df_ (i := 0) rfl k_ k_ k_ b_ (by (repeat (first | refine pani_then ?_ | refine pani_block ?_)); exact pani_body) (dl_ rfl rfl rfl b_) ?_))
    refine df_ (i := 1) rfl k_ k_ k_ b_ (by (repeat (first | refine pani_then ?_ | refine pani_block ?_)); exact pani_body) (dm_ 1 rfl rfl rfl mem0 rfl) ?_
    refine df_ (i := 2) rfl k_ k_ k_ b_ (by (repeat (first | refine pani_then ?_ | refine pani_block ?_)); exact pani_body) (dk_ rfl) ?_
    refine hp_bindE (i := 3) rfl k_ (nb rfl) [0] rfl rfl (pnum_p hl g_) e (fun v hv => by (repeat (first | refine pq_then ?_ | refine pq_block ?_)); exact pq_fin hv) ?_
    clear e
    intro x c2 k2 g3 e
    refine ⟨?_, ?_⟩
    exact keep1 1 rfl
    refine df_ (i := 4) rfl k_ k_ k_ b_ (by (repeat (first | refine pani_then ?_ | refine pani_block ?_)); exact pani_body) (dr_ rfl) ?_
    refine hp_tail (dj_ (i := 5) rfl k_ (by decide) (ca_ 3 rfl rfl rfl rfl b_ (ht_done k_ (ay_ (al_ (an_ (o_ r_ (bj_ r_ r_ g_ (M_ r_ (ak_ (jq_againS (i := (2, c, pe, de, 0, 0)) ((3, c2, pe, de, x, 0) : Nat × Nat × Int × Int × Int × Int) ⟨⟨by dsimp only; omega, g3.2⟩, .inr (.inr (.inr (.inl ⟨rfl, rfl, e⟩)))⟩ (by dsimp only; omega) ?_ ?_)))))))))))
    · exact bc_ 1 r_ (bc_ 2 r_ (bc_ 0 r_ sub_end))
    · (repeat (first | exact True.intro | refine ⟨rfl, ?_⟩))
  · rw [tk4, dcG, R.bind_assoc] at e
    refine R_ (o_ r_ (bw_ r_ r_ (T_ (am_ (aq_ r_ r_ (as_ (al_ (B_ (R_ (o_ r_ (ow_indexAddr r_ r_ g_ r_ r_ b_ (o_ r_ (cr_ r_ r_ r_ (o_ r_ (bl_ r_ r_ (fun bl => S_ 0 r_ (T_ (R_ (M_ r_ ?_)))))))))))))))))))
    refine F_ r_ (L_ 0 r_ (jl_bindE [1] rfl rfl (pword_p hl h2 Kjitter) e (fun v hv => by (repeat (first | refine pq_then ?_ | refine pq_block ?_)); exact pq_fin hv) (nb rfl) ?_))
    clear e
    intro u c1 k1 g2 e
    refine T_ (jc_hpV 4 (n := 6) rfl 1 [.string Kjitter, .pointer (some ⟨bT, 4, none⟩)] k_ rfl rfl (df_ (i := 0) rfl k_ k_ k_ b_ (by (repeat (first | refine pani_then ?_ | refine pani_block ?_)); exact pani_body) (dl_ rfl rfl rfl b_) ?_))
    refine df_ (i := 1) rfl k_ k_ k_ b_ (by (repeat (first | refine pani_then ?_ | refine pani_block ?_)); exact pani_body) (dm_ 1 rfl rfl rfl mem0 rfl) ?_
    refine df_ (i := 2) rfl k_ k_ k_ b_ (by (repeat (first | refine pani_then ?_ | refine pani_block ?_)); exact pani_body) (dk_ rfl) ?_
    refine hp_bindE (i := 3) rfl k_ (nb rfl) [0] rfl rfl (pnum_p hl g_) e (fun v hv => by (repeat (first | refine pq_then ?_ | refine pq_block ?_)); exact pq_fin hv) ?_
    clear e
    intro x c2 k2 g3 e
    refine ⟨?_, ?_⟩
    exact keep1 1 rfl
    refine df_ (i := 4) rfl k_ k_ k_ b_ (by (repeat (first | refine pani_then ?_ | refine pani_block ?_)); exact pani_body) (dr_ rfl) ?_
    refine hp_tail (dj_ (i := 5) rfl k_ (by decide) (ca_ 3 rfl rfl rfl rfl b_ (ht_done k_ (ay_ (al_ (an_ (o_ r_ (bj_ r_ r_ g_ (M_ r_ (ak_ (jq_againS (i := (3, c, pe, de, pr, 0)) ((4, c2, pe, de, pr, x) : Nat × Nat × Int × Int × Int × Int) ⟨⟨by dsimp only; omega, g3.2⟩, .inr (.inr (.inr (.inr (⟨rfl, e⟩))))⟩ (by dsimp only; omega) ?_ ?_)))))))))))
    · exact bc_ 1 r_ (bc_ 2 r_ (bc_ 0 r_ sub_end))
    · (repeat (first | exact True.intro | refine ⟨rfl, ?_⟩))
  · clear hS
    have hS := pstmt_all hl hN (l.length + 1)
    refine R_ (o_ r_ (bw_ r_ r_ (T_ (am_ (ap_ r_ r_ (av_ (ax_ (ax_ (ba_ (al_ (B_ ?_)))))))))))
    rw [tkA] at e
    refine jc_ownNil 120 3 g_ ?_
    refine jc_loopS (ι := List Inp × Nat × Nat × Value) [] (fun i => (c ≤ i.2.1 ∧ i.2.1 ≤ l.length) ∧ l.length - i.2.1 ≤ i.2.2.1 ∧ i.1.length ≤ i.2.1 ∧ fin0 = finR l b TkS ((lpG l Kinput (inG l) i.2.2.1 i.2.1 i.1).bind fun x b => tkB l nm pe de pr ji x b))
      (fun i => [(0, Ptr b), (2, Ptr bR), (3, Ptr bT)]) (fun i => [Pz b l i.2.1, .blk bR 50 [.val (.string ⟨#[]⟩), .val (.int .i64 0), .val (.int .i64 0), .val (.int .i64 0), .val (.int .i64 0), .val (.slice none 0 0), .val (.slice none 0 0), .val (.slice none 0 0), .val (.slice none 0 0), .val (.slice none 0 0), .val (.slice none 0 0)], .blk bT 50 [.val (.string nm), .val (.int .i64 pe), .val (.int .i64 de), .val (.int .i64 pr), .val (.int .i64 ji), .val (i.2.2.2), .val (.slice none 0 0), .val (.slice none 0 0), .val (.slice none 0 0), .val (.slice none 0 0), .val (.slice none 0 0)], .own i.2.2.2 120 3 (i.1.map InRow)]) (fun i => l.length - i.2.1) ([], c, l.length + 1, .slice none 0 0) ⟨⟨Nat.le_refl _, h2⟩, by dsimp only; omega, Nat.zero_le _, e⟩ ?_ ?_ ?_
    · exact bc_ 1 r_ (bc_ 1 r_ (bc_ 1 r_ (bc_ 0 r_ sub_end)))
    · (repeat (first | exact True.intro | refine ⟨rfl, ?_⟩))
    clear e h1 h2
    rintro ⟨l0, c10, n0, v0⟩ ⟨⟨i1, i2⟩, hn, hacc, e⟩
    dsimp only at i1 i2 hn hacc e ⊢
    refine jc_reset [(0, Ptr b), (2, Ptr bR), (3, Ptr bT)] [Pz b l c10, .blk bR 50 [.val (.string ⟨#[]⟩), .val (.int .i64 0), .val (.int .i64 0), .val (.int .i64 0), .val (.int .i64 0), .val (.slice none 0 0), .val (.slice none 0 0), .val (.slice none 0 0), .val (.slice none 0 0), .val (.slice none 0 0), .val (.slice none 0 0)], .blk bT 50 [.val (.string nm), .val (.int .i64 pe), .val (.int .i64 de), .val (.int .i64 pr), .val (.int .i64 ji), .val (v0), .val (.slice none 0 0), .val (.slice none 0 0), .val (.slice none 0 0), .val (.slice none 0 0), .val (.slice none 0 0)], .own v0 120 3 (l0.map InRow)] ?_ ⟨[0, 0, 0, 0], [], rfl⟩ ?_
    · (repeat (first | exact True.intro | refine ⟨rfl, ?_⟩))
    cases h : isA l c10 Kinput with
    | true =>
      have hlt := isA_lt h
      rw [lpG_go h hn] at e
      simp only [inG, R.bind_assoc, bind_okE] at e
      refine am_ (R_ (M_ r_ (o_ r_ (bi_ [0] r_ r_ (has_y hl i2 h) (T_ (aq_ r_ r_ (as_ (al_ (au_ (jc_hpV 11 (n := 13) rfl 2 [.string nm, .int .i64 pe, .int .i64 de, .int .i64 pr, .int .i64 ji, v0, .slice none 0 0, .slice none 0 0, .slice none 0 0, .slice none 0 0, .slice none 0 0] k_ rfl rfl ?_))))))))))
      refine df_ (i := 0) rfl k_ k_ k_ b_ (by (repeat (first | refine pani_then ?_ | refine pani_block ?_)); exact pani_body) (dl_ rfl rfl rfl b_) ?_
      refine df_ (i := 1) rfl k_ k_ k_ b_ (by (repeat (first | refine pani_then ?_ | refine pani_block ?_)); exact pani_body) (dm_ 2 rfl rfl rfl mem0 rfl) ?_
      refine df_ (i := 2) rfl k_ k_ k_ b_ (by (repeat (first | refine pani_then ?_ | refine pani_block ?_)); exact pani_body) (dk_ rfl) ?_
      refine df_ (i := 4) rfl k_ k_ k_ b_ (by (repeat (first | refine pani_then ?_ | refine pani_block ?_)); exact pani_body) (dk_ rfl) ?_
      refine df_ (i := 6) rfl k_ k_ k_ b_ (by (repeat (first | refine pani_then ?_ | refine pani_block ?_)); exact pani_body) (dk_ rfl) ?_
      refine hp_bindE (i := 3) rfl k_ (nb rfl) [0] rfl rfl (pname_p (a := c10 + 1) hl g_) e (fun v hv => by (repeat (first | refine pq_then ?_ | refine pq_block ?_)); exact pq_fin hv) ?_
      clear e
      intro s c20 k20 g20 e
      refine ⟨?_, ?_⟩
      exact keep1 2 rfl
      refine hp_bindE (i := 5) rfl k_ (nb rfl) [0] rfl rfl (pnumber_p (a := c20) hl g_) e (fun v hv => by (repeat (first | refine pq_then ?_ | refine pq_block ?_)); exact pq_fin hv) ?_
      clear e
      intro lo c21 k21 g21 e
      refine ⟨?_, ?_⟩
      exact keep1 2 rfl
      refine hp_bindE (i := 7) rfl k_ (nb rfl) [0] rfl rfl (pnumber_p (a := c21) hl g_) e (fun v hv => by (repeat (first | refine pq_then ?_ | refine pq_block ?_)); exact pq_fin hv) ?_
      clear e
      intro hi c22 k22 g22 e
      refine ⟨?_, ?_⟩
      exact keep1 2 rfl
      refine dg_ (i := 8) r_ k_ b_ (bu_ r_ r_ r_ r_ r_ ⟨?_, ?_⟩)
      exact keep1 2 rfl
      refine dg_ (i := 9) r_ k_ b_ (bq_ r_ r_ b_ r_ r_ b_ ⟨?_, ?_⟩)
      exact keep1 2 rfl
      refine dg_ (i := 10) rfl k_ b_ (ow_apR 3 ((s, lo, hi) : Inp) (f := InRow) rfl rfl rfl rfl rfl rfl rfl (fun _ => rfl) g_ b_ (fun v2 hv2 => ⟨?_, ?_⟩))
      exact keep1 3 rfl
      refine df_ (i := 11) rfl k_ k_ k_ b_ (by (repeat (first | refine pani_then ?_ | refine pani_block ?_)); exact pani_body) (dl_ rfl rfl rfl b_) ?_
      refine hp_tail (dj_ (i := 12) rfl k_ (by decide) (ca_ 3 rfl rfl rfl rfl b_ (ht_done k_ (ay_ (jq_againS (i := (l0, c10, n0, v0)) ((l0 ++ [(s, lo, hi)], c22, n0 - 1, v2) : List Inp × Nat × Nat × Value) ⟨⟨by dsimp only; omega, g22.2⟩, by dsimp only; omega, by dsimp only; simp only [List.length_append, List.length_singleton]; omega, e⟩ (by dsimp only; omega) ?_ ?_)))))
      · exact bc_ 2 r_ (bc_ 2 r_ (bc_ 0 r_ (bc_ 0 r_ sub_end)))
      · (repeat (first | exact True.intro | refine ⟨rfl, ?_⟩))
    | false =>
      rw [lpG_stop h, bind_okE] at e
      refine am_ (R_ (M_ r_ (o_ r_ (bi_ [0] r_ r_ (has_n hl i2 h) (T_ (ap_ r_ r_ (av_ (ax_ (ax_ (ba_ (al_ (B_ ?_))))))))))))
      rw [tkB] at e
      refine jc_ownNil 9 1 g_ ?_
      refine jc_loopS (ι := List ByteArray × Nat × Nat × Value) [] (fun i => (c10 ≤ i.2.1 ∧ i.2.1 ≤ l.length) ∧ l.length - i.2.1 ≤ i.2.2.1 ∧ i.1.length ≤ i.2.1 ∧ fin0 = finR l b TkS ((lpG l Kvar (nmG l) i.2.2.1 i.2.1 i.1).bind fun x b => tkC l nm pe de pr ji l0 x b))
        (fun i => [(0, Ptr b), (2, Ptr bR), (3, Ptr bT)]) (fun i => [Pz b l i.2.1, .blk bR 50 [.val (.string ⟨#[]⟩), .val (.int .i64 0), .val (.int .i64 0), .val (.int .i64 0), .val (.int .i64 0), .val (.slice none 0 0), .val (.slice none 0 0), .val (.slice none 0 0), .val (.slice none 0 0), .val (.slice none 0 0), .val (.slice none 0 0)], .blk bT 50 [.val (.string nm), .val (.int .i64 pe), .val (.int .i64 de), .val (.int .i64 pr), .val (.int .i64 ji), .val (v0), .val (i.2.2.2), .val (.slice none 0 0), .val (.slice none 0 0), .val (.slice none 0 0), .val (.slice none 0 0)], .own i.2.2.2 9 1 (i.1.map Wrow), .own v0 120 3 (l0.map InRow)]) (fun i => l.length - i.2.1) ([], c10, l.length + 1, .slice none 0 0) ⟨⟨Nat.le_refl _, i2⟩, by dsimp only; omega, Nat.zero_le _, e⟩ ?_ ?_ ?_
      · exact bc_ 1 r_ (bc_ 1 r_ (bc_ 1 r_ (bc_ 0 r_ (bc_ 0 r_ sub_end))))
      · (repeat (first | exact True.intro | refine ⟨rfl, ?_⟩))
      clear e h hn hacc i1 i2
      rintro ⟨l1, c11, n1, v1⟩ ⟨⟨i1, i2⟩, hn, hacc, e⟩
      dsimp only at i1 i2 hn hacc e ⊢
      refine jc_reset [(0, Ptr b), (2, Ptr bR), (3, Ptr bT)] [Pz b l c11, .blk bR 50 [.val (.string ⟨#[]⟩), .val (.int .i64 0), .val (.int .i64 0), .val (.int .i64 0), .val (.int .i64 0), .val (.slice none 0 0), .val (.slice none 0 0), .val (.slice none 0 0), .val (.slice none 0 0), .val (.slice none 0 0), .val (.slice none 0 0)], .blk bT 50 [.val (.string nm), .val (.int .i64 pe), .val (.int .i64 de), .val (.int .i64 pr), .val (.int .i64 ji), .val (v0), .val (v1), .val (.slice none 0 0), .val (.slice none 0 0), .val (.slice none 0 0), .val (.slice none 0 0)], .own v1 9 1 (l1.map Wrow), .own v0 120 3 (l0.map InRow)] ?_ ⟨[0, 0, 0, 0, 0], [], rfl⟩ ?_
      · (repeat (first | exact True.intro | refine ⟨rfl, ?_⟩))
      cases h : isA l c11 Kvar with
      | true =>
        have hlt := isA_lt h
        rw [lpG_go h hn] at e
        skip
        refine am_ (R_ (M_ r_ (o_ r_ (bi_ [0] r_ r_ (has_y hl i2 h) (T_ (aq_ r_ r_ (as_ (al_ (au_ (jc_hpV 6 (n := 8) rfl 2 [.string nm, .int .i64 pe, .int .i64 de, .int .i64 pr, .int .i64 ji, v0, v1, .slice none 0 0, .slice none 0 0, .slice none 0 0, .slice none 0 0] k_ rfl rfl (df_ (i := 0) rfl k_ k_ k_ b_ (by (repeat (first | refine pani_then ?_ | refine pani_block ?_)); exact pani_body) (dl_ rfl rfl rfl b_) ?_)))))))))))
        refine df_ (i := 1) rfl k_ k_ k_ b_ (by (repeat (first | refine pani_then ?_ | refine pani_block ?_)); exact pani_body) (dm_ 2 rfl rfl rfl mem0 rfl) ?_
        refine df_ (i := 2) rfl k_ k_ k_ b_ (by (repeat (first | refine pani_then ?_ | refine pani_block ?_)); exact pani_body) (dk_ rfl) ?_
        refine hp_bindE (i := 3) rfl k_ (nb rfl) [0] rfl rfl (pname_p (a := c11 + 1) hl g_) e (fun v hv => by (repeat (first | refine pq_then ?_ | refine pq_block ?_)); exact pq_fin hv) ?_
        clear e
        intro s c20 k20 g20 e
        refine ⟨?_, ?_⟩
        exact keep1 2 rfl
        refine dg_ (i := 4) r_ k_ b_ (bq_ r_ r_ b_ r_ r_ b_ ⟨?_, ?_⟩)
        exact keep1 2 rfl
        refine dg_ (i := 5) rfl k_ b_ (ow_apR 3 (s : ByteArray) (f := Wrow) rfl rfl rfl rfl rfl rfl rfl (fun _ => rfl) g_ b_ (fun v2 hv2 => ⟨?_, ?_⟩))
        exact keep1 3 rfl
        refine df_ (i := 6) rfl k_ k_ k_ b_ (by (repeat (first | refine pani_then ?_ | refine pani_block ?_)); exact pani_body) (dl_ rfl rfl rfl b_) ?_
        refine hp_tail (dj_ (i := 7) rfl k_ (by decide) (ca_ 3 rfl rfl rfl rfl b_ (ht_done k_ (ay_ (jq_againS (i := (l1, c11, n1, v1)) ((l1 ++ [s], c20, n1 - 1, v2) : List ByteArray × Nat × Nat × Value) ⟨⟨by dsimp only; omega, g20.2⟩, by dsimp only; omega, by dsimp only; simp only [List.length_append, List.length_singleton]; omega, e⟩ (by dsimp only; omega) ?_ ?_)))))
        · exact bc_ 2 r_ (bc_ 2 r_ (bc_ 0 r_ (bc_ 0 r_ (bc_ 0 r_ sub_end))))
        · (repeat (first | exact True.intro | refine ⟨rfl, ?_⟩))
      | false =>
        rw [lpG_stop h, bind_okE] at e
        refine am_ (R_ (M_ r_ (o_ r_ (bi_ [0] r_ r_ (has_n hl i2 h) (T_ (ap_ r_ r_ (av_ (ax_ (ax_ (ba_ (al_ (B_ ?_))))))))))))
        rw [tkC] at e
        refine jc_ownNil 108 2 g_ ?_
        refine jc_loopS (ι := List Arr × Nat × Nat × Value) [] (fun i => (c11 ≤ i.2.1 ∧ i.2.1 ≤ l.length) ∧ l.length - i.2.1 ≤ i.2.2.1 ∧ i.1.length ≤ i.2.1 ∧ fin0 = finR l b TkS ((lpG l Karray (arG l) i.2.2.1 i.2.1 i.1).bind fun x b => tkD l nm pe de pr ji l0 l1 x b))
          (fun i => [(0, Ptr b), (2, Ptr bR), (3, Ptr bT)]) (fun i => [Pz b l i.2.1, .blk bR 50 [.val (.string ⟨#[]⟩), .val (.int .i64 0), .val (.int .i64 0), .val (.int .i64 0), .val (.int .i64 0), .val (.slice none 0 0), .val (.slice none 0 0), .val (.slice none 0 0), .val (.slice none 0 0), .val (.slice none 0 0), .val (.slice none 0 0)], .blk bT 50 [.val (.string nm), .val (.int .i64 pe), .val (.int .i64 de), .val (.int .i64 pr), .val (.int .i64 ji), .val (v0), .val (v1), .val (i.2.2.2), .val (.slice none 0 0), .val (.slice none 0 0), .val (.slice none 0 0)], .own i.2.2.2 108 2 (i.1.map ArRow), .own v0 120 3 (l0.map InRow), .own v1 9 1 (l1.map Wrow)]) (fun i => l.length - i.2.1) ([], c11, l.length + 1, .slice none 0 0) ⟨⟨Nat.le_refl _, i2⟩, by dsimp only; omega, Nat.zero_le _, e⟩ ?_ ?_ ?_
        · exact bc_ 1 r_ (bc_ 1 r_ (bc_ 1 r_ (bc_ 0 r_ (bc_ 1 r_ (bc_ 0 r_ sub_end)))))
        · (repeat (first | exact True.intro | refine ⟨rfl, ?_⟩))
        clear e h hn hacc i1 i2
        rintro ⟨l2, c12, n2, v2⟩ ⟨⟨i1, i2⟩, hn, hacc, e⟩
        dsimp only at i1 i2 hn hacc e ⊢
        refine jc_reset [(0, Ptr b), (2, Ptr bR), (3, Ptr bT)] [Pz b l c12, .blk bR 50 [.val (.string ⟨#[]⟩), .val (.int .i64 0), .val (.int .i64 0), .val (.int .i64 0), .val (.int .i64 0), .val (.slice none 0 0), .val (.slice none 0 0), .val (.slice none 0 0), .val (.slice none 0 0), .val (.slice none 0 0), .val (.slice none 0 0)], .blk bT 50 [.val (.string nm), .val (.int .i64 pe), .val (.int .i64 de), .val (.int .i64 pr), .val (.int .i64 ji), .val (v0), .val (v1), .val (v2), .val (.slice none 0 0), .val (.slice none 0 0), .val (.slice none 0 0)], .own v2 108 2 (l2.map ArRow), .own v0 120 3 (l0.map InRow), .own v1 9 1 (l1.map Wrow)] ?_ ⟨[0, 0, 0, 0, 0, 0], [], rfl⟩ ?_
        · (repeat (first | exact True.intro | refine ⟨rfl, ?_⟩))
        cases h : isA l c12 Karray with
        | true =>
          have hlt := isA_lt h
          rw [lpG_go h hn] at e
          simp only [arG, R.bind_assoc, bind_okE] at e
          refine am_ (R_ (M_ r_ (o_ r_ (bi_ [0] r_ r_ (has_y hl i2 h) (T_ (aq_ r_ r_ (as_ (al_ (au_ (jc_hpV 9 (n := 11) rfl 2 [.string nm, .int .i64 pe, .int .i64 de, .int .i64 pr, .int .i64 ji, v0, v1, v2, .slice none 0 0, .slice none 0 0, .slice none 0 0] k_ rfl rfl (df_ (i := 0) rfl k_ k_ k_ b_ (by (repeat (first | refine pani_then ?_ | refine pani_block ?_)); exact pani_body) (dl_ rfl rfl rfl b_) ?_)))))))))))
          refine df_ (i := 1) rfl k_ k_ k_ b_ (by (repeat (first | refine pani_then ?_ | refine pani_block ?_)); exact pani_body) (dm_ 2 rfl rfl rfl mem0 rfl) ?_
          refine df_ (i := 2) rfl k_ k_ k_ b_ (by (repeat (first | refine pani_then ?_ | refine pani_block ?_)); exact pani_body) (dk_ rfl) ?_
          refine df_ (i := 4) rfl k_ k_ k_ b_ (by (repeat (first | refine pani_then ?_ | refine pani_block ?_)); exact pani_body) (dk_ rfl) ?_
          refine hp_bindE (i := 3) rfl k_ (nb rfl) [0] rfl rfl (pname_p (a := c12 + 1) hl g_) e (fun v hv => by (repeat (first | refine pq_then ?_ | refine pq_block ?_)); exact pq_fin hv) ?_
          clear e
          intro s c20 k20 g20 e
          refine ⟨?_, ?_⟩
          exact keep1 2 rfl
          refine hp_bindE (i := 5) rfl k_ (nb rfl) [0] rfl rfl (pnum_p (a := c20) hl g_) e (fun v hv => by (repeat (first | refine pq_then ?_ | refine pq_block ?_)); exact pq_fin hv) ?_
          clear e
          intro n c21 k21 g21 e
          refine ⟨?_, ?_⟩
          exact keep1 2 rfl
          refine dg_ (i := 6) r_ k_ b_ (bu_ r_ r_ r_ r_ r_ ⟨?_, ?_⟩)
          exact keep1 2 rfl
          refine dg_ (i := 7) r_ k_ b_ (bq_ r_ r_ b_ r_ r_ b_ ⟨?_, ?_⟩)
          exact keep1 2 rfl
          refine dg_ (i := 8) rfl k_ b_ (ow_apR 3 ((s, n) : Arr) (f := ArRow) rfl rfl rfl rfl rfl rfl rfl (fun _ => rfl) g_ b_ (fun v2 hv2 => ⟨?_, ?_⟩))
          exact keep1 3 rfl
          refine df_ (i := 9) rfl k_ k_ k_ b_ (by (repeat (first | refine pani_then ?_ | refine pani_block ?_)); exact pani_body) (dl_ rfl rfl rfl b_) ?_
          refine hp_tail (dj_ (i := 10) rfl k_ (by decide) (ca_ 3 rfl rfl rfl rfl b_ (ht_done k_ (ay_ (jq_againS (i := (l2, c12, n2, v2)) ((l2 ++ [(s, n)], c21, n2 - 1, v2) : List Arr × Nat × Nat × Value) ⟨⟨by dsimp only; omega, g21.2⟩, by dsimp only; omega, by dsimp only; simp only [List.length_append, List.length_singleton]; omega, e⟩ (by dsimp only; omega) ?_ ?_)))))
          · exact bc_ 2 r_ (bc_ 2 r_ (bc_ 0 r_ (bc_ 0 r_ (bc_ 0 r_ (bc_ 0 r_ sub_end)))))
          · (repeat (first | exact True.intro | refine ⟨rfl, ?_⟩))
        | false =>
          rw [lpG_stop h, bind_okE] at e
          refine am_ (R_ (M_ r_ (o_ r_ (bi_ [0] r_ r_ (has_n hl i2 h) (T_ (ap_ r_ r_ (av_ (ax_ (ax_ (ba_ (al_ (B_ ?_))))))))))))
          rw [tkD] at e
          refine jc_ownNil 122 4 g_ ?_
          refine jc_loopS (ι := List Md × Nat × Nat × Value) [] (fun i => (c12 ≤ i.2.1 ∧ i.2.1 ≤ l.length) ∧ l.length - i.2.1 ≤ i.2.2.1 ∧ i.1.length ≤ i.2.1 ∧ fin0 = finR l b TkS ((lpG l Kmode (mdG l) i.2.2.1 i.2.1 i.1).bind fun x b => tkE l nm pe de pr ji l0 l1 l2 x b))
            (fun i => [(0, Ptr b), (2, Ptr bR), (3, Ptr bT)]) (fun i => [Pz b l i.2.1, .blk bR 50 [.val (.string ⟨#[]⟩), .val (.int .i64 0), .val (.int .i64 0), .val (.int .i64 0), .val (.int .i64 0), .val (.slice none 0 0), .val (.slice none 0 0), .val (.slice none 0 0), .val (.slice none 0 0), .val (.slice none 0 0), .val (.slice none 0 0)], .blk bT 50 [.val (.string nm), .val (.int .i64 pe), .val (.int .i64 de), .val (.int .i64 pr), .val (.int .i64 ji), .val (v0), .val (v1), .val (v2), .val (i.2.2.2), .val (.slice none 0 0), .val (.slice none 0 0)], .own i.2.2.2 122 4 (i.1.map MdRow), .own v0 120 3 (l0.map InRow), .own v1 9 1 (l1.map Wrow), .own v2 108 2 (l2.map ArRow)]) (fun i => l.length - i.2.1) ([], c12, l.length + 1, .slice none 0 0) ⟨⟨Nat.le_refl _, i2⟩, by dsimp only; omega, Nat.zero_le _, e⟩ ?_ ?_ ?_
          · exact bc_ 1 r_ (bc_ 1 r_ (bc_ 1 r_ (bc_ 0 r_ (bc_ 1 r_ (bc_ 1 r_ (bc_ 0 r_ sub_end))))))
          · (repeat (first | exact True.intro | refine ⟨rfl, ?_⟩))
          clear e h hn hacc i1 i2
          rintro ⟨l3, c13, n3, v3⟩ ⟨⟨i1, i2⟩, hn, hacc, e⟩
          dsimp only at i1 i2 hn hacc e ⊢
          refine jc_reset [(0, Ptr b), (2, Ptr bR), (3, Ptr bT)] [Pz b l c13, .blk bR 50 [.val (.string ⟨#[]⟩), .val (.int .i64 0), .val (.int .i64 0), .val (.int .i64 0), .val (.int .i64 0), .val (.slice none 0 0), .val (.slice none 0 0), .val (.slice none 0 0), .val (.slice none 0 0), .val (.slice none 0 0), .val (.slice none 0 0)], .blk bT 50 [.val (.string nm), .val (.int .i64 pe), .val (.int .i64 de), .val (.int .i64 pr), .val (.int .i64 ji), .val (v0), .val (v1), .val (v2), .val (v3), .val (.slice none 0 0), .val (.slice none 0 0)], .own v3 122 4 (l3.map MdRow), .own v0 120 3 (l0.map InRow), .own v1 9 1 (l1.map Wrow), .own v2 108 2 (l2.map ArRow)] ?_ ⟨[0, 0, 0, 0, 0, 0, 0], [], rfl⟩ ?_
          · (repeat (first | exact True.intro | refine ⟨rfl, ?_⟩))
          cases h : isA l c13 Kmode with
          | true =>
            have hlt := isA_lt h
            rw [lpG_go h hn] at e
            simp only [mdG, R.bind_assoc, bind_okE] at e
            refine am_ (R_ (M_ r_ (o_ r_ (bi_ [0] r_ r_ (has_y hl i2 h) (T_ (aq_ r_ r_ (as_ (al_ (au_ (jc_hpV 13 (n := 15) rfl 2 [.string nm, .int .i64 pe, .int .i64 de, .int .i64 pr, .int .i64 ji, v0, v1, v2, v3, .slice none 0 0, .slice none 0 0] k_ rfl rfl (df_ (i := 0) rfl k_ k_ k_ b_ (by (repeat (first | refine pani_then ?_ | refine pani_block ?_)); exact pani_body) (dl_ rfl rfl rfl b_) ?_)))))))))))
            refine df_ (i := 1) rfl k_ k_ k_ b_ (by (repeat (first | refine pani_then ?_ | refine pani_block ?_)); exact pani_body) (dm_ 2 rfl rfl rfl mem0 rfl) ?_
            refine df_ (i := 2) rfl k_ k_ k_ b_ (by (repeat (first | refine pani_then ?_ | refine pani_block ?_)); exact pani_body) (dk_ rfl) ?_
            refine df_ (i := 4) rfl k_ k_ k_ b_ (by (repeat (first | refine pani_then ?_ | refine pani_block ?_)); exact pani_body) (dk_ rfl) ?_
            refine df_ (i := 6) rfl k_ k_ k_ b_ (by (repeat (first | refine pani_then ?_ | refine pani_block ?_)); exact pani_body) (dk_ rfl) ?_
            refine df_ (i := 8) rfl k_ k_ k_ b_ (by (repeat (first | refine pani_then ?_ | refine pani_block ?_)); exact pani_body) (dk_ rfl) ?_
            refine hp_bindE (i := 3) rfl k_ (nb rfl) [0] rfl rfl (pname_p (a := c13 + 1) hl g_) e (fun v hv => by (repeat (first | refine pq_then ?_ | refine pq_block ?_)); exact pq_fin hv) ?_
            clear e
            intro s c20 k20 g20 e
            refine ⟨?_, ?_⟩
            exact keep1 2 rfl
            refine hp_bindE (i := 5) rfl k_ (nb rfl) [0] rfl rfl (pname_p (a := c20) hl g_) e (fun v hv => by (repeat (first | refine pq_then ?_ | refine pq_block ?_)); exact pq_fin hv) ?_
            clear e
            intro i c21 k21 g21 e
            refine ⟨?_, ?_⟩
            exact keep1 2 rfl
            refine hp_bindE (i := 7) rfl k_ (nb rfl) [0] rfl rfl (pnumber_p (a := c21) hl g_) e (fun v hv => by (repeat (first | refine pq_then ?_ | refine pq_block ?_)); exact pq_fin hv) ?_
            clear e
            intro lo c22 k22 g22 e
            refine ⟨?_, ?_⟩
            exact keep1 2 rfl
            refine hp_bindE (i := 9) rfl k_ (nb rfl) [0] rfl rfl (pnumber_p (a := c22) hl g_) e (fun v hv => by (repeat (first | refine pq_then ?_ | refine pq_block ?_)); exact pq_fin hv) ?_
            clear e
            intro hi c23 k23 g23 e
            refine ⟨?_, ?_⟩
            exact keep1 2 rfl
            refine dg_ (i := 10) r_ k_ b_ (bu_ r_ r_ r_ r_ r_ ⟨?_, ?_⟩)
            exact keep1 2 rfl
            refine dg_ (i := 11) r_ k_ b_ (bq_ r_ r_ b_ r_ r_ b_ ⟨?_, ?_⟩)
            exact keep1 2 rfl
            refine dg_ (i := 12) rfl k_ b_ (ow_apR 3 ((s, i, lo, hi) : Md) (f := MdRow) rfl rfl rfl rfl rfl rfl rfl (fun _ => rfl) g_ b_ (fun v2 hv2 => ⟨?_, ?_⟩))
            exact keep1 3 rfl
            refine df_ (i := 13) rfl k_ k_ k_ b_ (by (repeat (first | refine pani_then ?_ | refine pani_block ?_)); exact pani_body) (dl_ rfl rfl rfl b_) ?_
            refine hp_tail (dj_ (i := 14) rfl k_ (by decide) (ca_ 3 rfl rfl rfl rfl b_ (ht_done k_ (ay_ (jq_againS (i := (l3, c13, n3, v3)) ((l3 ++ [(s, i, lo, hi)], c23, n3 - 1, v2) : List Md × Nat × Nat × Value) ⟨⟨by dsimp only; omega, g23.2⟩, by dsimp only; omega, by dsimp only; simp only [List.length_append, List.length_singleton]; omega, e⟩ (by dsimp only; omega) ?_ ?_)))))
            · exact bc_ 2 r_ (bc_ 2 r_ (bc_ 0 r_ (bc_ 0 r_ (bc_ 0 r_ (bc_ 0 r_ (bc_ 0 r_ sub_end))))))
            · (repeat (first | exact True.intro | refine ⟨rfl, ?_⟩))
          | false =>
            rw [lpG_stop h, bind_okE] at e
            refine am_ (R_ (M_ r_ (o_ r_ (bi_ [0] r_ r_ (has_n hl i2 h) (T_ (ap_ r_ r_ (av_ (ax_ (ax_ (ba_ (al_ (B_ ?_))))))))))))
            rw [tkE] at e
            refine jc_ownNil 124 2 g_ ?_
            refine jc_loopS (ι := List Clm × Nat × Nat × Value) [] (fun i => (c13 ≤ i.2.1 ∧ i.2.1 ≤ l.length) ∧ l.length - i.2.1 ≤ i.2.2.1 ∧ i.1.length ≤ i.2.1 ∧ fin0 = finR l b TkS ((lpG l Knever (clG l) i.2.2.1 i.2.1 i.1).bind fun x b => tkF l nm pe de pr ji l0 l1 l2 l3 x b))
              (fun i => [(0, Ptr b), (2, Ptr bR), (3, Ptr bT)]) (fun i => [Pz b l i.2.1, .blk bR 50 [.val (.string ⟨#[]⟩), .val (.int .i64 0), .val (.int .i64 0), .val (.int .i64 0), .val (.int .i64 0), .val (.slice none 0 0), .val (.slice none 0 0), .val (.slice none 0 0), .val (.slice none 0 0), .val (.slice none 0 0), .val (.slice none 0 0)], .blk bT 50 [.val (.string nm), .val (.int .i64 pe), .val (.int .i64 de), .val (.int .i64 pr), .val (.int .i64 ji), .val (v0), .val (v1), .val (v2), .val (v3), .val (i.2.2.2), .val (.slice none 0 0)], .own i.2.2.2 124 2 (i.1.map ClRow), .own v0 120 3 (l0.map InRow), .own v1 9 1 (l1.map Wrow), .own v2 108 2 (l2.map ArRow), .own v3 122 4 (l3.map MdRow)]) (fun i => l.length - i.2.1) ([], c13, l.length + 1, .slice none 0 0) ⟨⟨Nat.le_refl _, i2⟩, by dsimp only; omega, Nat.zero_le _, e⟩ ?_ ?_ ?_
            · exact bc_ 1 r_ (bc_ 1 r_ (bc_ 1 r_ (bc_ 0 r_ (bc_ 1 r_ (bc_ 1 r_ (bc_ 1 r_ (bc_ 0 r_ sub_end)))))))
            · (repeat (first | exact True.intro | refine ⟨rfl, ?_⟩))
            clear e h hn hacc i1 i2
            rintro ⟨l4, c14, n4, v4⟩ ⟨⟨i1, i2⟩, hn, hacc, e⟩
            dsimp only at i1 i2 hn hacc e ⊢
            refine jc_reset [(0, Ptr b), (2, Ptr bR), (3, Ptr bT)] [Pz b l c14, .blk bR 50 [.val (.string ⟨#[]⟩), .val (.int .i64 0), .val (.int .i64 0), .val (.int .i64 0), .val (.int .i64 0), .val (.slice none 0 0), .val (.slice none 0 0), .val (.slice none 0 0), .val (.slice none 0 0), .val (.slice none 0 0), .val (.slice none 0 0)], .blk bT 50 [.val (.string nm), .val (.int .i64 pe), .val (.int .i64 de), .val (.int .i64 pr), .val (.int .i64 ji), .val (v0), .val (v1), .val (v2), .val (v3), .val (v4), .val (.slice none 0 0)], .own v4 124 2 (l4.map ClRow), .own v0 120 3 (l0.map InRow), .own v1 9 1 (l1.map Wrow), .own v2 108 2 (l2.map ArRow), .own v3 122 4 (l3.map MdRow)] ?_ ⟨[0, 0, 0, 0, 0, 0, 0, 0], [], rfl⟩ ?_
            · (repeat (first | exact True.intro | refine ⟨rfl, ?_⟩))
            cases h : isA l c14 Knever with
            | true =>
              have hlt := isA_lt h
              rw [lpG_go h hn] at e
              simp only [clG, R.bind_assoc, bind_okE] at e
              refine am_ (R_ (M_ r_ (o_ r_ (bi_ [0] r_ r_ (has_y hl i2 h) (T_ (aq_ r_ r_ (as_ (al_ (au_ (jc_hpV 9 (n := 11) rfl 2 [.string nm, .int .i64 pe, .int .i64 de, .int .i64 pr, .int .i64 ji, v0, v1, v2, v3, v4, .slice none 0 0] k_ rfl rfl (df_ (i := 0) rfl k_ k_ k_ b_ (by (repeat (first | refine pani_then ?_ | refine pani_block ?_)); exact pani_body) (dl_ rfl rfl rfl b_) ?_)))))))))))
              refine df_ (i := 1) rfl k_ k_ k_ b_ (by (repeat (first | refine pani_then ?_ | refine pani_block ?_)); exact pani_body) (dm_ 2 rfl rfl rfl mem0 rfl) ?_
              refine df_ (i := 2) rfl k_ k_ k_ b_ (by (repeat (first | refine pani_then ?_ | refine pani_block ?_)); exact pani_body) (dk_ rfl) ?_
              refine df_ (i := 4) rfl k_ k_ k_ b_ (by (repeat (first | refine pani_then ?_ | refine pani_block ?_)); exact pani_body) (dk_ rfl) ?_
              refine hp_bindE (i := 3) rfl k_ (nb rfl) [0] rfl rfl (pnum_p (a := c14 + 1) hl g_) e (fun v hv => by (repeat (first | refine pq_then ?_ | refine pq_block ?_)); exact pq_fin hv) ?_
              clear e
              intro x c20 k20 g20 e
              refine ⟨?_, ?_⟩
              exact keep1 2 rfl
              refine hp_bindE (i := 5) rfl k_ (nb rfl) [0] rfl rfl (pnum_p (a := c20) hl g_) e (fun v hv => by (repeat (first | refine pq_then ?_ | refine pq_block ?_)); exact pq_fin hv) ?_
              clear e
              intro y c21 k21 g21 e
              refine ⟨?_, ?_⟩
              exact keep1 2 rfl
              refine dg_ (i := 6) r_ k_ b_ (bu_ r_ r_ r_ r_ r_ ⟨?_, ?_⟩)
              exact keep1 2 rfl
              refine dg_ (i := 7) r_ k_ b_ (bq_ r_ r_ b_ r_ r_ b_ ⟨?_, ?_⟩)
              exact keep1 2 rfl
              refine dg_ (i := 8) rfl k_ b_ (ow_apR 3 ((x, y) : Clm) (f := ClRow) rfl rfl rfl rfl rfl rfl rfl (fun _ => rfl) g_ b_ (fun v2 hv2 => ⟨?_, ?_⟩))
              exact keep1 3 rfl
              refine df_ (i := 9) rfl k_ k_ k_ b_ (by (repeat (first | refine pani_then ?_ | refine pani_block ?_)); exact pani_body) (dl_ rfl rfl rfl b_) ?_
              refine hp_tail (dj_ (i := 10) rfl k_ (by decide) (ca_ 3 rfl rfl rfl rfl b_ (ht_done k_ (ay_ (jq_againS (i := (l4, c14, n4, v4)) ((l4 ++ [(x, y)], c21, n4 - 1, v2) : List Clm × Nat × Nat × Value) ⟨⟨by dsimp only; omega, g21.2⟩, by dsimp only; omega, by dsimp only; simp only [List.length_append, List.length_singleton]; omega, e⟩ (by dsimp only; omega) ?_ ?_)))))
              · exact bc_ 2 r_ (bc_ 2 r_ (bc_ 0 r_ (bc_ 0 r_ (bc_ 0 r_ (bc_ 0 r_ (bc_ 0 r_ (bc_ 0 r_ sub_end)))))))
              · (repeat (first | exact True.intro | refine ⟨rfl, ?_⟩))
            | false =>
              rw [lpG_stop h, bind_okE] at e
              refine am_ (R_ (M_ r_ (o_ r_ (bi_ [0] r_ r_ (has_n hl i2 h) (T_ (ap_ r_ r_ (av_ (ax_ (ax_ (ba_ (al_ (R_ (M_ r_ ?_)))))))))))))
              rw [tkF, bodyG] at e
              simp only [R.bind_assoc, bind_okE] at e
              -- body
              refine jl_bindE [0] rfl rfl (pword_p hl i2 Kbody) e (fun v hv => by (repeat (first | refine pq_then ?_ | refine pq_block ?_)); exact pq_fin hv) (nb rfl) ?_
              clear e
              intro u2 b3 k3 g3 e
              refine T_ (B_ (jc_ownNil 52 8 g_ ?_))
              refine jc_loopS (ι := List Sm × Nat × Nat × Value) [] (fun i => (b3 ≤ i.2.1 ∧ i.2.1 ≤ l.length) ∧ l.length - i.2.1 ≤ i.2.2.1 ∧ i.1.length ≤ i.2.1 ∧ fin0 = finR l b TkS ((stmtsL l (stmtG l (l.length + 1) 0) 0 i.2.2.1 i.2.1 i.1).bind fun ss c => (wdG l Kend c).bind fun _ d => .ok ⟨nm, pe, de, pr, ji, l0, l1, l2, l3, l4, ss⟩ d))
                (fun i => [(0, Ptr b), (2, Ptr bR), (3, Ptr bT)]) (fun i => [Pz b l i.2.1, .blk bR 50 [.val (.string ⟨#[]⟩), .val (.int .i64 0), .val (.int .i64 0), .val (.int .i64 0), .val (.int .i64 0), .val (.slice none 0 0), .val (.slice none 0 0), .val (.slice none 0 0), .val (.slice none 0 0), .val (.slice none 0 0), .val (.slice none 0 0)], .blk bT 50 [.val (.string nm), .val (.int .i64 pe), .val (.int .i64 de), .val (.int .i64 pr), .val (.int .i64 ji), .val (v0), .val (v1), .val (v2), .val (v3), .val (v4), .val (i.2.2.2)], .own i.2.2.2 52 8 (i.1.map Sm.row'), .own v0 120 3 (l0.map InRow), .own v1 9 1 (l1.map Wrow), .own v2 108 2 (l2.map ArRow), .own v3 122 4 (l3.map MdRow), .own v4 124 2 (l4.map ClRow)]) (fun i => l.length + 1 - i.2.1) ([], b3, l.length + 1, .slice none 0 0) ⟨⟨Nat.le_refl _, g3.2⟩, by dsimp only; omega, Nat.zero_le _, e⟩ ?_ ?_ ?_
              · exact bc_ 1 r_ (bc_ 1 r_ (bc_ 1 r_ (bc_ 0 r_ (bc_ 1 r_ (bc_ 1 r_ (bc_ 1 r_ (bc_ 1 r_ (bc_ 0 r_ sub_end))))))))
              · (repeat (first | exact True.intro | refine ⟨rfl, ?_⟩))
              clear e h hn hacc i1 i2 g3 k3
              rintro ⟨ss, c, n, v⟩ ⟨⟨j1, j2⟩, hn2, hacc2, e⟩
              dsimp only at j1 j2 hn2 hacc2 e ⊢
              refine jc_reset [(0, Ptr b), (2, Ptr bR), (3, Ptr bT)] [Pz b l c, .blk bR 50 [.val (.string ⟨#[]⟩), .val (.int .i64 0), .val (.int .i64 0), .val (.int .i64 0), .val (.int .i64 0), .val (.slice none 0 0), .val (.slice none 0 0), .val (.slice none 0 0), .val (.slice none 0 0), .val (.slice none 0 0), .val (.slice none 0 0)], .blk bT 50 [.val (.string nm), .val (.int .i64 pe), .val (.int .i64 de), .val (.int .i64 pr), .val (.int .i64 ji), .val (v0), .val (v1), .val (v2), .val (v3), .val (v4), .val (v)], .own v 52 8 (ss.map Sm.row'), .own v0 120 3 (l0.map InRow), .own v1 9 1 (l1.map Wrow), .own v2 108 2 (l2.map ArRow), .own v3 122 4 (l3.map MdRow), .own v4 124 2 (l4.map ClRow)] ?_ ⟨[0, 0, 0, 0, 0, 0, 0, 0, 0], [], rfl⟩ ?_
              · (repeat (first | exact True.intro | refine ⟨rfl, ?_⟩))
              cases h2 : isA l c Kend with
              | true =>
                rw [stmtsL_stop (start_end h2), bind_okE, wdG_y h2, bind_okE] at e
                refine am_ (R_ (M_ r_ (o_ r_ (bi_ [0] r_ r_ (has_y hl j2 h2) (o_ r_ (cd_ r_ (T_ (ap_ r_ r_ (av_ (ax_ (ax_ (ba_ (al_ (R_ (A_ 2 r_ (S_ 1 r_ (T_ ?_)))))))))))))))))
                refine ar_ (jq_freezeBi 4 0 5 rfl rfl rfl (by rw [hc]; simp [hb, Ch.bs]) (jq_freezeBi 4 0 6 rfl rfl rfl (by rw [hc]; simp [hb, Ch.bs]) (jq_freezeBi 4 0 7 rfl rfl rfl (by rw [hc]; simp [hb, Ch.bs]) (jq_freezeBi 4 0 8 rfl rfl rfl (by rw [hc]; simp [hb, Ch.bs]) (jq_freezeBi 4 0 9 rfl rfl rfl (by rw [hc]; simp [hb, Ch.bs]) (jq_freezeBi 3 0 10 rfl rfl rfl (by rw [hc]; simp [hb, Ch.bs]) (jq_fin e ?_)))))))
                exact jq_retRowS rfl rfl rfl rfl 0 rfl (fun K h => by rw [smrows]; exact h) (bc_ 1 r_ sub_end)
              | false =>
                rw [stmts_goK h2 hn2] at e
                have eS : (ss.map Sm.row').length = ss.length := List.length_map _
                refine am_ (R_ (M_ r_ (o_ r_ (bi_ [0] r_ r_ (has_n hl j2 h2) (o_ r_ (cd_ r_ (T_ (aq_ r_ r_ (as_ (al_ (au_ (jc_hpV 6 (n := 11) rfl 2 [.string nm, .int .i64 pe, .int .i64 de, .int .i64 pr, .int .i64 ji, v0, v1, v2, v3, v4, v] k_ rfl rfl (df_ (i := 0) rfl k_ k_ k_ b_ (by (repeat (first | refine pani_then ?_ | refine pani_block ?_)); exact pani_body) (dl_ rfl rfl rfl b_) ?_)))))))))))))
                refine df_ (i := 1) rfl k_ k_ k_ b_ (by (repeat (first | refine pani_then ?_ | refine pani_block ?_)); exact pani_body) (dm_ 2 rfl rfl rfl mem0 rfl) ?_
                refine df_ (i := 2) rfl k_ k_ k_ b_ (by (repeat (first | refine pani_then ?_ | refine pani_block ?_)); exact pani_body) (dk_ rfl) ?_
                refine df_ (i := 4) rfl k_ k_ k_ b_ (by (repeat (first | refine pani_then ?_ | refine pani_block ?_)); exact pani_body) (hok_lenown 3 rfl rfl (by rw [eS]; omega)) ?_
                refine hp_two_bindE (i := 5) (j := 3) rfl rfl (by kernel_rfl) (by kernel_rfl) (by kernel_rfl) (nb rfl) (nb rfl) rfl rfl (keep1 2 rfl) (ow_buildSliceC zSmV rfl rfl rfl rfl (nb rfl) rfl (nb rfl) ⟨rfl, rfl⟩) (fun _ _ => ow_buildSliceC zSmV rfl rfl rfl rfl (nb rfl) rfl (nb rfl) ⟨rfl, rfl⟩)
                  [0] rfl rfl (hS b 0 c _ (by omega) (by omega) j2 (by omega)) e (fun v hv => by (repeat (first | refine pq_then ?_ | refine pq_block ?_)); exact pq_fin hv) (fun s c2 k2 g4 e => ⟨?_, ?_⟩)
                · exact keep1 2 rfl
                refine dg_ (i := 6) rfl k_ b_ (ow_apRow 3 rfl rfl rfl rfl rfl rfl rfl rfl g_ b_ (fun w2 hw2 => ⟨?_, ?_⟩))
                · exact keep1 3 rfl
                refine hp_rest (n := 11) k_ (df_ (i := 9) rfl k_ k_ k_ b_ (by (repeat (first | refine pani_then ?_ | refine pani_block ?_)); exact pani_body) (dl_ rfl rfl rfl b_) ?_)
                refine df_ (i := 7) rfl k_ k_ k_ b_ (by (repeat (first | refine pani_then ?_ | refine pani_block ?_)); exact pani_body) (hok_indexOwn 0 rfl rfl rfl g_ (by simp only [List.length_append, List.length_singleton]; omega) rfl) ?_
                have e9 : ((ss.map Sm.row') ++ [zSm]).set ss.length s.row' = (ss ++ [s]).map Sm.row' := by rw [set_snoc _ _ _ _ eS.symm, List.map_append]; rfl
                refine hp_both0 (i := 8) (j := 10) rfl rfl k_ (ow_storeInnAll (row := zSm) 0 ss.length rfl rfl rfl rfl g_ (get_snoc _ _ _ eS.symm) rfl rfl rfl ⟨keepT, ?_⟩) (ca_ 3 rfl rfl rfl rfl (nb rfl) ⟨keepT, ?_⟩)
                · refine dh_ (i := 10) r_ k_ (ca_ 3 r_ r_ r_ r_ b_ ⟨keepT, (hp_done k_ (ay_ (jq_againS (i := (ss, c, n, v)) ((ss ++ [s], c2, n - 1, w2) : List Sm × Nat × Nat × Value) ⟨⟨by dsimp only; omega, g4.2⟩, by dsimp only; omega, by dsimp only; simp only [List.length_append, List.length_singleton]; omega, e⟩ (by dsimp only; omega) ?_ ?_)))⟩)
                  · dsimp only
                    rw [← e9]
                    exact bc_ 2 r_ (bc_ 2 r_ (bc_ 0 r_ (bc_ 0 r_ (bc_ 0 r_ (bc_ 0 r_ (bc_ 0 r_ (bc_ 0 r_ (bc_ 0 r_ sub_end))))))))
                  · (repeat (first | exact True.intro | refine ⟨rfl, ?_⟩))
                · refine dh_ (i := 8) r_ k_ (ow_storeInnAll (row := zSm) 1 ss.length r_ r_ r_ r_ g_ (get_snoc _ _ _ eS.symm) r_ r_ r_ ⟨keepT, (hp_done k_ (ay_ (jq_againS (i := (ss, c, n, v)) ((ss ++ [s], c2, n - 1, w2) : List Sm × Nat × Nat × Value) ⟨⟨by dsimp only; omega, g4.2⟩, by dsimp only; omega, by dsimp only; simp only [List.length_append, List.length_singleton]; omega, e⟩ (by dsimp only; omega) ?_ ?_)))⟩)
                  · dsimp only
                    rw [← e9]
                    exact bc_ 2 r_ (bc_ 2 r_ (bc_ 1 r_ (bc_ 0 r_ (bc_ 0 r_ (bc_ 0 r_ (bc_ 0 r_ (bc_ 0 r_ (bc_ 0 r_ sub_end))))))))
                  · (repeat (first | exact True.intro | refine ⟨rfl, ?_⟩))
end
end Go.Proofs.YtamajcgdfjeehaaDoor
end
